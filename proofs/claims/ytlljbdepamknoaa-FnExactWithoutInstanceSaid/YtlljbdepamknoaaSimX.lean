/- A part of the proof of a statement of this seat: see the text that holds the theorem. No condition. -/
import Derived.Test.YtlljbdepamknoaaSimR
import Derived.ChangeArms
import Derived.ChangeSlices
import Derived.Lib.Join
import Derived.Carry
import Derived.Lib.Bytealg
import Derived.Lib.Strings
import Derived.Lib.ItoaNum
import Derived.Lib.LaidTab
import Derived.Sort.Grow
import Derived.Deep.Draws
import Derived.Shelf.SlIter.Nil
set_option linter.unusedVariables false
set_option linter.unusedSimpArgs false
set_option linter.all false
set_option linter.unusedSimpArgs false
namespace Go.Sim
open Go Go.RowKit

inductive Dt where
  | int (k : IntKind) (n : Int)
  | bool (b : Bool)
  | str (s : List Nat)
  | sl (ds : List Dt)
  | st (ds : List Dt)
  deriving Inhabited

def Ydq (P : Program) : Nat → List Field → Nat → Bool
  | o, [], n => Nat.beq o n
  | o, f :: r, n => Nat.beq f.offset o && Ydq P (o + P.cellsOf f.type) r n
def okT (P : Program) : Nat → TypeId → Bool
  | 0, _ => false
  | n + 1, t => match P.underlying t with
    | some .bool => Nat.beq (P.cellsOf t) 1
    | some (.int _) => Nat.beq (P.cellsOf t) 1
    | some .string => Nat.beq (P.cellsOf t) 1
    | some (.slice e) => Nat.beq (P.cellsOf t) 1 && Nat.ble 1 (P.cellsOf e) && okT P n e
    | some (.struct fs) => Ydq P 0 fs.toList (P.cellsOf t) && fs.toList.all fun f => okT P n f.type
    | _ => false

def rd (P : Program) (h : Zaa) : Nat → TypeId → List Zag → Dt → Prop
  | 0, _, _, _ => False
  | f + 1, t, cs, d => match P.underlying t with
    | some .bool => ∃ b, cs = [.bool b] ∧ d = .bool b
    | some (.int k) => ∃ n, cs = [.int k n] ∧ d = .int k n ∧ (Lit.int k n).wf = true
    | some .string => ∃ s, cs = [.str s] ∧ d = .str s ∧ s.length ≤ 9223372036854775807 ∧ ∀ b ∈ s, b < 256
    | some (.slice e) => ∃ (a : Pt) (n c : Nat) (ex : Bool) (ds : List Dt) (vs : List (List Zag)), cs = [.slice a n c ex] ∧ d = .sl ds ∧ ds.length = n ∧ n ≤ 9223372036854775807 ∧ vs.length = n ∧ Row h.length h a (n * P.cellsOf e) vs.flatten ∧
        ∀ (i : Nat) (v : List Zag) (x : Dt), vs[i]? = some v → ds[i]? = some x → v.length = P.cellsOf e ∧ rd P h f e v x
    | some (.struct fs) => ∃ (ds : List Dt) (vs : List (List Zag)), d = .st ds ∧ ds.length = fs.size ∧ vs.length = fs.size ∧ cs = vs.flatten ∧
        ∀ (i : Nat) (fd : Field) (v : List Zag) (x : Dt), fs[i]? = some fd → vs[i]? = some v → ds[i]? = some x → v.length = P.cellsOf fd.type ∧ rd P h f fd.type v x
    | _ => False
theorem Zqk {P : Program} {h h' : Zaa} (s : Zbd h.length h h') : ∀ (f : Nat) {t : TypeId} {cs : List Zag} {d : Dt}, rd P h f t cs d → rd P h' f t cs d
  | 0, _, _, _, hr => hr.elim
  | f + 1, t, cs, d, hr => by
    unfold rd at *
    split at hr
    · exact hr
    · exact hr
    · exact hr
    · obtain ⟨a, n, c, ex, ds, vs, h1, h2, h3, h4, h5, h6, h7⟩ := hr
      exact ⟨a, n, c, ex, ds, vs, h1, h2, h3, h4, h5, (h6.same s).mono s.le, fun i v x hv hx => ⟨(h7 i v x hv hx).1, Zqk s f (h7 i v x hv hx).2⟩⟩
    · obtain ⟨ds, vs, h1, h2, h3, h4, h5⟩ := hr
      exact ⟨ds, vs, h1, h2, h3, h4, fun i fd v x hf hv hx => ⟨(h5 i fd v x hf hv hx).1, Zqk s f (h5 i fd v x hf hv hx).2⟩⟩
    · exact hr

section
variable {H : Type} {enc : TypeId × Value → H} {P : Program} {w : World} {spare : Nat → Bool} {held : Bool} {base : Nat} {w0 : World}

def Got (P : Program) (base : Nat) (w0 : World) (w : World) (μ : List Pl) (h : Zaa) (F : List Pl → Zaa → Prop) : Prop :=
  ∃ μ' h', Ext μ μ' ∧ Zbd h.length h h' ∧ Rel P base w0 μ' h' w ∧ F μ' h'

theorem Zso (s : ByteArray) : ∀ b ∈ bytesOf s, b < 256 := by
  intro b hb
  simp only [bytesOf, List.mem_map] at hb
  obtain ⟨x, _, rfl⟩ := hb
  exact x.toNat_lt

theorem Zsq {α : Type} (F : α → List Value → Dt → List Zag → Zaa → Prop) (hF : ∀ x y d vs h h', Zbd h.length h h' → F x y d vs h → F x y d vs h') (rdv : α → List Value) :
    ∀ (l : List α), (∀ x ∈ l, ∀ (μ : List Pl) (h : Zaa), Rel P base w0 μ h w → Got P base w0 w μ h fun μ' h' => ∃ vs d, VRs μ' vs (rdv x) ∧ F x (rdv x) d vs h') → ∀ (μ : List Pl) (h : Zaa), Rel P base w0 μ h w →
      Got P base w0 w μ h fun μ' h' => ∃ (vss : List (List Zag)) (ds : List Dt), vss.length = l.length ∧ ds.length = l.length ∧ VRs μ' vss.flatten ((l.map rdv).flatten) ∧
      ∀ (i : Nat) (x : α) (v : List Zag) (d : Dt), l[i]? = some x → vss[i]? = some v → ds[i]? = some d → VRs μ' v (rdv x) ∧ F x (rdv x) d v h'
  | [], _, μ, h, r => ⟨μ, h, Ext.refl _, Zbd.refl _ _, r, [], [], rfl, rfl, .nil, by simp⟩
  | x :: l, step, μ, h, r => by
    obtain ⟨μ1, h1, e1, s1, r1, v, d, hv, hd⟩ := step x (by simp) μ h r
    obtain ⟨μ2, h2, e2, s2, r2, vss, ds, hl1, hl2, hvs, hall⟩ := Zsq F hF rdv l (fun y hy => step y (by simp [hy])) μ1 h1 r1
    refine ⟨μ2, h2, e1.trans e2, s1.trans (s2.mono s1.le), r2, v :: vss, d :: ds, by simp [hl1], by simp [hl2], ?_, ?_⟩
    · simpa using (hv.ext e2).append hvs
    · intro i y v' d' hy hv' hd'
      cases i with
      | zero => simp at hy hv' hd'; subst hy; subst hv'; subst hd'; exact ⟨hv.ext e2, hF _ _ _ _ _ _ s2 hd⟩
      | succ i => simp at hy hv' hd'; exact hall i y v' d' hy hv' hd'

theorem Rel.ro {μ : List Pl} {h : Zaa} (r : Rel P base w0 μ h w) {b o : Nat} {t : TypeId} {cs : List Zag} {C : Array Value} {el : TypeId} {fr : Nat × Nat} (hb : w.heap[b]? = some (.cells C el fr)) (hlt : b < base) (hv : VRs μ cs ((C.toList.drop o).take cs.length)) :
    Rel P base w0 (μ ++ [⟨b, o, false, 0, 0⟩]) (h ++ [.cells t cs true]) w := by
  refine ⟨r.below, by simp [r.len], ?_, ?_, r.size⟩
  · intro i ob hi e' he'
    by_cases hl : i < h.length
    · rw [List.getElem?_append_left hl] at hi
      rw [List.getElem?_append_left (by rw [r.len]; exact hl)] at he'
      exact (r.obj i ob hi e' he').keep (Ext.app _ _) fun x hx => hx
    · rw [List.getElem?_append_right (by omega)] at hi
      rw [List.getElem?_append_right (by rw [r.len]; omega)] at he'
      have hz : i - h.length = 0 := by
        have := (List.getElem?_eq_some_iff.1 hi).1; simp at this; omega
      rw [hz] at hi
      rw [r.len, hz] at he'
      simp at hi he'; subst hi; subst he'
      exact ⟨C, el, fr, hb, hv.ext (Ext.app _ _), by simp; exact hlt⟩
  · intro i j oi oj ei ej hij hi hj hoi hoj hei hej
    have key : ∀ (i : Nat) (oi : Zck), (h ++ [Zck.cells t cs true])[i]? = some oi → oi.own = true → i < h.length := by
      intro i oi hi ho
      by_cases hl : i < h.length
      · exact hl
      · rw [List.getElem?_append_right (by omega)] at hi
        have hz : i - h.length = 0 := by
          have := (List.getElem?_eq_some_iff.1 hi).1; simp at this; omega
        rw [hz] at hi; simp at hi; subst hi; simp [Zck.own] at ho
    have hli := key i oi hi hoi
    have hlj := key j oj hj hoj
    rw [List.getElem?_append_left hli] at hi
    rw [List.getElem?_append_left hlj] at hj
    rw [List.getElem?_append_left (by rw [r.len]; exact hli)] at hei
    rw [List.getElem?_append_left (by rw [r.len]; exact hlj)] at hej
    exact r.sep i j oi oj ei ej hij hi hj hoi hoj hei hej

theorem Ztj {β : Type} (C : List β) (o z : Nat) (f : Nat → List β) : ∀ n, (∀ i, i < n → f i = (C.drop (o + i * z)).take z ∧ (f i).length = z) → ((List.range n).map f).flatten = (C.drop o).take (n * z) ∧ (((List.range n).map f).flatten).length = n * z
  | 0, _ => by simp
  | n + 1, h => by
    obtain ⟨ih, il⟩ := Ztj C o z f n fun i hi => h i (by omega)
    obtain ⟨h1, h2⟩ := h n (by omega)
    rw [List.range_succ, List.map_append, List.flatten_append]
    constructor
    · rw [ih, Nat.succ_mul, List.take_add]
      congr 1
      simp only [List.map_cons, List.map_nil, List.flatten_cons, List.flatten_nil, List.append_nil, h1, List.drop_drop]
    · rw [List.length_append, il, Nat.succ_mul]; simp [h2]
theorem Zor {β : Type} (z : Nat) : ∀ (l : List (List β)) (n : Nat), (∀ x ∈ l, x.length = z) → (l.take n).flatten = l.flatten.take (n * z)
  | [], n, _ => by simp
  | x :: l, 0, _ => by simp
  | x :: l, n + 1, h => by
    have hx := h x (by simp)
    rw [List.take_succ_cons, List.flatten_cons, List.flatten_cons, Zor z l n fun y hy => h y (by simp [hy]), Nat.succ_mul, Nat.add_comm, List.take_append, hx, List.take_of_length_le (l := x) (by omega)]
    congr 2; omega
theorem Zpr {β : Type} (z : Nat) : ∀ (l : List (List β)), (∀ x ∈ l, x.length = z) → l.flatten.length = l.length * z
  | [], _ => by simp
  | x :: l, h => by
    rw [List.flatten_cons, List.length_append, h x (by simp), Zpr z l fun y hy => h y (by simp [hy]), List.length_cons, Nat.succ_mul]; omega

theorem Zmp {a : Addr} {n : Nat} {cs : List Value} (h : w.cells? 0 a n = some cs) (hn : 0 < n) : a.spot = none ∧ ∃ C el fr, w.heap[a.block]? = some (.cells C el fr) ∧ cs.length = n ∧ cs = (C.toList.drop a.off).take n := by
  obtain ⟨_, hl, hc⟩ := World.cells?_some h
  have h0 := hc 0 hn
  have hcs : ∃ v, cs[0]? = some v := ⟨cs[0]'(by omega), List.getElem?_eq_getElem (by omega)⟩
  obtain ⟨v, hv⟩ := hcs
  rw [hv] at h0
  have ha0 : a.add 0 = a := by simp [Addr.add]
  rw [ha0] at h0
  unfold World.cell? at h0
  split at h0
  · rename_i C el fr hb
    split at h0
    · cases h0
    · rename_i hsp
      refine ⟨by simpa using hsp, C, el, fr, hb, hl, ?_⟩
      apply List.ext_getElem?
      intro i
      by_cases hi : i < n
      · rw [← hc i hi]
        have : w.cell? (a.add i) = C[a.off + i]? := by
          unfold Addr.add
          split
          · rename_i e; subst e; simp [World.cell?, hb, hsp]
          · simp [World.cell?, hb]
        rw [this]; simp [List.getElem?_take, hi]
      · rw [List.getElem?_eq_none (by omega), List.getElem?_eq_none (by simp; omega)]
  · cases h0

theorem Zrn (cs : List Value) : ∀ (fs : List Field) (o : Nat), Ydq P o fs cs.length = true → (fs.map fun f => (cs.drop f.offset).take (P.cellsOf f.type)).flatten = cs.drop o
  | [], o, h => by
    have := Nat.eq_of_beq_eq_true h
    subst this; simp
  | f :: fs, o, h => by
    simp only [Ydq, Bool.and_eq_true] at h
    have ho := Nat.eq_of_beq_eq_true h.1
    rw [List.map_cons, List.flatten_cons, Zrn cs fs _ h.2, ho, ← List.drop_drop, List.take_append_drop]

theorem imp (hbase : w.heap.size ≤ base) (hsp : ∀ b, spare b = true) : ∀ (N fuel : Nat) {t : TypeId} {cs : List Value} {x : DataW H × List MemPlace}, okT P N t = true → DataW.trod enc P w 0 spare held fuel t cs = some x →
    ∀ (μ : List Pl) (h : Zaa), Rel P base w0 μ h w → cs.length = P.cellsOf t ∧ Got P base w0 w μ h fun μ' h' => ∃ vs d, VRs μ' vs cs ∧ rd P h' N t vs d
  | 0, _, _, _, _, hok, _, _, _, _ => by simp [okT] at hok
  | N + 1, fuel, t, cs, x, hok, htr, μ, h, r => by
    unfold okT at hok
    cases hu : P.underlying t with
    | none => rw [hu] at hok; simp at hok
    | some td =>
    rw [hu] at hok
    cases td <;> simp only at hok <;> try (simp at hok; done)
    case bool =>
      obtain ⟨b, rfl, _⟩ := DataW.trod_bool hu htr
      exact ⟨by simpa using (Nat.eq_of_beq_eq_true hok).symm, μ, h, Ext.refl _, Zbd.refl _ _, r, _, .bool b, .cons (.bool b) .nil, by simp [rd, hu]⟩
    case int k =>
      obtain ⟨n, rfl, _, hwf⟩ := DataW.trod_int hu htr
      exact ⟨by simpa using (Nat.eq_of_beq_eq_true hok).symm, μ, h, Ext.refl _, Zbd.refl _ _, r, _, .int k n, .cons (.int k n) .nil, by simp [rd, hu, hwf]⟩
    case string =>
      obtain ⟨s, rfl, _, hs⟩ := DataW.trod_string hu htr
      refine ⟨by simpa using (Nat.eq_of_beq_eq_true hok).symm, μ, h, Ext.refl _, Zbd.refl _ _, r, _, .str (bytesOf s), .cons (.str s) .nil, ?_⟩
      simp only [rd, hu]
      exact ⟨_, rfl, rfl, by rw [Zcz]; simpa [maxLen] using hs, Zso s⟩
    case slice e =>
      simp only [Bool.and_eq_true] at hok
      obtain ⟨⟨h1, hz⟩, hoke⟩ := hok
      have hz : 1 ≤ P.cellsOf e := by simpa using hz
      rcases DataW.trod_slice hu htr with ⟨rfl, _⟩ | ⟨a, len, cap, elems, rest, n, _, rfl, _, hb, hl, hm, hlen, hel, hsr, _⟩
      · refine ⟨by simpa using (Nat.eq_of_beq_eq_true h1).symm, μ, h, Ext.refl _, Zbd.refl _ _, r, _, .sl [], .cons .slice0 .nil, ?_⟩
        simp only [rd, hu]
        exact ⟨_, _, _, _, [], [], rfl, rfl, rfl, by omega, rfl, by simpa using Row.nil, by simp⟩
      · refine ⟨by simpa using (Nat.eq_of_beq_eq_true h1).symm, ?_⟩
        obtain ⟨hrl, hre⟩ := hsr (hsp _)
        have hmx : cap ≤ 9223372036854775807 := by simpa [maxLen] using hm
        by_cases hc0 : cap = 0
        · subst hc0
          have : len = 0 := by omega
          subst this
          refine ⟨μ, h, Ext.refl _, Zbd.refl _ _, r, _, .sl [], .cons (.sliceE0 (a := some a)) .nil, ?_⟩
          simp only [rd, hu]
          exact ⟨_, _, _, _, [], [], rfl, rfl, rfl, by omega, rfl, by simpa using Row.nil, by simp⟩
        · -- the cells of each element
          have each : ∀ i, i < cap → ∃ cs y, w.cells? 0 (a.add (i * P.cellsOf e)) (P.cellsOf e) = some cs ∧ DataW.trod enc P w 0 spare held n e cs = some y := by
            intro i hi
            have : ∃ y, (w.cells? 0 (a.add (i * P.cellsOf e)) (P.cellsOf e)).bind (DataW.trod enc P w 0 spare held n e) = some y := by
              by_cases hil : i < len
              · exact ⟨elems[i]'(by omega), by rw [hel i hil, List.getElem?_eq_getElem]⟩
              · have := hre (i - len) (by omega)
                rw [show len + (i - len) = i by omega] at this
                exact ⟨rest[i - len]'(by omega), by rw [this, List.getElem?_eq_getElem]⟩
            obtain ⟨y, hy⟩ := this
            obtain ⟨cs, hcs, hy⟩ := Option.bind_eq_some_iff.1 hy
            exact ⟨cs, y, hcs, hy⟩
          have hz0 : 0 < P.cellsOf e := hz
          obtain ⟨cs0, _, hcs0, _⟩ := each 0 (by omega)
          have ha0 : a.add (0 * P.cellsOf e) = a := by simp [Addr.add]
          rw [ha0] at hcs0
          obtain ⟨hspot, C, el, fr, hblk, _, _⟩ := Zmp hcs0 hz0
          have hlt : a.block < base := Nat.lt_of_lt_of_le (Array.getElem?_eq_some_iff.1 hblk).1 hbase
          obtain ⟨μ2, h2, e2, s2, r2, vss, ds, hl1, hl2, hvs, hall⟩ := Zsq (P := P) (base := base) (w0 := w0) (w := w) (fun _ _ d vs h' => vs.length = P.cellsOf e ∧ rd P h' N e vs d)
            (fun _ _ _ _ _ _ s hd => ⟨hd.1, Zqk s N hd.2⟩) (fun i => (w.cells? 0 (a.add (i * P.cellsOf e)) (P.cellsOf e)).getD []) (List.range cap) (fun i hi μ h r => by
              obtain ⟨cs, y, hcs, hy⟩ := each i (by simpa using hi)
              obtain ⟨hcl, μ', h', ex, sx, rx, vs, d, hv, hd⟩ := imp hbase hsp N n hoke hy μ h r
              refine ⟨μ', h', ex, sx, rx, vs, d, by simpa [hcs] using hv, ?_, hd⟩
              have := hv.length; omega) μ h r
          have hrows := Ztj C.toList a.off (P.cellsOf e) (fun i => (w.cells? 0 (a.add (i * P.cellsOf e)) (P.cellsOf e)).getD []) cap (fun i hi => by
            obtain ⟨cs, y, hcs, _⟩ := each i hi
            obtain ⟨_, C', el', fr', hblk', hcl, hce⟩ := Zmp hcs hz0
            have hab : (a.add (i * P.cellsOf e)).block = a.block := by unfold Addr.add; split <;> rfl
            have hao : (a.add (i * P.cellsOf e)).off = a.off + i * P.cellsOf e := by unfold Addr.add; split <;> simp_all
            rw [hab, hblk] at hblk'
            cases hblk'
            rw [hao] at hce
            simp only [hcs, Option.getD_some]
            exact ⟨hce, hcl⟩)
          have hvl := hvs.length
          have hvz : ∀ v ∈ vss, v.length = P.cellsOf e := by
            intro v hv
            obtain ⟨i, hi⟩ := List.getElem?_of_mem hv
            have hil := (List.getElem?_eq_some_iff.1 hi).1
            simp at hl1 hl2
            exact (hall i i v (ds[i]'(by omega)) (by rw [List.getElem?_range (by omega)]) hi (List.getElem?_eq_getElem _)).2.1
          rw [hrows.1] at hvs
          rw [hrows.2] at hvl
          have r3 := r2.ro (t := e) hblk hlt (o := a.off) (cs := vss.flatten) (by rw [hvl]; exact hvs)
          simp at hl1 hl2
          have s3 : Zbd h2.length h2 (h2 ++ [.cells e vss.flatten true]) := Zbd.app (Nat.le_refl _) _
          refine ⟨_, _, e2.trans (Ext.app _ _), s2.trans (s3.mono s2.le), r3, [.slice (some (h2.length, 0)) len cap true], .sl (ds.take len), .cons ?_ .nil, ?_⟩
          · have hae : a = ⟨a.block, a.off + 0, none⟩ := by rw [← hspot]; rfl
            have := VR.slice (μ := μ2 ++ [⟨a.block, a.off, false, 0, 0⟩]) (i := h2.length) (o := 0) (n := len) (c := cap) (cap := cap) (ex := true) (e := ⟨a.block, a.off, false, 0, 0⟩) (r2.last _) hl (Nat.le_refl _) (fun _ => rfl) (fun hf => by cases hf)
            rw [← hae] at this
            exact this
          · simp only [rd, hu]
            refine ⟨_, _, _, _, ds.take len, vss.take len, rfl, rfl, by simp; omega, by omega, by simp; omega, ?_, ?_⟩
            · have hfl := Zor (P.cellsOf e) vss len hvz
              have hfl2 := Zpr (P.cellsOf e) (vss.take len) fun v hv => hvz v (List.mem_of_mem_take hv)
              refine ⟨by rw [hfl2, List.length_take, Nat.min_eq_left (by omega)], .inr ⟨h2.length, 0, e, vss.flatten, true, rfl, by simp, by simp, ?_, by simpa using hfl⟩⟩
              rw [hvl, Nat.zero_add]; exact Nat.mul_le_mul_right _ hl
            · intro i v y hv hy
              have hil : i < len := by have := (List.getElem?_eq_some_iff.1 hv).1; simp at this; omega
              rw [List.getElem?_take, if_pos hil] at hv hy
              have := (hall i i v y (by rw [List.getElem?_range (by omega)]) hv hy).2
              exact ⟨this.1, Zqk s3 N this.2⟩
    case struct fs =>
      simp only [Bool.and_eq_true, List.all_eq_true] at hok
      obtain ⟨htl, hfs⟩ := hok
      obtain ⟨xs, n, _, _, hcl, hxl, hel⟩ := DataW.trod_struct hu htr
      refine ⟨hcl, ?_⟩
      obtain ⟨μ2, h2, e2, s2, r2, vss, ds, hl1, hl2, hvs, hall⟩ := Zsq (P := P) (base := base) (w0 := w0) (w := w) (fun (f : Field) _ d vs h' => vs.length = P.cellsOf f.type ∧ rd P h' N f.type vs d)
        (fun _ _ _ _ _ _ s hd => ⟨hd.1, Zqk s N hd.2⟩) (fun f => (cs.drop f.offset).take (P.cellsOf f.type)) fs.toList (fun f hf μ h r => by
          obtain ⟨i, hi⟩ := List.getElem?_of_mem hf
          have hi' : fs[i]? = some f := by simpa using hi
          have hil := (Array.getElem?_eq_some_iff.1 hi').1
          have htr' : DataW.trod enc P w 0 spare held n f.type ((cs.drop f.offset).take (P.cellsOf f.type)) = some (xs[i]'(by omega)) := by rw [hel i f hi', List.getElem?_eq_getElem]
          obtain ⟨hcl', μ', h', ex, sx, rx, vs, d, hv, hd⟩ := imp hbase hsp N n (hfs f hf) htr' μ h r
          refine ⟨μ', h', ex, sx, rx, vs, d, hv, ?_, hd⟩
          have := hv.length; omega) μ h r
      rw [Zrn cs fs.toList 0 (by rw [hcl]; exact htl)] at hvs
      simp at hl1 hl2
      refine ⟨μ2, h2, e2, s2, r2, vss.flatten, .st ds, by simpa using hvs, ?_⟩
      simp only [rd, hu]
      exact ⟨ds, vss, rfl, hl2, hl1, rfl, fun i fd v y hf hv hy => (hall i fd v y (by simpa using hf) hv hy).2⟩
end
theorem VR.slice_le {μ : List Pl} {a : Option (Nat × Nat)} {n c : Nat} {e : Bool} {x : Value} (h : VR μ (.slice a n c e) x) : n ≤ c := by
  cases h <;> omega
end Go.Sim

set_option linter.unusedSimpArgs false
namespace Go.Sim
open Go Go.RowKit

theorem Zyu (l : List UInt8) : bytesOf ⟨l.toArray⟩ = l.map UInt8.toNat := by simp [bytesOf]

section
variable {P : Program} {base : Nat} {w0 : World} {μ : List Pl} {h : Zaa} {w : World}
theorem VRs.strs : ∀ {l : List (List Nat)} {ys : List Value}, VRs μ (Sim.strs l) ys → ∃ xs : List ByteArray, ys = xs.map .string ∧ xs.map bytesOf = l
  | [], _, .nil => ⟨[], rfl, rfl⟩
  | s :: l, _, .cons a b => by
    obtain ⟨xs, rfl, hx⟩ := VRs.strs b
    cases a with
    | str s => exact ⟨s :: xs, rfl, by simp [hx]⟩

end
end Go.Sim

set_option linter.unusedSimpArgs false
namespace Go.Sim
open Go Go.RowKit

theorem trodAll_below {H : Type} {enc : TypeId × Value → H} {P : Program} (hl : laidOutB P = true) {W W' : World} (hb : Below W.heap.size W W') : ∀ {ts : List TypeId} {vs : List Value} {ds : List (DataW H)} {ps : List MemPlace},
    (∀ t ∈ ts, P.readableRec t = true ∧ t < P.types.size) → DataW.TrodAll enc P W 0 (fun _ => true) true ts vs ds ps → DataW.TrodAll enc P W' 0 (fun b => decide (b < W.heap.size)) true ts vs ds ps
  | [], [], [], _, _, h => h
  | t :: ts, v :: vs, d :: ds, ps, ht, ⟨p, q, h1, h2, e⟩ => by
    have h1' := h1
    obtain ⟨fuel, hf⟩ := h1'
    exact ⟨p, q, Below.trod hl (ht t (by simp)).1 (ht t (by simp)).2 h1 hb (DataW.trod_lt _ _ _ _ hf), trodAll_below hl hb (fun t' h' => ht t' (by simp [h'])) h2, e⟩
  | [], _ :: _, _, _, _, h => by simp [DataW.TrodAll] at h
  | [], [], _ :: _, _, _, h => by simp [DataW.TrodAll] at h
  | _ :: _, [], _, _, _, h => by simp [DataW.TrodAll] at h
  | _ :: _, _ :: _, [], _, _, h => by simp [DataW.TrodAll] at h

end Go.Sim

set_option linter.unusedSimpArgs false
namespace Go.Sim
open Go Go.RowKit

def Zoy : List Nat → Nat → Int
  | [], _ => -1
  | b :: l, c => if b == c then 0 else if Zoy l c == -1 then -1 else Zoy l c + 1
theorem Ybl (l : List Nat) (c : Nat) : -1 ≤ Zoy l c := by
  induction l with
  | nil => simp [Zoy]
  | cons b l ih => simp only [Zoy]; split <;> try split
                   all_goals omega
theorem Zsr (l : List Nat) (c : Nat) : 0 ≤ Zoy l c ↔ c ∈ l := by
  induction l with
  | nil => simp [Zoy]
  | cons b l ih =>
    have := Ybl l c
    simp only [Zoy, List.mem_cons]
    by_cases hb : b = c
    · simp [hb]
    · have hb' : c ≠ b := fun e => hb e.symm
      simp only [beq_iff_eq, hb, hb', if_false, false_or]
      rw [← ih]
      by_cases h1 : Zoy l c = -1
      · simp [h1]
      · simp only [h1, if_false]; omega
theorem Ycw (l : List Nat) (c : Nat) : Zoy l c < 0 ↔ c ∉ l := by rw [← Zsr]; omega
theorem Zqz (l : List UInt8) (c : UInt8) : Lib.indexByte l c = Zoy (l.map UInt8.toNat) c.toNat := by
  induction l with
  | nil => rfl
  | cons b l ih =>
    simp only [Lib.indexByte, Zoy, List.map_cons, ih]
    have : (b == c) = (b.toNat == c.toNat) := by
      rw [Bool.eq_iff_iff]; simp [UInt8.toNat_inj]
    rw [this]
theorem Zvy {s : ByteArray} {c : Nat} (h : bytesOf s = [c]) : ∃ b : UInt8, s = ⟨#[b]⟩ ∧ b.toNat = c := by
  obtain ⟨⟨l⟩⟩ := s
  simp [bytesOf] at h
  match l, h with
  | [b], h => simp at h; exact ⟨b, rfl, h⟩
theorem Zmm : ∀ (p s : List UInt8), (p.map UInt8.toNat).isPrefixOf (s.map UInt8.toNat) = p.isPrefixOf s
  | [], _ => by simp
  | a :: p, [] => by simp
  | a :: p, b :: s => by
    simp only [List.map_cons, List.isPrefixOf_cons₂, Zmm p s]
    congr 1
    rw [Bool.eq_iff_iff]; simp [UInt8.toNat_inj]
section
variable {P : Program} {h : Zaa}
theorem Zae.plain {n : FuncId} {args : List Zag} (v0 : Zag) (able : ∃ fn, P.funcs[n]? = some fn ∧ fn.body.isSome = true ∧ (fn.name == "runtime.NumGoroutine") = false)
    (hc : ∀ (μ : List Pl) (xs : Array Value) (w : World), VRs μ args xs.toList → Calls P n xs w fun e w' => ∃ x, e = .returned x ∧ Below w.heap.size w w' ∧ VR μ v0 x) :
    Zae P n args h fun v h' => v = v0 ∧ h' = h := by
  refine ⟨able, fun base w0 μ w xs rel hx => (hc μ xs w hx).mono ?_⟩
  rintro e w' ⟨x, rfl, hb, hv⟩
  exact ⟨x, μ, v0, h, rfl, Ext.refl _, rel.grow hb, hv, rfl, rfl⟩
theorem Zae.contains1 {n : FuncId} (able : ∃ fn, P.funcs[n]? = some fn ∧ fn.body.isSome = true ∧ (fn.name == "runtime.NumGoroutine") = false)
    (hc : ∀ (s : ByteArray) (c : UInt8) (w : World), Calls P n #[.string s, .string ⟨#[c]⟩] w fun e w' => e = .returned (.bool (decide (0 ≤ Lib.indexByte s.data.toList c))) ∧ w' = w) {s : List Nat} {c : Nat} :
    Zae P n [.str s, .str [c]] h fun v h' => v = .bool (decide (c ∈ s)) ∧ h' = h := by
  refine Zae.plain _ able fun μ xs w hx => ?_
  match xs, hx with
  | ⟨[x1, x2]⟩, .cons h1 (.cons h2 .nil) =>
    cases h1 with
    | str s =>
    generalize ht : [c] = t at h2
    cases h2 with
    | str t =>
    obtain ⟨b, rfl, rfl⟩ := Zvy ht.symm
    refine (hc s b w).mono ?_
    rintro e w' ⟨rfl, rfl⟩
    refine ⟨_, rfl, Below.refl _ _, ?_⟩
    rw [Zqz]
    have : decide (0 ≤ Zoy (s.data.toList.map UInt8.toNat) b.toNat) = decide (b.toNat ∈ bytesOf s) := by
      rw [decide_eq_decide]; exact Zsr _ _
    rw [this]; exact .bool _
theorem Zae.hasPrefix {n : FuncId} (able : ∃ fn, P.funcs[n]? = some fn ∧ fn.body.isSome = true ∧ (fn.name == "runtime.NumGoroutine") = false)
    (hc : ∀ (s p : ByteArray) (w : World), Calls P n #[.string s, .string p] w fun e w' => e = .returned (.bool (Lib.hasPrefix s.data.toList p.data.toList)) ∧ w' = w) {s p : List Nat} :
    Zae P n [.str s, .str p] h fun v h' => v = .bool (p.isPrefixOf s) ∧ h' = h := by
  refine Zae.plain _ able fun μ xs w hx => ?_
  match xs, hx with
  | ⟨[x1, x2]⟩, .cons h1 (.cons h2 .nil) =>
    cases h1 with
    | str s =>
    cases h2 with
    | str t =>
    refine (hc s t w).mono ?_
    rintro e w' ⟨rfl, rfl⟩
    refine ⟨_, rfl, Below.refl _ _, ?_⟩
    have : Lib.hasPrefix s.data.toList t.data.toList = (bytesOf t).isPrefixOf (bytesOf s) := by unfold Lib.hasPrefix bytesOf; rw [Zmm]
    rw [this]; exact .bool _
def Yjw (u : Nat) : List Nat := (Lib.decDigits u).map UInt8.toNat
def Yhj (n : Int) : List Nat := (Lib.itoa n).map UInt8.toNat
def Yhq (P : Program) : Zck := .amb fun base w0 => ∀ w, Below base w0 w → Lib.TabIs P w "internal/strconv.uint64pow10" .u64 Lib.pow10Tab
theorem Zae.itoa {n : FuncId} (able : ∃ fn, P.funcs[n]? = some fn ∧ fn.body.isSome = true ∧ (fn.name == "runtime.NumGoroutine") = false)
    (hc : ∀ (z : Int), -9223372036854775808 ≤ z → z ≤ 9223372036854775807 → ∀ (w : World), Lib.TabIs P w "internal/strconv.uint64pow10" .u64 Lib.pow10Tab → Calls P n #[.int .i64 z] w fun e w' => e = .returned (.string ⟨(Lib.itoa z).toArray⟩) ∧ ∃ k os, w' = Go.Sort.grow (w.drewN k) os)
    {k : Nat} (hk : h[k]? = some (Yhq P)) {z : Int} (h0 : -9223372036854775808 ≤ z) (h1 : z ≤ 9223372036854775807) :
    Zae P n [.int .i64 z] h fun v h' => v = .str (Yhj z) ∧ h' = h := by
  refine ⟨able, fun base w0 μ w xs rel hx => ?_⟩
  match xs, hx with
  | ⟨[x1]⟩, .cons hx1 .nil =>
    cases hx1
    have hlt : k < μ.length := by rw [rel.len]; exact (List.getElem?_eq_some_iff.1 hk).1
    have ham := rel.obj k _ hk _ (List.getElem?_eq_getElem hlt)
    refine (hc z h0 h1 w (ham w rel.below)).mono ?_
    rintro e w' ⟨rfl, q, os, rfl⟩
    refine ⟨_, μ, .str (Yhj z), h, rfl, Ext.refl _, rel.grow ⟨rfl, rfl, rfl, by simp [Go.Sort.grow, World.drewN], fun j hj => ?_⟩, ?_, rfl, rfl⟩
    · simp only [Go.Sort.grow, World.drewN]
      rw [Array.getElem?_append_left hj]
    · have := VR.str (μ := μ) ⟨(Lib.itoa z).toArray⟩
      rw [Zyu] at this; exact this
end
end Go.Sim


set_option linter.unusedSimpArgs false
namespace Go.Sim
open Go Go.RowKit

section
variable {P : Program} {h : Zaa}
end
end Go.Sim
