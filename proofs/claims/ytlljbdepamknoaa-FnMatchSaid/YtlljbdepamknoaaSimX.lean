/- A part of the proof of a statement of this seat: see the text that holds the theorem. No condition. -/
import Derived.Test.YtlljbdepamknoaaSimR
import Derived.ChangeArms
import Derived.ChangeSlices
import Derived.Lib.Join
import Derived.Carry
import Derived.Lib.Bytealg
import Derived.Lib.Strings
import Derived.Lib.ItoaNum
import Derived.Lib.LaidTab
import Derived.Sort.Grow
import Derived.Deep.Draws
import Derived.Shelf.SlIter.Nil
set_option linter.unusedVariables false
set_option linter.unusedSimpArgs false
set_option linter.all false
set_option linter.unusedSimpArgs false
namespace Go.Sim
open Go Go.RowKit

inductive Dt where
  | int (k : IntKind) (n : Int)
  | bool (b : Bool)
  | str (s : List Nat)
  | sl (ds : List Dt)
  | st (ds : List Dt)
  deriving Inhabited

def Zzp (P : Program) : Nat → List Field → Nat → Bool
  | o, [], n => Nat.beq o n
  | o, f :: r, n => Nat.beq f.offset o && Zzp P (o + P.cellsOf f.type) r n
def okT (P : Program) : Nat → TypeId → Bool
  | 0, _ => false
  | n + 1, t => match P.underlying t with
    | some .bool => Nat.beq (P.cellsOf t) 1
    | some (.int _) => Nat.beq (P.cellsOf t) 1
    | some .string => Nat.beq (P.cellsOf t) 1
    | some (.slice e) => Nat.beq (P.cellsOf t) 1 && Nat.ble 1 (P.cellsOf e) && okT P n e
    | some (.struct fs) => Zzp P 0 fs.toList (P.cellsOf t) && fs.toList.all fun f => okT P n f.type
    | _ => false

def rd (P : Program) (h : Zaa) : Nat → TypeId → List Zac → Dt → Prop
  | 0, _, _, _ => False
  | f + 1, t, cs, d => match P.underlying t with
    | some .bool => ∃ b, cs = [.bool b] ∧ d = .bool b
    | some (.int k) => ∃ n, cs = [.int k n] ∧ d = .int k n ∧ (Lit.int k n).wf = true
    | some .string => ∃ s, cs = [.str s] ∧ d = .str s ∧ s.length ≤ 9223372036854775807 ∧ ∀ b ∈ s, b < 256
    | some (.slice e) => ∃ (a : Pt) (n c : Nat) (ex : Bool) (ds : List Dt) (vs : List (List Zac)), cs = [.slice a n c ex] ∧ d = .sl ds ∧ ds.length = n ∧ n ≤ 9223372036854775807 ∧ vs.length = n ∧ Row h.length h a (n * P.cellsOf e) vs.flatten ∧
        ∀ (i : Nat) (v : List Zac) (x : Dt), vs[i]? = some v → ds[i]? = some x → v.length = P.cellsOf e ∧ rd P h f e v x
    | some (.struct fs) => ∃ (ds : List Dt) (vs : List (List Zac)), d = .st ds ∧ ds.length = fs.size ∧ vs.length = fs.size ∧ cs = vs.flatten ∧
        ∀ (i : Nat) (fd : Field) (v : List Zac) (x : Dt), fs[i]? = some fd → vs[i]? = some v → ds[i]? = some x → v.length = P.cellsOf fd.type ∧ rd P h f fd.type v x
    | _ => False
theorem Zng {P : Program} {h h' : Zaa} (s : Zbk h.length h h') : ∀ (f : Nat) {t : TypeId} {cs : List Zac} {d : Dt}, rd P h f t cs d → rd P h' f t cs d
  | 0, _, _, _, hr => hr.elim
  | f + 1, t, cs, d, hr => by
    unfold rd at *
    split at hr
    · exact hr
    · exact hr
    · exact hr
    · obtain ⟨a, n, c, ex, ds, vs, h1, h2, h3, h4, h5, h6, h7⟩ := hr
      exact ⟨a, n, c, ex, ds, vs, h1, h2, h3, h4, h5, (h6.same s).mono s.le, fun i v x hv hx => ⟨(h7 i v x hv hx).1, Zng s f (h7 i v x hv hx).2⟩⟩
    · obtain ⟨ds, vs, h1, h2, h3, h4, h5⟩ := hr
      exact ⟨ds, vs, h1, h2, h3, h4, fun i fd v x hf hv hx => ⟨(h5 i fd v x hf hv hx).1, Zng s f (h5 i fd v x hf hv hx).2⟩⟩
    · exact hr

section
variable {H : Type} {enc : TypeId × Value → H} {P : Program} {w : World} {spare : Nat → Bool} {held : Bool} {base : Nat} {w0 : World}

def Got (P : Program) (base : Nat) (w0 : World) (w : World) (μ : List Pl) (h : Zaa) (F : List Pl → Zaa → Prop) : Prop :=
  ∃ μ' h', Ext μ μ' ∧ Zbk h.length h h' ∧ Rel P base w0 μ' h' w ∧ F μ' h'

theorem Zoy (s : ByteArray) : ∀ b ∈ bytesOf s, b < 256 := by
  intro b hb
  simp only [bytesOf, List.mem_map] at hb
  obtain ⟨x, _, rfl⟩ := hb
  exact x.toNat_lt

theorem Zou {α : Type} (F : α → List Value → Dt → List Zac → Zaa → Prop) (hF : ∀ x y d vs h h', Zbk h.length h h' → F x y d vs h → F x y d vs h') (rdv : α → List Value) :
    ∀ (l : List α), (∀ x ∈ l, ∀ (μ : List Pl) (h : Zaa), Rel P base w0 μ h w → Got P base w0 w μ h fun μ' h' => ∃ vs d, VRs μ' vs (rdv x) ∧ F x (rdv x) d vs h') → ∀ (μ : List Pl) (h : Zaa), Rel P base w0 μ h w →
      Got P base w0 w μ h fun μ' h' => ∃ (vss : List (List Zac)) (ds : List Dt), vss.length = l.length ∧ ds.length = l.length ∧ VRs μ' vss.flatten ((l.map rdv).flatten) ∧
      ∀ (i : Nat) (x : α) (v : List Zac) (d : Dt), l[i]? = some x → vss[i]? = some v → ds[i]? = some d → VRs μ' v (rdv x) ∧ F x (rdv x) d v h'
  | [], _, μ, h, r => ⟨μ, h, Ext.refl _, Zbk.refl _ _, r, [], [], rfl, rfl, .nil, by simp⟩
  | x :: l, step, μ, h, r => by
    obtain ⟨μ1, h1, e1, s1, r1, v, d, hv, hd⟩ := step x (by simp) μ h r
    obtain ⟨μ2, h2, e2, s2, r2, vss, ds, hl1, hl2, hvs, hall⟩ := Zou F hF rdv l (fun y hy => step y (by simp [hy])) μ1 h1 r1
    refine ⟨μ2, h2, e1.trans e2, s1.trans (s2.mono s1.le), r2, v :: vss, d :: ds, by simp [hl1], by simp [hl2], ?_, ?_⟩
    · simpa using (hv.ext e2).append hvs
    · intro i y v' d' hy hv' hd'
      cases i with
      | zero => simp at hy hv' hd'; subst hy; subst hv'; subst hd'; exact ⟨hv.ext e2, hF _ _ _ _ _ _ s2 hd⟩
      | succ i => simp at hy hv' hd'; exact hall i y v' d' hy hv' hd'

theorem Rel.ro {μ : List Pl} {h : Zaa} (r : Rel P base w0 μ h w) {b o : Nat} {t : TypeId} {cs : List Zac} {C : Array Value} {el : TypeId} {fr : Nat × Nat} (hb : w.heap[b]? = some (.cells C el fr)) (hlt : b < base) (hv : VRs μ cs ((C.toList.drop o).take cs.length)) :
    Rel P base w0 (μ ++ [⟨b, o, false, 0, 0⟩]) (h ++ [.cells t cs true]) w := by
  refine ⟨r.below, by simp [r.len], ?_, ?_, r.size⟩
  · intro i ob hi e' he'
    by_cases hl : i < h.length
    · rw [List.getElem?_append_left hl] at hi
      rw [List.getElem?_append_left (by rw [r.len]; exact hl)] at he'
      exact (r.obj i ob hi e' he').keep (Ext.app _ _) fun x hx => hx
    · rw [List.getElem?_append_right (by omega)] at hi
      rw [List.getElem?_append_right (by rw [r.len]; omega)] at he'
      have hz : i - h.length = 0 := by
        have := (List.getElem?_eq_some_iff.1 hi).1; simp at this; omega
      rw [hz] at hi
      rw [r.len, hz] at he'
      simp at hi he'; subst hi; subst he'
      exact ⟨C, el, fr, hb, hv.ext (Ext.app _ _), by simp; exact hlt⟩
  · intro i j oi oj ei ej hij hi hj hoi hoj hei hej
    have key : ∀ (i : Nat) (oi : Zce), (h ++ [Zce.cells t cs true])[i]? = some oi → oi.own = true → i < h.length := by
      intro i oi hi ho
      by_cases hl : i < h.length
      · exact hl
      · rw [List.getElem?_append_right (by omega)] at hi
        have hz : i - h.length = 0 := by
          have := (List.getElem?_eq_some_iff.1 hi).1; simp at this; omega
        rw [hz] at hi; simp at hi; subst hi; simp [Zce.own] at ho
    have hli := key i oi hi hoi
    have hlj := key j oj hj hoj
    rw [List.getElem?_append_left hli] at hi
    rw [List.getElem?_append_left hlj] at hj
    rw [List.getElem?_append_left (by rw [r.len]; exact hli)] at hei
    rw [List.getElem?_append_left (by rw [r.len]; exact hlj)] at hej
    exact r.sep i j oi oj ei ej hij hi hj hoi hoj hei hej

theorem Zqc {β : Type} (C : List β) (o z : Nat) (f : Nat → List β) : ∀ n, (∀ i, i < n → f i = (C.drop (o + i * z)).take z ∧ (f i).length = z) → ((List.range n).map f).flatten = (C.drop o).take (n * z) ∧ (((List.range n).map f).flatten).length = n * z
  | 0, _ => by simp
  | n + 1, h => by
    obtain ⟨ih, il⟩ := Zqc C o z f n fun i hi => h i (by omega)
    obtain ⟨h1, h2⟩ := h n (by omega)
    rw [List.range_succ, List.map_append, List.flatten_append]
    constructor
    · rw [ih, Nat.succ_mul, List.take_add]
      congr 1
      simp only [List.map_cons, List.map_nil, List.flatten_cons, List.flatten_nil, List.append_nil, h1, List.drop_drop]
    · rw [List.length_append, il, Nat.succ_mul]; simp [h2]
theorem Zlc {β : Type} (z : Nat) : ∀ (l : List (List β)) (n : Nat), (∀ x ∈ l, x.length = z) → (l.take n).flatten = l.flatten.take (n * z)
  | [], n, _ => by simp
  | x :: l, 0, _ => by simp
  | x :: l, n + 1, h => by
    have hx := h x (by simp)
    rw [List.take_succ_cons, List.flatten_cons, List.flatten_cons, Zlc z l n fun y hy => h y (by simp [hy]), Nat.succ_mul, Nat.add_comm, List.take_append, hx, List.take_of_length_le (l := x) (by omega)]
    congr 2; omega
theorem Znl {β : Type} (z : Nat) : ∀ (l : List (List β)), (∀ x ∈ l, x.length = z) → l.flatten.length = l.length * z
  | [], _ => by simp
  | x :: l, h => by
    rw [List.flatten_cons, List.length_append, h x (by simp), Znl z l fun y hy => h y (by simp [hy]), List.length_cons, Nat.succ_mul]; omega

theorem Zjc {a : Addr} {n : Nat} {cs : List Value} (h : w.cells? 0 a n = some cs) (hn : 0 < n) : a.spot = none ∧ ∃ C el fr, w.heap[a.block]? = some (.cells C el fr) ∧ cs.length = n ∧ cs = (C.toList.drop a.off).take n := by
  obtain ⟨_, hl, hc⟩ := World.cells?_some h
  have h0 := hc 0 hn
  have hcs : ∃ v, cs[0]? = some v := ⟨cs[0]'(by omega), List.getElem?_eq_getElem (by omega)⟩
  obtain ⟨v, hv⟩ := hcs
  rw [hv] at h0
  have ha0 : a.add 0 = a := by simp [Addr.add]
  rw [ha0] at h0
  unfold World.cell? at h0
  split at h0
  · rename_i C el fr hb
    split at h0
    · cases h0
    · rename_i hsp
      refine ⟨by simpa using hsp, C, el, fr, hb, hl, ?_⟩
      apply List.ext_getElem?
      intro i
      by_cases hi : i < n
      · rw [← hc i hi]
        have : w.cell? (a.add i) = C[a.off + i]? := by
          unfold Addr.add
          split
          · rename_i e; subst e; simp [World.cell?, hb, hsp]
          · simp [World.cell?, hb]
        rw [this]; simp [List.getElem?_take, hi]
      · rw [List.getElem?_eq_none (by omega), List.getElem?_eq_none (by simp; omega)]
  · cases h0

theorem Zoh (cs : List Value) : ∀ (fs : List Field) (o : Nat), Zzp P o fs cs.length = true → (fs.map fun f => (cs.drop f.offset).take (P.cellsOf f.type)).flatten = cs.drop o
  | [], o, h => by
    have := Nat.eq_of_beq_eq_true h
    subst this; simp
  | f :: fs, o, h => by
    simp only [Zzp, Bool.and_eq_true] at h
    have ho := Nat.eq_of_beq_eq_true h.1
    rw [List.map_cons, List.flatten_cons, Zoh cs fs _ h.2, ho, ← List.drop_drop, List.take_append_drop]

theorem imp (hbase : w.heap.size ≤ base) (hsp : ∀ b, spare b = true) : ∀ (N fuel : Nat) {t : TypeId} {cs : List Value} {x : DataW H × List MemPlace}, okT P N t = true → DataW.trod enc P w 0 spare held fuel t cs = some x →
    ∀ (μ : List Pl) (h : Zaa), Rel P base w0 μ h w → cs.length = P.cellsOf t ∧ Got P base w0 w μ h fun μ' h' => ∃ vs d, VRs μ' vs cs ∧ rd P h' N t vs d
  | 0, _, _, _, _, hok, _, _, _, _ => by simp [okT] at hok
  | N + 1, fuel, t, cs, x, hok, htr, μ, h, r => by
    unfold okT at hok
    cases hu : P.underlying t with
    | none => rw [hu] at hok; simp at hok
    | some td =>
    rw [hu] at hok
    cases td <;> simp only at hok <;> try (simp at hok; done)
    case bool =>
      obtain ⟨b, rfl, _⟩ := DataW.trod_bool hu htr
      exact ⟨by simpa using (Nat.eq_of_beq_eq_true hok).symm, μ, h, Ext.refl _, Zbk.refl _ _, r, _, .bool b, .cons (.bool b) .nil, by simp [rd, hu]⟩
    case int k =>
      obtain ⟨n, rfl, _, hwf⟩ := DataW.trod_int hu htr
      exact ⟨by simpa using (Nat.eq_of_beq_eq_true hok).symm, μ, h, Ext.refl _, Zbk.refl _ _, r, _, .int k n, .cons (.int k n) .nil, by simp [rd, hu, hwf]⟩
    case string =>
      obtain ⟨s, rfl, _, hs⟩ := DataW.trod_string hu htr
      refine ⟨by simpa using (Nat.eq_of_beq_eq_true hok).symm, μ, h, Ext.refl _, Zbk.refl _ _, r, _, .str (bytesOf s), .cons (.str s) .nil, ?_⟩
      simp only [rd, hu]
      exact ⟨_, rfl, rfl, by rw [Zbq]; simpa [maxLen] using hs, Zoy s⟩
    case slice e =>
      simp only [Bool.and_eq_true] at hok
      obtain ⟨⟨h1, hz⟩, hoke⟩ := hok
      have hz : 1 ≤ P.cellsOf e := by simpa using hz
      rcases DataW.trod_slice hu htr with ⟨rfl, _⟩ | ⟨a, len, cap, elems, rest, n, _, rfl, _, hb, hl, hm, hlen, hel, hsr, _⟩
      · refine ⟨by simpa using (Nat.eq_of_beq_eq_true h1).symm, μ, h, Ext.refl _, Zbk.refl _ _, r, _, .sl [], .cons .slice0 .nil, ?_⟩
        simp only [rd, hu]
        exact ⟨_, _, _, _, [], [], rfl, rfl, rfl, by omega, rfl, by simpa using Row.nil, by simp⟩
      · refine ⟨by simpa using (Nat.eq_of_beq_eq_true h1).symm, ?_⟩
        obtain ⟨hrl, hre⟩ := hsr (hsp _)
        have hmx : cap ≤ 9223372036854775807 := by simpa [maxLen] using hm
        by_cases hc0 : cap = 0
        · subst hc0
          have : len = 0 := by omega
          subst this
          refine ⟨μ, h, Ext.refl _, Zbk.refl _ _, r, _, .sl [], .cons (.sliceE0 (a := some a)) .nil, ?_⟩
          simp only [rd, hu]
          exact ⟨_, _, _, _, [], [], rfl, rfl, rfl, by omega, rfl, by simpa using Row.nil, by simp⟩
        · -- the cells of each element
          have each : ∀ i, i < cap → ∃ cs y, w.cells? 0 (a.add (i * P.cellsOf e)) (P.cellsOf e) = some cs ∧ DataW.trod enc P w 0 spare held n e cs = some y := by
            intro i hi
            have : ∃ y, (w.cells? 0 (a.add (i * P.cellsOf e)) (P.cellsOf e)).bind (DataW.trod enc P w 0 spare held n e) = some y := by
              by_cases hil : i < len
              · exact ⟨elems[i]'(by omega), by rw [hel i hil, List.getElem?_eq_getElem]⟩
              · have := hre (i - len) (by omega)
                rw [show len + (i - len) = i by omega] at this
                exact ⟨rest[i - len]'(by omega), by rw [this, List.getElem?_eq_getElem]⟩
            obtain ⟨y, hy⟩ := this
            obtain ⟨cs, hcs, hy⟩ := Option.bind_eq_some_iff.1 hy
            exact ⟨cs, y, hcs, hy⟩
          have hz0 : 0 < P.cellsOf e := hz
          obtain ⟨cs0, _, hcs0, _⟩ := each 0 (by omega)
          have ha0 : a.add (0 * P.cellsOf e) = a := by simp [Addr.add]
          rw [ha0] at hcs0
          obtain ⟨hspot, C, el, fr, hblk, _, _⟩ := Zjc hcs0 hz0
          have hlt : a.block < base := Nat.lt_of_lt_of_le (Array.getElem?_eq_some_iff.1 hblk).1 hbase
          obtain ⟨μ2, h2, e2, s2, r2, vss, ds, hl1, hl2, hvs, hall⟩ := Zou (P := P) (base := base) (w0 := w0) (w := w) (fun _ _ d vs h' => vs.length = P.cellsOf e ∧ rd P h' N e vs d)
            (fun _ _ _ _ _ _ s hd => ⟨hd.1, Zng s N hd.2⟩) (fun i => (w.cells? 0 (a.add (i * P.cellsOf e)) (P.cellsOf e)).getD []) (List.range cap) (fun i hi μ h r => by
              obtain ⟨cs, y, hcs, hy⟩ := each i (by simpa using hi)
              obtain ⟨hcl, μ', h', ex, sx, rx, vs, d, hv, hd⟩ := imp hbase hsp N n hoke hy μ h r
              refine ⟨μ', h', ex, sx, rx, vs, d, by simpa [hcs] using hv, ?_, hd⟩
              have := hv.length; omega) μ h r
          have hrows := Zqc C.toList a.off (P.cellsOf e) (fun i => (w.cells? 0 (a.add (i * P.cellsOf e)) (P.cellsOf e)).getD []) cap (fun i hi => by
            obtain ⟨cs, y, hcs, _⟩ := each i hi
            obtain ⟨_, C', el', fr', hblk', hcl, hce⟩ := Zjc hcs hz0
            have hab : (a.add (i * P.cellsOf e)).block = a.block := by unfold Addr.add; split <;> rfl
            have hao : (a.add (i * P.cellsOf e)).off = a.off + i * P.cellsOf e := by unfold Addr.add; split <;> simp_all
            rw [hab, hblk] at hblk'
            cases hblk'
            rw [hao] at hce
            simp only [hcs, Option.getD_some]
            exact ⟨hce, hcl⟩)
          have hvl := hvs.length
          have hvz : ∀ v ∈ vss, v.length = P.cellsOf e := by
            intro v hv
            obtain ⟨i, hi⟩ := List.getElem?_of_mem hv
            have hil := (List.getElem?_eq_some_iff.1 hi).1
            simp at hl1 hl2
            exact (hall i i v (ds[i]'(by omega)) (by rw [List.getElem?_range (by omega)]) hi (List.getElem?_eq_getElem _)).2.1
          rw [hrows.1] at hvs
          rw [hrows.2] at hvl
          have r3 := r2.ro (t := e) hblk hlt (o := a.off) (cs := vss.flatten) (by rw [hvl]; exact hvs)
          simp at hl1 hl2
          have s3 : Zbk h2.length h2 (h2 ++ [.cells e vss.flatten true]) := Zbk.app (Nat.le_refl _) _
          refine ⟨_, _, e2.trans (Ext.app _ _), s2.trans (s3.mono s2.le), r3, [.slice (some (h2.length, 0)) len cap true], .sl (ds.take len), .cons ?_ .nil, ?_⟩
          · have hae : a = ⟨a.block, a.off + 0, none⟩ := by rw [← hspot]; rfl
            have := VR.slice (μ := μ2 ++ [⟨a.block, a.off, false, 0, 0⟩]) (i := h2.length) (o := 0) (n := len) (c := cap) (cap := cap) (ex := true) (e := ⟨a.block, a.off, false, 0, 0⟩) (r2.last _) hl (Nat.le_refl _) (fun _ => rfl) (fun hf => by cases hf)
            rw [← hae] at this
            exact this
          · simp only [rd, hu]
            refine ⟨_, _, _, _, ds.take len, vss.take len, rfl, rfl, by simp; omega, by omega, by simp; omega, ?_, ?_⟩
            · have hfl := Zlc (P.cellsOf e) vss len hvz
              have hfl2 := Znl (P.cellsOf e) (vss.take len) fun v hv => hvz v (List.mem_of_mem_take hv)
              refine ⟨by rw [hfl2, List.length_take, Nat.min_eq_left (by omega)], .inr ⟨h2.length, 0, e, vss.flatten, true, rfl, by simp, by simp, ?_, by simpa using hfl⟩⟩
              rw [hvl, Nat.zero_add]; exact Nat.mul_le_mul_right _ hl
            · intro i v y hv hy
              have hil : i < len := by have := (List.getElem?_eq_some_iff.1 hv).1; simp at this; omega
              rw [List.getElem?_take, if_pos hil] at hv hy
              have := (hall i i v y (by rw [List.getElem?_range (by omega)]) hv hy).2
              exact ⟨this.1, Zng s3 N this.2⟩
    case struct fs =>
      simp only [Bool.and_eq_true, List.all_eq_true] at hok
      obtain ⟨htl, hfs⟩ := hok
      obtain ⟨xs, n, _, _, hcl, hxl, hel⟩ := DataW.trod_struct hu htr
      refine ⟨hcl, ?_⟩
      obtain ⟨μ2, h2, e2, s2, r2, vss, ds, hl1, hl2, hvs, hall⟩ := Zou (P := P) (base := base) (w0 := w0) (w := w) (fun (f : Field) _ d vs h' => vs.length = P.cellsOf f.type ∧ rd P h' N f.type vs d)
        (fun _ _ _ _ _ _ s hd => ⟨hd.1, Zng s N hd.2⟩) (fun f => (cs.drop f.offset).take (P.cellsOf f.type)) fs.toList (fun f hf μ h r => by
          obtain ⟨i, hi⟩ := List.getElem?_of_mem hf
          have hi' : fs[i]? = some f := by simpa using hi
          have hil := (Array.getElem?_eq_some_iff.1 hi').1
          have htr' : DataW.trod enc P w 0 spare held n f.type ((cs.drop f.offset).take (P.cellsOf f.type)) = some (xs[i]'(by omega)) := by rw [hel i f hi', List.getElem?_eq_getElem]
          obtain ⟨hcl', μ', h', ex, sx, rx, vs, d, hv, hd⟩ := imp hbase hsp N n (hfs f hf) htr' μ h r
          refine ⟨μ', h', ex, sx, rx, vs, d, hv, ?_, hd⟩
          have := hv.length; omega) μ h r
      rw [Zoh cs fs.toList 0 (by rw [hcl]; exact htl)] at hvs
      simp at hl1 hl2
      refine ⟨μ2, h2, e2, s2, r2, vss.flatten, .st ds, by simpa using hvs, ?_⟩
      simp only [rd, hu]
      exact ⟨ds, vss, rfl, hl2, hl1, rfl, fun i fd v y hf hv hy => (hall i fd v y (by simpa using hf) hv hy).2⟩
end
theorem VR.slice_le {μ : List Pl} {a : Option (Nat × Nat)} {n c : Nat} {e : Bool} {x : Value} (h : VR μ (.slice a n c e) x) : n ≤ c := by
  cases h <;> omega
end Go.Sim

set_option linter.unusedSimpArgs false
namespace Go.Sim
open Go Go.RowKit

theorem Zqd {α β : Type} (f : α → β) (sep : List α) : ∀ l : List (List α), (sep.map f).intercalate (l.map (List.map f)) = (sep.intercalate l).map f
  | [] => rfl
  | [x] => by simp [List.intercalate]
  | x :: y :: l => by
    have := Zqd f sep (y :: l)
    simp only [List.intercalate, List.map_cons, List.intersperse_cons_cons, List.flatten_cons, List.map_append] at this ⊢
    rw [this]
theorem Zxt (b o j : Nat) : (⟨b, o, none⟩ : Addr).add j = ⟨b, o + j, none⟩ := by unfold Addr.add; split <;> simp_all
theorem Zoi (l : List UInt8) : bytesOf ⟨l.toArray⟩ = l.map UInt8.toNat := by simp [bytesOf]

section
variable {P : Program} {base : Nat} {w0 : World} {μ : List Pl} {h : Zaa} {w : World}
theorem VRs.strs : ∀ {l : List (List Nat)} {ys : List Value}, VRs μ (Sim.strs l) ys → ∃ xs : List ByteArray, ys = xs.map .string ∧ xs.map bytesOf = l
  | [], _, .nil => ⟨[], rfl, rfl⟩
  | s :: l, _, .cons a b => by
    obtain ⟨xs, rfl, hx⟩ := VRs.strs b
    cases a with
    | str s => exact ⟨s :: xs, rfl, by simp [hx]⟩

theorem Zae.join {n : FuncId} (able : ∃ fn, P.funcs[n]? = some fn ∧ fn.body.isSome = true ∧ (fn.name == "runtime.NumGoroutine") = false)
    (hnone : ∀ (a : Option Addr) (c : Nat) (sep : ByteArray) (w : World), Calls P n #[.slice a 0 c, .string sep] w fun e w' => e = .returned (.string ⟨#[]⟩) ∧ w' = w)
    (hsome : ∀ (bk o c : Nat) (xs : List ByteArray) (sep : ByteArray) (w : World), (∀ (j : Nat) x, xs[j]? = some x → w.cell? ⟨bk, o + j, none⟩ = some (.string x)) → bk < w.heap.size → xs.length ≤ 140737488355328 → xs.length ≤ c →
      (Lib.join (xs.map (·.data.toList)) sep.data.toList).length ≤ 140737488355328 →
      Calls P n #[.slice (some ⟨bk, o, none⟩) xs.length c, .string sep] w fun e w' => e = .returned (.string ⟨(Lib.join (xs.map (·.data.toList)) sep.data.toList).toArray⟩) ∧ Below w.heap.size w w')
    {a : Pt} {m c : Nat} {ex : Bool} {l : List (List Nat)} {sep : List Nat} (r : Row h.length h a m (strs l)) (hm : m ≤ 140737488355328) (hl : (sep.intercalate l).length ≤ 140737488355328) :
    Zae P n [.slice a m c ex, .str sep] h fun v h' => v = .str (sep.intercalate l) ∧ h' = h := by
  refine ⟨able, fun base w0 μ w xs rel hx => ?_⟩
  have hll : l.length = m := by simpa using r.1
  match xs, hx with
  | ⟨[x1, x2]⟩, .cons h1 (.cons h2 .nil) =>
    obtain ⟨_, am, capm, rfl, hrow⟩ := Zlp rel h1 r.rowOf
    cases h2 with
    | str sb =>
    rcases hrow with h0 | ⟨ad, rfl, ys, hys, hcell⟩
    · subst h0
      have : l = [] := List.eq_nil_of_length_eq_zero hll
      subst this
      refine (hnone am capm sb w).mono ?_
      rintro e w' ⟨rfl, rfl⟩
      exact ⟨_, μ, .str [], h, rfl, Ext.refl _, rel, (by have := VR.str (μ := μ) ⟨#[]⟩; simpa [bytesOf] using this), rfl, rfl⟩
    · obtain ⟨bs, rfl, hbs⟩ := hys.strs
      by_cases h0 : m = 0
      · subst h0
        have : l = [] := List.eq_nil_of_length_eq_zero hll
        subst this
        refine (hnone (some ad) capm sb w).mono ?_
        rintro e w' ⟨rfl, rfl⟩
        exact ⟨_, μ, .str [], h, rfl, Ext.refl _, rel, (by have := VR.str (μ := μ) ⟨#[]⟩; simpa [bytesOf] using this), rfl, rfl⟩
      · have hbl : bs.length = m := by rw [← hll, ← hbs]; simp
        have hc0 := hcell 0 (.string (bs[0]'(by omega))) (by rw [List.getElem?_map, List.getElem?_eq_getElem (by omega)]; rfl)
        have hsp : ad.spot = none ∧ ad.block < w.heap.size := by
          have : ad.add 0 = ad := by simp [Addr.add]
          rw [this] at hc0
          unfold World.cell? at hc0
          split at hc0
          · rename_i C el fr hb
            split at hc0
            · cases hc0
            · rename_i hsp
              exact ⟨by simpa using hsp, (Array.getElem?_eq_some_iff.1 hb).1⟩
          · cases hc0
        have had : ad = ⟨ad.block, ad.off, none⟩ := by rw [← hsp.1]
        have hcap : m ≤ capm := by cases h1 <;> omega
        have hjoin : (Lib.join (bs.map (·.data.toList)) sb.data.toList).map UInt8.toNat = (bytesOf sb).intercalate l := by
          unfold Lib.join
          rw [← Zqd]
          congr 1
          rw [← hbs]; simp [bytesOf]
        have hjl : (Lib.join (bs.map (·.data.toList)) sb.data.toList).length ≤ 140737488355328 := by
          have := congrArg List.length hjoin
          rw [List.length_map] at this
          omega
        have key := hsome ad.block ad.off capm bs sb w (fun j x hj => by
          have := hcell j (.string x) (by rw [List.getElem?_map, hj]; rfl)
          rw [had] at this
          rwa [Zxt] at this) hsp.2 (by omega) (by omega) hjl
        rw [hbl, ← had] at key
        refine key.mono ?_
        rintro e w' ⟨rfl, hb⟩
        refine ⟨_, μ, .str ((bytesOf sb).intercalate l), h, rfl, Ext.refl _, rel.grow hb, ?_, rfl, rfl⟩
        have := VR.str (μ := μ) ⟨(Lib.join (bs.map (·.data.toList)) sb.data.toList).toArray⟩
        rw [Zoi, hjoin] at this
        exact this
end
end Go.Sim

set_option linter.unusedSimpArgs false
namespace Go.Sim
open Go Go.RowKit

theorem trodAll_below {H : Type} {enc : TypeId × Value → H} {P : Program} (hl : laidOutB P = true) {W W' : World} (hb : Below W.heap.size W W') : ∀ {ts : List TypeId} {vs : List Value} {ds : List (DataW H)} {ps : List MemPlace},
    (∀ t ∈ ts, P.readableRec t = true ∧ t < P.types.size) → DataW.TrodAll enc P W 0 (fun _ => true) true ts vs ds ps → DataW.TrodAll enc P W' 0 (fun b => decide (b < W.heap.size)) true ts vs ds ps
  | [], [], [], _, _, h => h
  | t :: ts, v :: vs, d :: ds, ps, ht, ⟨p, q, h1, h2, e⟩ => by
    have h1' := h1
    obtain ⟨fuel, hf⟩ := h1'
    exact ⟨p, q, Below.trod hl (ht t (by simp)).1 (ht t (by simp)).2 h1 hb (DataW.trod_lt _ _ _ _ hf), trodAll_below hl hb (fun t' h' => ht t' (by simp [h'])) h2, e⟩
  | [], _ :: _, _, _, _, h => by simp [DataW.TrodAll] at h
  | [], [], _ :: _, _, _, h => by simp [DataW.TrodAll] at h
  | _ :: _, [], _, _, _, h => by simp [DataW.TrodAll] at h
  | _ :: _, _ :: _, [], _, _, h => by simp [DataW.TrodAll] at h

end Go.Sim

set_option linter.unusedSimpArgs false
namespace Go.Sim
open Go Go.RowKit

def Zlf : List Nat → Nat → Int
  | [], _ => -1
  | b :: l, c => if b == c then 0 else if Zlf l c == -1 then -1 else Zlf l c + 1
theorem Zxw (l : List Nat) (c : Nat) : -1 ≤ Zlf l c := by
  induction l with
  | nil => simp [Zlf]
  | cons b l ih => simp only [Zlf]; split <;> try split
                   all_goals omega
theorem Ztt (l : List Nat) (c : Nat) : 0 ≤ Zlf l c ↔ c ∈ l := by
  induction l with
  | nil => simp [Zlf]
  | cons b l ih =>
    have := Zxw l c
    simp only [Zlf, List.mem_cons]
    by_cases hb : b = c
    · simp [hb]
    · have hb' : c ≠ b := fun e => hb e.symm
      simp only [beq_iff_eq, hb, hb', if_false, false_or]
      rw [← ih]
      by_cases h1 : Zlf l c = -1
      · simp [h1]
      · simp only [h1, if_false]; omega
theorem Zyx (l : List Nat) (c : Nat) : Zlf l c < 0 ↔ c ∉ l := by rw [← Ztt]; omega
theorem Znr (l : List UInt8) (c : UInt8) : Lib.indexByte l c = Zlf (l.map UInt8.toNat) c.toNat := by
  induction l with
  | nil => rfl
  | cons b l ih =>
    simp only [Lib.indexByte, Zlf, List.map_cons, ih]
    have : (b == c) = (b.toNat == c.toNat) := by
      rw [Bool.eq_iff_iff]; simp [UInt8.toNat_inj]
    rw [this]
theorem Zjm {s : ByteArray} {c : Nat} (h : bytesOf s = [c]) : ∃ b : UInt8, s = ⟨#[b]⟩ ∧ b.toNat = c := by
  obtain ⟨⟨l⟩⟩ := s
  simp [bytesOf] at h
  match l, h with
  | [b], h => simp at h; exact ⟨b, rfl, h⟩
theorem Zje : ∀ (p s : List UInt8), (p.map UInt8.toNat).isPrefixOf (s.map UInt8.toNat) = p.isPrefixOf s
  | [], _ => by simp
  | a :: p, [] => by simp
  | a :: p, b :: s => by
    simp only [List.map_cons, List.isPrefixOf_cons₂, Zje p s]
    congr 1
    rw [Bool.eq_iff_iff]; simp [UInt8.toNat_inj]
theorem Zqf : ∀ (s : List UInt8) (c : UInt8), (s.map UInt8.toNat).count c.toNat = s.count c
  | [], _ => by simp
  | a :: s, c => by
    simp only [List.map_cons, List.count_cons, Zqf s c]
    congr 1
    simp [UInt8.toNat_inj]

section
variable {P : Program} {h : Zaa}
theorem Zae.plain {n : FuncId} {args : List Zac} (v0 : Zac) (able : ∃ fn, P.funcs[n]? = some fn ∧ fn.body.isSome = true ∧ (fn.name == "runtime.NumGoroutine") = false)
    (hc : ∀ (μ : List Pl) (xs : Array Value) (w : World), VRs μ args xs.toList → Calls P n xs w fun e w' => ∃ x, e = .returned x ∧ Below w.heap.size w w' ∧ VR μ v0 x) :
    Zae P n args h fun v h' => v = v0 ∧ h' = h := by
  refine ⟨able, fun base w0 μ w xs rel hx => (hc μ xs w hx).mono ?_⟩
  rintro e w' ⟨x, rfl, hb, hv⟩
  exact ⟨x, μ, v0, h, rfl, Ext.refl _, rel.grow hb, hv, rfl, rfl⟩
theorem Zae.contains1 {n : FuncId} (able : ∃ fn, P.funcs[n]? = some fn ∧ fn.body.isSome = true ∧ (fn.name == "runtime.NumGoroutine") = false)
    (hc : ∀ (s : ByteArray) (c : UInt8) (w : World), Calls P n #[.string s, .string ⟨#[c]⟩] w fun e w' => e = .returned (.bool (decide (0 ≤ Lib.indexByte s.data.toList c))) ∧ w' = w) {s : List Nat} {c : Nat} :
    Zae P n [.str s, .str [c]] h fun v h' => v = .bool (decide (c ∈ s)) ∧ h' = h := by
  refine Zae.plain _ able fun μ xs w hx => ?_
  match xs, hx with
  | ⟨[x1, x2]⟩, .cons h1 (.cons h2 .nil) =>
    cases h1 with
    | str s =>
    generalize ht : [c] = t at h2
    cases h2 with
    | str t =>
    obtain ⟨b, rfl, rfl⟩ := Zjm ht.symm
    refine (hc s b w).mono ?_
    rintro e w' ⟨rfl, rfl⟩
    refine ⟨_, rfl, Below.refl _ _, ?_⟩
    rw [Znr]
    have : decide (0 ≤ Zlf (s.data.toList.map UInt8.toNat) b.toNat) = decide (b.toNat ∈ bytesOf s) := by
      rw [decide_eq_decide]; exact Ztt _ _
    rw [this]; exact .bool _
theorem Zae.count1 {n : FuncId} (able : ∃ fn, P.funcs[n]? = some fn ∧ fn.body.isSome = true ∧ (fn.name == "runtime.NumGoroutine") = false)
    (hc : ∀ (s : ByteArray) (c : UInt8) (w : World), Calls P n #[.string s, .string ⟨#[c]⟩] w fun e w' => e = .returned (.int .i64 (Lib.countByte s.data.toList c)) ∧ w' = w) {s : List Nat} {c : Nat} :
    Zae P n [.str s, .str [c]] h fun v h' => v = .int .i64 (s.count c : Nat) ∧ h' = h := by
  refine Zae.plain _ able fun μ xs w hx => ?_
  match xs, hx with
  | ⟨[x1, x2]⟩, .cons h1 (.cons h2 .nil) =>
    cases h1 with
    | str s =>
    generalize ht : [c] = t at h2
    cases h2 with
    | str t =>
    obtain ⟨b, rfl, rfl⟩ := Zjm ht.symm
    refine (hc s b w).mono ?_
    rintro e w' ⟨rfl, rfl⟩
    refine ⟨_, rfl, Below.refl _ _, ?_⟩
    have : Lib.countByte s.data.toList b = (bytesOf s).count b.toNat := by unfold Lib.countByte bytesOf; rw [Zqf]
    rw [this]; exact .int _ _
theorem Zae.hasPrefix {n : FuncId} (able : ∃ fn, P.funcs[n]? = some fn ∧ fn.body.isSome = true ∧ (fn.name == "runtime.NumGoroutine") = false)
    (hc : ∀ (s p : ByteArray) (w : World), Calls P n #[.string s, .string p] w fun e w' => e = .returned (.bool (Lib.hasPrefix s.data.toList p.data.toList)) ∧ w' = w) {s p : List Nat} :
    Zae P n [.str s, .str p] h fun v h' => v = .bool (p.isPrefixOf s) ∧ h' = h := by
  refine Zae.plain _ able fun μ xs w hx => ?_
  match xs, hx with
  | ⟨[x1, x2]⟩, .cons h1 (.cons h2 .nil) =>
    cases h1 with
    | str s =>
    cases h2 with
    | str t =>
    refine (hc s t w).mono ?_
    rintro e w' ⟨rfl, rfl⟩
    refine ⟨_, rfl, Below.refl _ _, ?_⟩
    have : Lib.hasPrefix s.data.toList t.data.toList = (bytesOf t).isPrefixOf (bytesOf s) := by unfold Lib.hasPrefix bytesOf; rw [Zje]
    rw [this]; exact .bool _
def Yed (u : Nat) : List Nat := (Lib.decDigits u).map UInt8.toNat
def Yco (n : Int) : List Nat := (Lib.itoa n).map UInt8.toNat
def Ycx (P : Program) : Zce := .amb fun base w0 => ∀ w, Below base w0 w → Lib.TabIs P w "internal/strconv.uint64pow10" .u64 Lib.pow10Tab
theorem Zae.itoa {n : FuncId} (able : ∃ fn, P.funcs[n]? = some fn ∧ fn.body.isSome = true ∧ (fn.name == "runtime.NumGoroutine") = false)
    (hc : ∀ (z : Int), -9223372036854775808 ≤ z → z ≤ 9223372036854775807 → ∀ (w : World), Lib.TabIs P w "internal/strconv.uint64pow10" .u64 Lib.pow10Tab → Calls P n #[.int .i64 z] w fun e w' => e = .returned (.string ⟨(Lib.itoa z).toArray⟩) ∧ ∃ k os, w' = Go.Sort.grow (w.drewN k) os)
    {k : Nat} (hk : h[k]? = some (Ycx P)) {z : Int} (h0 : -9223372036854775808 ≤ z) (h1 : z ≤ 9223372036854775807) :
    Zae P n [.int .i64 z] h fun v h' => v = .str (Yco z) ∧ h' = h := by
  refine ⟨able, fun base w0 μ w xs rel hx => ?_⟩
  match xs, hx with
  | ⟨[x1]⟩, .cons hx1 .nil =>
    cases hx1
    have hlt : k < μ.length := by rw [rel.len]; exact (List.getElem?_eq_some_iff.1 hk).1
    have ham := rel.obj k _ hk _ (List.getElem?_eq_getElem hlt)
    refine (hc z h0 h1 w (ham w rel.below)).mono ?_
    rintro e w' ⟨rfl, q, os, rfl⟩
    refine ⟨_, μ, .str (Yco z), h, rfl, Ext.refl _, rel.grow ⟨rfl, rfl, rfl, by simp [Go.Sort.grow, World.drewN], fun j hj => ?_⟩, ?_, rfl, rfl⟩
    · simp only [Go.Sort.grow, World.drewN]
      rw [Array.getElem?_append_left hj]
    · have := VR.str (μ := μ) ⟨(Lib.itoa z).toArray⟩
      rw [Zoi] at this; exact this
end
end Go.Sim


set_option linter.unusedSimpArgs false
namespace Go.Sim
open Go Go.RowKit

section
variable {P : Program} {h : Zaa}
theorem Zae.keys {n g : FuncId} {M : TypeId} (able : ∃ fn, P.funcs[n]? = some fn ∧ fn.body.isSome = true ∧ (fn.name == "runtime.NumGoroutine") = false)
    (hc : ∀ (mb : Option Nat) (W : World), Calls P n #[.map mb] W fun e w' => e = .returned (.func (.func g) #[] #[.pointer (some ⟨W.heap.size, 0, none⟩)]) ∧ w' = W.alloc (.cells #[.map mb] M)) {m : Option Nat} :
    Zae P n [.map m] h fun v h' => v = .fn g [.ptr (some (h.length, 0))] ∧ h' = h ++ [.cells M [.map m] false] := by
  refine ⟨able, fun base w0 μ w xs rel hx => ?_⟩
  match xs, hx with
  | ⟨[x1]⟩, .cons hx1 .nil =>
    have key : ∀ mb, VR μ (.map m) (.map mb) → Calls P n #[.map mb] w fun e w' => ∃ x μ' v h', e = .returned x ∧ Ext μ μ' ∧ Rel P base w0 μ' h' w' ∧ VR μ' v x ∧ v = .fn g [.ptr (some (h.length, 0))] ∧ h' = h ++ [.cells M [.map m] false] := by
      intro mb hv
      refine (hc mb w).mono ?_
      rintro e w' ⟨rfl, rfl⟩
      have r' := rel.newRow0 (t := M) (cs := [.map m]) (C := #[.map mb]) (by simpa using VRs.cons hv .nil)
      refine ⟨_, _, _, _, rfl, Ext.app _ _, r', ?_, rfl, rfl⟩
      refine .fn (.cons ?_ .nil)
      exact .ptr (e := ⟨w.heap.size, 0, true, 1, P.cellsOf M⟩) (o := 0) (by simpa using rel.last _)
    cases hx1 with
    | map0 => exact key none .map0
    | map hi => exact key _ (.map hi)
theorem Ycj {a b : UInt8} (h : ([a] : List UInt8) ≤ [b]) : a.toNat ≤ b.toNat := by
  have h1 : ¬ ([b] : List UInt8) < [a] := h
  rw [List.cons_lt_cons_iff] at h1
  have h2 : ¬ b < a := fun e => h1 (.inl e)
  have : ¬ b.toNat < a.toNat := fun e => h2 (UInt8.lt_iff_toNat_lt.2 e)
  omega
theorem VRs.ones {μ : List Pl} : ∀ {vs : List Nat} {xs : List Value}, VRs μ (vs.map fun v => .str [v]) xs → ∃ bs : List UInt8, bs.map UInt8.toNat = vs ∧ xs = bs.map fun b => .string ⟨#[b]⟩
  | [], [], _ => ⟨[], rfl, rfl⟩
  | [], _ :: _, h => by cases h
  | v :: vs, [], h => by cases h
  | v :: vs, x :: xs, h => by
    simp only [List.map_cons] at h
    cases h with
    | cons h1 h2 =>
    generalize ht : [v] = t at h1
    cases h1 with
    | str s =>
    obtain ⟨b, rfl, rfl⟩ := Zjm ht.symm
    obtain ⟨bs, rfl, rfl⟩ := VRs.ones h2
    exact ⟨b :: bs, rfl, rfl⟩
theorem VRs.ones2 {μ : List Pl} (bs : List UInt8) : VRs μ ((bs.map UInt8.toNat).map fun v => .str [v]) (bs.map fun b => .string ⟨#[b]⟩) := by
  induction bs with
  | nil => exact .nil
  | cons b bs ih =>
    simp only [List.map_cons]
    refine .cons ?_ ih
    have := VR.str (μ := μ) ⟨#[b]⟩
    simpa [bytesOf] using this
theorem Yaw {bs : List UInt8} {ss : List (List UInt8)} (hp : ss.Perm (bs.map fun b => [b])) : ∃ us : List UInt8, ss = us.map (fun b => [b]) ∧ us.Perm bs := by
  have hall : ∀ s ∈ ss, ∃ b, s = [b] := fun s hs => by
    obtain ⟨b, _, rfl⟩ := List.mem_map.1 (hp.mem_iff.1 hs); exact ⟨b, rfl⟩
  have hus : ss = (ss.map fun s => s.headD 0).map (fun b => [b]) := by
    rw [List.map_map]
    conv => lhs; rw [← List.map_id ss]
    apply List.map_congr_left
    intro s hs
    obtain ⟨b, rfl⟩ := hall s hs
    rfl
  refine ⟨ss.map fun s => s.headD 0, hus, ?_⟩
  have := hp.map fun s => s.headD 0
  simpa [List.map_map, Function.comp_def] using this
theorem Zae.sortedKeys {n g : FuncId} {M K : TypeId} (hK : P.underlying K = some .string) (hcK : P.cellsOf K = 1) (able : ∃ fn, P.funcs[n]? = some fn ∧ fn.body.isSome = true ∧ (fn.name == "runtime.NumGoroutine") = false)
    (hc : ∀ (Bm b nn : Nat) (D0 : DataW Unit) (R : Value → Option (DataW Unit × List MemPlace)) (w : World), w.ownsMap P K R b nn D0 → Bm < w.heap.size → w.cell? ⟨Bm, 0, none⟩ = some (.map (some b)) → Maps.size D0 ≤ maxLen → Maps.size D0 * 16 ≤ 140737488355328 →
      Calls P n #[.func (.func g) #[] #[.pointer (some ⟨Bm, 0, none⟩)]] w fun e w' => ∃ (v : Value) (ss : List (List UInt8)), e = .returned v ∧ ss.Perm (strKeys D0) ∧
        w'.ownsRow w.heap.size K 1 v ss.length ((ss.mergeSort (fun x y => decide (x ≤ y))).map Go.Proofs.encStr) ∧ (v = .slice none 0 0 ↔ ss = []) ∧ Below w.heap.size w w')
    {i m : Nat} {es : List ME} {clk : Nat} (hi : h[i]? = some (.cells M [.map (some m)] false)) (hm : h[m]? = some (.map es clk)) {vs : List Nat} (hks : es.map (·.1) = vs.map fun v => .str [v]) (nd : vs.Nodup) (born : (es.map (·.2.2)).Nodup) (lt : ∀ e ∈ es, e.2.2 < clk) (hl : es.length ≤ 1048576) :
    Zae P n [.fn g [.ptr (some (i, 0))]] h fun v h' => ∃ us : List Nat, us.Perm vs ∧ us.Pairwise (· ≤ ·) ∧ ((us = [] ∧ v = .slice none 0 0 true ∧ h' = h) ∨ (∃ c, v = .slice (some (h.length, 0)) us.length c false ∧ us.length ≤ c ∧ h' = h ++ [.cells K (us.map fun v => .str [v]) false])) := by
  refine ⟨able, fun base w0 μ w xs rel hx => ?_⟩
  match xs, hx with
  | ⟨[x1]⟩, .cons hx1 .nil =>
    generalize hf : Zac.fn g [.ptr (some (i, 0))] = f at hx1
    cases hx1 <;> try (cases hf; done)
    rename_i f' caps ys hcaps
    cases hf
    obtain ⟨ys⟩ := ys
    match ys, hcaps with
    | [y], .cons hy .nil =>
    generalize hp : (Zac.ptr (some (i, 0))) = p at hy
    cases hy <;> try (cases hp; done)
    rename_i i' o' e hei
    cases hp
    obtain ⟨C, el, fr, hC, hvs, hown⟩ := rel.obj i _ hi e hei
    simp only [Bool.false_eq_true, if_false] at hown
    obtain ⟨ho1, ho0, rfl, rfl, hn, hcz, hbase⟩ := hown
    rw [ho0, List.drop_zero] at hvs
    simp only [List.length_cons, List.length_nil] at hvs
    have hC0 : ∃ x r, C.toList = x :: r ∧ VR μ (.map (some m)) x := by
      match hCl : C.toList, hvs with
      | x :: r, hv => simp only [List.take_succ_cons] at hv; cases hv with | cons a b => exact ⟨x, r, rfl, a⟩
      | [], hv => simp at hv; cases hv
    obtain ⟨x, r, hCl, hvx⟩ := hC0
    generalize hmm : Zac.map (some m) = mm at hvx
    cases hvx <;> try (cases hmm; done)
    rename_i m' em hem
    cases hmm
    obtain ⟨hbm, ents, hents, hk1, hk2, hk3⟩ := rel.obj m _ hm em hem
    rw [hks] at hk1
    obtain ⟨bs, rfl, hkeys⟩ := hk1.ones
    have hlen : ents.size = es.length := by have := congrArg List.length hk3; simp at this; exact this.symm
    have hel : w.cell? ⟨e.b, 0, none⟩ = some (.map (some em.b)) := by
      have : C[0]? = some (.map (some em.b)) := by rw [← Array.getElem?_toList, hCl]; rfl
      simp [World.cell?, hC, this]
    have hkey : ∀ y ∈ ents.toList, ∃ b : UInt8, y.key = .string ⟨#[b]⟩ := fun y hy => by
      have : y.key ∈ ents.toList.map (·.key) := List.mem_map.2 ⟨y, hy, rfl⟩
      rw [hkeys] at this
      obtain ⟨b, _, hb⟩ := List.mem_map.1 this
      exact ⟨b, hb.symm⟩
    have hko : ∀ b : UInt8, keyOf P K (.string ⟨#[b]⟩) = some (.string [b]) := fun b => by
      simp [keyOf, hK, mapKey, maxLen]; exact if_pos (by show (1 : Nat) ≤ _; decide)
    let R : Value → Option (DataW Unit × List MemPlace) := fun _ => some (.nil, [])
    have hrg : ents.toList.map (fun y => strOf (WideElems.rg P K R y).1) = bs.map fun b => [b] := by
      have : ents.toList.map (fun y => strOf (WideElems.rg P K R y).1) = (ents.toList.map (·.key)).map fun k => match keyOf P K k with | some l => strOf l | none => [] := by
        rw [List.map_map]
        apply List.map_congr_left
        intro y hy
        obtain ⟨b, hb⟩ := hkey y hy
        simp [WideElems.rg, WideElems.rd, hb, hko, R, strOf]
      rw [this, hkeys, List.map_map]
      apply List.map_congr_left
      intro b _
      simp [hko, strOf]
    have hnb : bs.Nodup := List.Pairwise.of_map (R := fun a b : UInt8 => a ≠ b) UInt8.toNat (fun a b h e => h (by rw [e])) nd
    have hfit : WideElems.Fit P K R ents clk := by
      refine ⟨by rw [hlen]; exact Nat.le_trans hl (by decide), ⟨?_, by rw [← hk3]; exact born, ?_⟩, ?_⟩
      · intro y hy
        have : y.born ∈ ents.toList.map (·.born) := List.mem_map.2 ⟨y, hy, rfl⟩
        rw [← hk3] at this
        obtain ⟨e', he', hb⟩ := List.mem_map.1 this
        rw [← hb]; exact lt e' he'
      · rw [hkeys]
        refine List.Pairwise.map _ ?_ hnb
        intro a b hab e
        exact hab (by simpa using e)
      · intro y hy
        obtain ⟨b, hb⟩ := hkey y hy
        exact ⟨_, by simp [WideElems.rd, hb, hko, R]; rfl⟩
    have hps := WideShapes.sorted_perm (ents.toList.map (WideElems.rg P K R))
    have hsz : Maps.size (DataW.map ((ents.toList.map (WideElems.rg P K R)).foldr DataW.insert [])) = es.length := by
      show List.length _ = _
      rw [hps.length_eq, List.length_map, Array.length_toList, hlen]
    show Calls P n #[.func (.func g) #[] #[.pointer (some ⟨e.b, e.o + 0, none⟩)]] w _
    rw [show e.o + 0 = 0 by omega]
    refine (hc e.b em.b ents.size _ R w ⟨ents, clk, hents, hfit, Nat.le_refl _, rfl⟩ (Array.getElem?_eq_some_iff.1 hC).1 hel (by rw [hsz]; exact Nat.le_trans hl (by decide)) (by rw [hsz]; omega)).mono ?_
    rintro ee w' ⟨v, ss, rfl, hperm, hrow, hnil, hb⟩
    have hperm2 : ss.Perm (bs.map fun b => [b]) := by
      refine hperm.trans ?_
      show (List.map (fun p : Lit × DataW Unit => strOf p.1) _).Perm _
      rw [← hrg]
      have := hps.map fun p : Lit × DataW Unit => strOf p.1
      simpa [List.map_map, Function.comp_def] using this
    have tr : ∀ a b c : List UInt8, decide (a ≤ b) = true → decide (b ≤ c) = true → decide (a ≤ c) = true := fun a b c h1 h2 => by simp only [decide_eq_true_eq] at *; exact List.le_trans h1 h2
    have to : ∀ a b : List UInt8, (decide (a ≤ b) || decide (b ≤ a)) = true := fun a b => by simp only [Bool.or_eq_true, decide_eq_true_eq]; exact List.le_total a b
    have hsrt := List.pairwise_mergeSort tr to ss
    have hpm := List.mergeSort_perm ss (fun x y => decide (x ≤ y))
    obtain ⟨us, hus, hup⟩ := Yaw (hpm.trans hperm2)
    rw [hus] at hrow hsrt
    have hul : us.length = ss.length := by have := hpm.length_eq; rw [hus] at this; simpa using this
    have hsn : (us.map UInt8.toNat).Pairwise (· ≤ ·) := by
      rw [List.pairwise_map] at hsrt ⊢
      exact hsrt.imp fun {a b} h => Ycj (of_decide_eq_true h)
    have henc : (us.map (fun b => [b])).map Go.Proofs.encStr = us.map fun b => .string ⟨#[b]⟩ := by
      rw [List.map_map]; rfl
    rw [henc] at hrow
    obtain ⟨_, hrow⟩ := hrow
    rcases hrow with ⟨rfl, h0⟩ | ⟨gb, cap, cur, rfl, hg1, hg2, hg3, hg4, hg5, hg6⟩
    · have : us = [] := List.eq_nil_of_length_eq_zero (by omega)
      subst this
      exact ⟨_, μ, _, h, rfl, Ext.refl _, rel.grow hb, .slice0, [], by simpa using hup.map UInt8.toNat, List.Pairwise.nil, .inl ⟨rfl, rfl, rfl⟩⟩
    · have hpl : (us.map fun b => Zac.str [b.toNat]).length = us.length := by simp
      have r' := rel.new hb ⟨gb, 0, true, cur.size, P.cellsOf K⟩ (.cells K (us.map fun b => Zac.str [b.toNat]) false) hg1 (by
        refine ⟨cur, K, (0, 0), hg2, ?_, ?_⟩
        · rw [List.drop_zero, hpl, hul, ← Nat.mul_one ss.length, hg6]
          simpa [List.map_map, Function.comp_def] using VRs.ones2 us
        · simp only [Bool.false_eq_true, if_false]
          exact ⟨trivial, trivial, trivial, trivial, trivial, trivial, Nat.le_trans rel.size hg1⟩)
      refine ⟨_, _, .slice (some (h.length, 0)) us.length us.length false, _, rfl, Ext.app _ _, r', ?_, us.map UInt8.toNat, hup.map _, hsn, .inr ⟨us.length, by simp, by simp, by simp [List.map_map, Function.comp_def]⟩⟩
      rw [← hul]
      refine .slice (e := ⟨gb, 0, true, cur.size, P.cellsOf K⟩) (o := 0) (rel.last _) (Nat.le_refl _) (by omega) (fun h => by cases h) (fun _ _ => ?_)
      show cap * P.cellsOf K ≤ cur.size
      rw [hcK]; omega
end
end Go.Sim
