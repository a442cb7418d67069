/- A part of the proof of a statement of this seat: see the text that holds the theorem. No condition. -/
import Derived.Test.YtlljbdepamknoaaSimIa
import Derived.MapKept
import Derived.Carry
import Derived.Laws.RangeString
import Derived.Maps.RangeRun
import GoSem.Builtin.Clear
import Derived.Orders
set_option linter.unusedVariables false
set_option linter.unusedSimpArgs false
set_option linter.all false
set_option linter.unusedSimpArgs false
namespace Go.Sim
open Go Go.RowKit

abbrev ME := Zac × Zac × Nat
def Zdu (h : Zaa) (m : Option Nat) (K : List ME → Nat → Prop) : Prop :=
  match m with
  | none => K [] 0
  | some i => (match h[i]? with | some (.map es clk) => K es clk | _ => False)
def Zku : List ME → List Nat → Nat → Option (Option (Nat × Zac))
  | [], _, _ => some none
  | (.str k, v, _) :: r, s, i => if s = k then some (some (i, v)) else Zku r s (i + 1)
  | _ :: _, _, _ => none
def Znm (es : List ME) (s : List Nat) (K : Option Zac → Prop) : Prop := match Zku es s 0 with | some (some (_, v)) => K (some v) | some none => K none | none => False
def Zyq (es : List ME) (clk : Nat) (s : List Nat) (v : Zac) (K : List ME → Nat → Prop) : Prop :=
  match Zku es s 0 with
  | some (some (i, _)) => K (es.modify i fun e => (.str s, v, e.2.2)) clk
  | some none => K (es ++ [(.str s, v, clk)]) (clk + 1)
  | none => False
def xMp (m : Option Nat) (K : Nat → Prop) : Prop := match m with | some i => K i | none => False
def Ybl (P : Program) (t : TypeId) : Option Zac := match P.info? t with | some i => (match i.zero with | some v => some (Zjp v) | none => none) | none => none
def Zkl (P : Program) (t : TypeId) (h : Zaa) (m k : Zac) (ok : Bool) (K : Zac → Prop) : Prop :=
  match P.underlying t with
  | some (.map kt et) => chk (Zlb P kt = true ∧ isAgg P et = false) (match m with
    | .map a => Zct (some k) fun s => Zsc (Ybl P et) fun z => Zdu h a fun es _ => Znm es s fun r => xv (Zfy P et) (some (r.getD z)) fun v => K (match ok with | true => .tup [v, .bool r.isSome] | false => v)
    | _ => False)
  | _ => False
def Zfv (P : Program) (t : TypeId) (h : Zaa) (m k v : Zac) (K : Zac → Zaa → Prop) : Prop :=
  match P.underlying t with
  | some (.map kt _) => chk (Zlb P kt = true) (match m with
    | .map a => xMp a fun i => Zct (some k) fun s => Zdu h (some i) fun es clk => Zyq es clk s v fun es' clk' => K .undef (h.set i (.map es' clk'))
    | _ => False)
  | _ => False
def Ztg (P : Program) (t : TypeId) : Bool := match P.underlying t with | some (.map _ _) => true | _ => false
def Zir (P : Program) (t : TypeId) (r : Option Zac) (h : Zaa) (K : Zac → Zaa → Prop) : Prop :=
  match r with
  | none => K (.map (some h.length)) (h ++ [.map [] 0])
  | some (.int _ _) => chk (Ztg P t = true) (K (.map (some h.length)) (h ++ [.map [] 0]))
  | _ => False
def Ydw (m : Option Nat) (clk : Nat) : Nat := match m with | none => 0 | some _ => clk
def Ydf (m : Option Nat) (A B : Prop) : Prop := match m with | none => A | some _ => B
def Ydc (P : Program) (t : TypeId) (i : Nat) : Sh := match P.underlying t with | some (.tuple ts) => (match ts[i]? with | some t => Zfy P t | none => .any) | _ => .any
def Zoj (P : Program) (t : TypeId) (x : Zac) (h : Zaa) (K : Zac → Zaa → Prop) : Prop :=
  match x with
  | .str s => chk (Zlb P t = true) (K (.iter h.length) (h ++ [.iter s 0]))
  | .map m => chk (Ztg P t = true) (Zdu h m fun _ clk => K (.iter h.length) (h ++ [.miter m (Ydw m clk) [] (Ydw m clk)]))
  | _ => False
def Zug (h : Zaa) (r : Nat) (K : List Nat → Nat → Prop) : Prop := match h[r]? with | some (.iter s pos) => K s pos | _ => False
def Zms (h : Zaa) (r : Nat) (K : Option Nat → Nat → List Nat → Nat → Prop) : Prop := match h[r]? with | some (.miter m since seen last) => K m since seen last | _ => False
def Zub (P : Program) (ty : TypeId) (it : Zac) (isStr : Bool) (h : Zaa) (K : Zac → Zaa → Prop) : Prop :=
  match it with
  | .iter r => (match isStr with
    | true => Zug h r fun s pos => (pos < s.length → s.getD pos 0 < 128 ∧ K (.tup [.bool true, .int .i64 (pos : Int), .int .i32 ((s.getD pos 0 : Nat) : Int)]) (h.set r (.iter s (pos + 1)))) ∧ (s.length ≤ pos → K (.tup [.bool false]) h)
    | false => Zms h r fun m since seen last => Ydf m (K (.tup [.bool false]) h) (Zdu h m fun es clk => ((∀ e ∈ es, e.2.2 < since) ∧ since ≤ last) ∧ ((∀ e ∈ es, e.2.2 ∈ seen) → K (.tup [.bool false]) h) ∧
        ∀ e ∈ es, e.2.2 ∉ seen → xv (Ydc P ty 1) (some e.1) fun a => xv (Ydc P ty 2) (some e.2.1) fun b => K (.tup [.bool true, a, b]) (h.set r (.miter m since (seen ++ [e.2.2]) clk))))
  | _ => False
def Zoc (P : Program) (ty : TypeId) (it : Zac) (h : Zaa) (K : Zac → Prop) : Prop :=
  match it with
  | .iter r => Zms h r fun m _ seen last => xMp m fun i => Zdu h (some i) fun es clk => ((es.map (·.2.2)).Nodup ∧ clk = last) ∧ ∃ e ∈ es, ∃ s0, seen = s0 ++ [e.2.2] ∧ xv (Ydc P ty 0) (some e.1) fun a => xv (Ydc P ty 1) (some e.2.1) fun b => K (.tup [a, b])
  | _ => False

section
variable {P : Program} {base : Nat} {w0 : World} {μ : List Pl} {h : Zaa} {w : World}
theorem Zqy {t : TypeId} (h : Ztg P t = true) : ∃ k e, P.underlying t = some (.map k e) := by unfold Ztg at h; split at h <;> simp_all
theorem Zsm {a b : ByteArray} (h : bytesOf a = bytesOf b) : a = b := by
  have := Zht h
  cases a; cases b
  congr 1
  exact Array.ext' this
theorem Zjr {s : ByteArray} : ∀ {es : List ME} {ents : List MapEntry} {i : Nat} {r : Option (Nat × Zac)}, VRs μ (es.map (·.1)) (ents.map (·.key)) → VRs μ (es.map (·.2.1)) (ents.map (·.val)) → Zku es (bytesOf s) i = some r →
    (r = none ∧ Instr.findNow .string (.string s) ents i = some none) ∨ ∃ j v x k0, r = some (j, v) ∧ i ≤ j ∧ VR μ v x ∧ Instr.findNow .string (.string s) ents i = some (some (j, x)) ∧ ents[j - i]? = some k0 ∧ k0.key = .string s
  | [], [], i, r, _, _, h => by simp [Zku] at h; subst h; exact .inl ⟨rfl, rfl⟩
  | [], e :: ents, i, r, hk, _, _ => by cases hk
  | e :: es, [], i, r, hk, _, _ => by cases hk
  | (k, v, b) :: es, e :: ents, i, r, hk, hv, h => by
    simp only [List.map_cons] at hk hv
    cases hk with
    | cons hk1 hk2 =>
    cases hv with
    | cons hv1 hv2 =>
    cases k <;> simp only [Zku] at h <;> try (cases h; done)
    rename_i kb
    generalize he : e.key = ek at hk1
    cases hk1
    rename_i kb
    by_cases hs : bytesOf s = bytesOf kb
    · rw [if_pos hs] at h
      cases h
      have : s = kb := Zsm hs
      subst this
      refine .inr ⟨i, v, e.val, e, rfl, Nat.le_refl _, hv1, ?_, by simp, he⟩
      simp [Instr.findNow, he, Instr.sameNow, (MapKept.bytes_beq s s).2 rfl]
    · rw [if_neg hs] at h
      have hne : (s == kb) = false := by
        cases hb : s == kb with
        | false => rfl
        | true => exact absurd (by rw [(MapKept.bytes_beq s kb).1 hb]) hs
      rcases Zjr hk2 hv2 h with ⟨h1, h2⟩ | ⟨j, v', x, k0, h1, h2, h3, h4, h5, h6⟩
      · exact .inl ⟨h1, by simp [Instr.findNow, he, Instr.sameNow, hne, h2]⟩
      · refine .inr ⟨j, v', x, k0, h1, by omega, h3, by simp [Instr.findNow, he, Instr.sameNow, hne, h4], ?_, h6⟩
        rw [show j - i = (j - (i + 1)) + 1 by omega]; simpa using h5

theorem Yac {t : TypeId} {z : Zac} (hz : Ybl P t = some z) : ∃ v, VR μ z v ∧ ∀ w, (zeroValue t).run P w = .ok v w := by
  unfold Ybl at hz
  split at hz
  · rename_i i hi
    split at hz
    · rename_i v hv
      cases hz
      exact ⟨v, Zkt v, fun w => by simp [zeroValue, typeInfo, hi, hv]⟩
    · cases hz
  · cases hz
theorem Zih {m : Option Nat} {K : List ME → Nat → Prop} (hk : Zdu h m K) : (m = none ∧ K [] 0) ∨ ∃ i es clk, m = some i ∧ h[i]? = some (.map es clk) ∧ K es clk := by
  unfold Zdu at hk
  split at hk
  · exact .inl ⟨rfl, hk⟩
  · split at hk
    · rename_i hi; exact .inr ⟨_, _, _, rfl, hi, hk⟩
    · exact hk.elim
theorem Znx {o : Option Zac} {K : List Nat → Prop} (h : Zct o K) : ∃ s, o = some (.str s) ∧ K s := by
  unfold Zct at h; split at h
  · exact ⟨_, rfl, h⟩
  · exact h.elim

theorem Zwe (r : Rel P base w0 μ h w) {t : TypeId} {a k : Zac} {x y : Value} {ok : Bool} (ha : VR μ a x) (hkk : VR μ k y) {K : Zac → Prop} (hk : Zkl P t h a k ok K) :
    ∃ z v, (Instr.lookup t x y ok).run P w = .ok z w ∧ VR μ v z ∧ K v := by
  unfold Zkl at hk
  split at hk
  · rename_i kt et hu
    replace hk := Zao hk
    obtain ⟨⟨hs, hag⟩, hk⟩ := hk
    have hs := Zha hs
    split at hk
    · rename_i m
      obtain ⟨s, hse, hk⟩ := Znx hk
      cases hse
      obtain ⟨z0, hz, hk⟩ := Zmy hk
      obtain ⟨zv, hzv1, hzr⟩ := Yac (μ := μ) hz
      cases hkk with
      | str sb =>
      have hchk : ∀ b, (Instr.checkKey b 10000 kt (.string sb)).run P w = .ok () w := fun b => MapKept.run_checkKey (d := .string) hs (by simp [MapKept.IsKey]) b 9999
      rcases Zih hk with ⟨rfl, hk1⟩ | ⟨i', es, clk, rfl, hi', hk1⟩
      · cases ha
        simp only [Znm, Zku] at hk1
        obtain ⟨v, hv, hk2⟩ := Zgb hk1
        cases hv
        have hfk := MapKept.run_findKey (P := P) (w := w) (k := .string sb) (l := []) hs rfl
        cases ok
        · exact ⟨zv, _, by simp [Instr.lookup, run_underlying hu, hchk, hfk, hzr w], hzv1, hk2⟩
        · exact ⟨.tuple #[zv, .bool false], _, by simp [Instr.lookup, run_underlying hu, hchk, hfk, hzr w], .tup (.cons hzv1 (.cons (.bool _) .nil)), hk2⟩
      · cases ha with
        | map hmu =>
        obtain ⟨hb0, ents, hg, hk1', hk2', hk3'⟩ := r.obj i' _ hi' _ hmu
        unfold Znm at hk1
        split at hk1
        · rename_i j v hf
          obtain ⟨v1, hv, hk2⟩ := Zgb hk1
          cases hv
          rcases Zjr hk1' hk2' hf with ⟨h1, _⟩ | ⟨j', v', x', k0, h1, _, h3, h4, _⟩
          · cases h1
          · cases h1
            have hfk := MapKept.run_findKey (P := P) (w := w) hs h4
            cases ok
            · exact ⟨x', _, by simp [Instr.lookup, run_underlying hu, MapKept.run_getObj_map hg, hchk, hfk], h3, hk2⟩
            · exact ⟨.tuple #[x', .bool true], _, by simp [Instr.lookup, run_underlying hu, MapKept.run_getObj_map hg, hchk, hfk], .tup (.cons h3 (.cons (.bool _) .nil)), hk2⟩
        · rename_i hf
          obtain ⟨v1, hv, hk2⟩ := Zgb hk1
          cases hv
          rcases Zjr hk1' hk2' hf with ⟨_, h4⟩ | ⟨j', v', x', k0, h1, _⟩
          · have hfk := MapKept.run_findKey (P := P) (w := w) hs h4
            cases ok
            · exact ⟨zv, _, by simp [Instr.lookup, run_underlying hu, MapKept.run_getObj_map hg, hchk, hfk, hzr w], hzv1, hk2⟩
            · exact ⟨.tuple #[zv, .bool false], _, by simp [Instr.lookup, run_underlying hu, MapKept.run_getObj_map hg, hchk, hfk, hzr w], .tup (.cons hzv1 (.cons (.bool _) .nil)), hk2⟩
          · cases h1
        · exact hk1.elim
    · exact hk.elim
  · exact hk.elim
theorem Zhq {i : Nat} {K : List ME → Nat → Prop} (hk : Zdu h (some i) K) : ∃ es clk, h[i]? = some (.map es clk) ∧ K es clk := by
  rcases Zih hk with ⟨h0, _⟩ | ⟨i', es, clk, h0, hi', hk1⟩
  · cases h0
  · cases h0; exact ⟨es, clk, hi', hk1⟩
theorem VRs.modify {α β : Type} {p : α → Zac} {q : β → Value} {f : α → α} {g : β → β} {v : Zac} {k : Value} (hv : VR μ v k) (hf : ∀ x, p (f x) = v) (hg : ∀ y, q (g y) = k) : ∀ {l : List α} {m : List β} (j : Nat), VRs μ (l.map p) (m.map q) → VRs μ ((l.modify j f).map p) ((m.modify j g).map q)
  | [], [], j, _ => by cases j <;> exact .nil
  | [], _ :: _, _, h => by cases h
  | _ :: _, [], _, h => by cases h
  | a :: l, b :: m, 0, h => by
    simp only [List.map_cons] at h
    cases h with
    | cons h1 h2 =>
    simp only [List.modify_zero_cons, List.map_cons, hf, hg]
    exact .cons hv h2
  | a :: l, b :: m, j + 1, h => by
    simp only [List.map_cons] at h
    cases h with
    | cons h1 h2 =>
    simp only [List.modify_succ_cons, List.map_cons]
    exact .cons h1 (VRs.modify hv hf hg j h2)
theorem Zgf {α β : Type} {p : α → β} {f : α → α} (hf : ∀ x, p (f x) = p x) : ∀ (l : List α) (j : Nat), (l.modify j f).map p = l.map p
  | [], j => by cases j <;> rfl
  | a :: l, 0 => by simp [List.modify_zero_cons, hf]
  | a :: l, j + 1 => by simp [List.modify_succ_cons, Zgf hf l j]
theorem Rel.over (r : Rel P base w0 μ h w) {i : Nat} {o o' : Zce} {e : Pl} {x : Obj} (hi : h[i]? = some o) (ho : o.own = true) (hei : μ[i]? = some e) (hb : base ≤ e.b) (hown : o'.own = true)
    (hn : Zgt P base w0 μ e { w with heap := w.heap.setIfInBounds e.b x } o') : Rel P base w0 μ (h.set i o') { w with heap := w.heap.setIfInBounds e.b x } :=
  r.change hi ho hei ⟨rfl, rfl, rfl, by simp, fun k hk => by simp [show ¬ e.b = k by omega]⟩ (fun k hk _ => by simp [Ne.symm hk]) hn (.inl hown)
theorem Zsg {s : ByteArray} {es : List ME} {ents : List MapEntry} {j : Nat} {v : Zac} (hk : VRs μ (es.map (·.1)) (ents.map (·.key))) (hv : VRs μ (es.map (·.2.1)) (ents.map (·.val))) (hf : Zku es (bytesOf s) 0 = some (some (j, v))) :
    ∃ x, Instr.findNow .string (.string s) ents 0 = some (some (j, x)) ∧ ∃ k0, ents[j]? = some k0 ∧ k0.key = .string s := by
  rcases Zjr hk hv hf with ⟨h1, _⟩ | ⟨j', v', x', k0, h1, _, h3, h4, h5, h6⟩
  · cases h1
  · cases h1; exact ⟨x', h4, k0, h5, h6⟩
theorem Zps (r : Rel P base w0 μ h w) {t : TypeId} {a k v : Zac} {x y z : Value} (ha : VR μ a x) (hkk : VR μ k y) (hv : VR μ v z) {K : Zac → Zaa → Prop} (hk : Zfv P t h a k v K) :
    ∃ w' h', (Instr.mapUpdate t x y z).run P w = .ok () w' ∧ Rel P base w0 μ h' w' ∧ K .undef h' := by
  unfold Zfv at hk
  split at hk
  · rename_i kt et hu
    replace hk := Zao hk
    obtain ⟨hs, hk⟩ := hk
    have hs := Zha hs
    split at hk
    · rename_i m
      unfold xMp at hk
      split at hk
      · rename_i i
        obtain ⟨s, hse, hk⟩ := Znx hk
        cases hse
        cases hkk with
        | str sb =>
        obtain ⟨es, clk, hi', hk1⟩ := Zhq hk
        · cases ha with
          | map hmu =>
          rename_i e
          obtain ⟨hb0, ents, hg, hk1', hk2', hk3'⟩ := r.obj i _ hi' _ hmu
          have hchk : (Instr.checkKey false 10000 kt (.string sb)).run P w = .ok () w := MapKept.run_checkKey (d := .string) hs (by simp [MapKept.IsKey]) false 9999
          have hlt := (Array.getElem?_eq_some_iff.1 hg).1
          unfold Zyq at hk1
          split at hk1
          · rename_i j v0 hf
            obtain ⟨x0, hf2, k0, hj, hkey⟩ := Zsg hk1' hk2' hf
            have hfk := MapKept.run_findKey (P := P) (w := w) hs hf2
            have hj' : ents[j]? = some k0 := by simpa using hj
            have hst : ∀ w : World, (Instr.keyThatStays k0.key (.string sb)).run P w = .ok (.string sb) w := fun w => by
              rw [hkey]; simp [Instr.keyThatStays, Instr.sameBits, (MapKept.bytes_beq sb sb).2 rfl]
            refine ⟨_, _, ?_, r.over (x := .map (ents.modify j fun e => { e with key := .string sb, val := z }) clk) hi' rfl hmu hb0 rfl ?_, hk1⟩
            · simp [Instr.mapUpdate, run_underlying hu, MapKept.run_getObj_map hg, hchk, hfk, hj', hst, MapKept.run_setObj_map _ hg]
            · refine ⟨hb0, ents.modify j fun e => { e with key := .string sb, val := z }, by simp [hlt], ?_, ?_, ?_⟩
              · rw [Array.toList_modify]; exact VRs.modify (p := fun (x : ME) => x.1) (q := fun (x : MapEntry) => x.key) (v := .str (bytesOf sb)) (k := .string sb) (.str sb) (fun _ => rfl) (fun _ => rfl) j hk1'
              · rw [Array.toList_modify]; exact VRs.modify (p := fun (x : ME) => x.2.1) (q := fun (x : MapEntry) => x.val) (v := v) (k := z) hv (fun _ => rfl) (fun _ => rfl) j hk2'
              · rw [Array.toList_modify, Zgf (p := fun (x : ME) => x.2.2) (f := fun e => (.str (bytesOf sb), v, e.2.2)) (fun _ => rfl) es j, Zgf (p := fun (x : MapEntry) => x.born) (f := fun e => { e with key := .string sb, val := z }) (fun _ => rfl) ents.toList j]; exact hk3'
          · rename_i hf
            rcases Zjr hk1' hk2' hf with ⟨_, h4⟩ | ⟨j', v', x', k0, h1, _⟩
            · have hfk := MapKept.run_findKey (P := P) (w := w) hs h4
              refine ⟨_, _, ?_, r.over (x := .map (ents.push { key := .string sb, val := z, born := clk }) (clk + 1)) hi' rfl hmu hb0 rfl ?_, hk1⟩
              · simp [Instr.mapUpdate, run_underlying hu, MapKept.run_getObj_map hg, hchk, hfk, MapKept.run_setObj_map _ hg]
              · refine ⟨hb0, ents.push { key := .string sb, val := z, born := clk }, by simp [hlt], ?_, ?_, ?_⟩
                · simpa using hk1'.append (.cons (.str sb) .nil)
                · simpa using hk2'.append (.cons hv .nil)
                · simp [hk3']
            · cases h1
          · exact hk1.elim
      · exact hk.elim
    · exact hk.elim
  · exact hk.elim
theorem Zvg (r : Rel P base w0 μ h w) {t : TypeId} {a : Option Zac} {x : Option Value} (hax : (a = none ∧ x = none) ∨ ∃ v y, a = some v ∧ x = some y ∧ VR μ v y) {K : Zac → Zaa → Prop} (hk : Zir P t a h K) :
    Res P base w0 μ ((Instr.makeMap t x).run P w) K := by
  have fin : K (.map (some h.length)) (h ++ [.map [] 0]) → (Instr.makeMap t x).run P w = .ok (.map (some w.heap.size)) (w.alloc (.map #[] 0)) → Res P base w0 μ ((Instr.makeMap t x).run P w) K := by
    intro hk hr
    have hrel := r.new (o := .map [] 0) (e := ⟨w.heap.size, 0, true, 0, 0⟩) ((Below.refl _ w).alloc (Nat.le_refl _) (.map #[] 0)) (Nat.le_refl _) (by
      refine ⟨r.size, #[], ?_, .nil, .nil, rfl⟩
      show (w.heap.push _)[w.heap.size]? = _
      simp)
    exact ⟨_, _, _, _, _, hr, Ext.app _ _, hrel, .map (e := ⟨w.heap.size, 0, true, 0, 0⟩) (r.last _), hk⟩
  unfold Zir at hk
  rcases hax with ⟨rfl, rfl⟩ | ⟨v, y, rfl, rfl, hv⟩
  · exact fin hk rfl
  · split at hk
    · rename_i h0; cases h0
    · rename_i h0
      cases h0
      replace hk := Zao hk
      obtain ⟨hm, hk⟩ := hk
      obtain ⟨kt, et, hu⟩ := Zqy hm
      cases hv
      exact fin hk (by simp only [Instr.makeMap, Sem.run_bind, run_underlying hu, Result.andThen_ok, asInt, Sem.run_pure]; rfl)
    · exact hk.elim
theorem Zzg (r : Rel P base w0 μ h w) {t : TypeId} {a : Zac} {x : Value} (ha : VR μ a x) {K : Zac → Zaa → Prop} (hk : Zoj P t a h K) : Res P base w0 μ ((Instr.range t x).run P w) K := by
  unfold Zoj at hk
  split at hk
  · cases ha
    rename_i sb
    replace hk := Zao hk
    obtain ⟨hs, hk⟩ := hk
    have hs := Zha hs
    have hrel := r.new (o := .iter (bytesOf sb) 0) (e := ⟨w.heap.size, 0, true, 0, 0⟩) ((Below.refl _ w).alloc (Nat.le_refl _) (.stringIter sb 0)) (Nat.le_refl _) (by
      refine ⟨r.size, rfl, sb, rfl, ?_⟩
      show (w.heap.push _)[w.heap.size]? = _
      simp)
    exact ⟨_, _, _, _, _, run_range_string w t sb hs, Ext.app _ _, hrel, .iter (e := ⟨w.heap.size, 0, true, 0, 0⟩) (r.last _) rfl, hk⟩
  · rename_i m
    replace hk := Zao hk
    obtain ⟨hm, hk⟩ := hk
    obtain ⟨kt, et, hu⟩ := Zqy hm
    rcases Zih hk with ⟨rfl, hk1⟩ | ⟨i, es, clk, rfl, hi, hk1⟩
    · cases ha
      have hrel := r.new (o := .miter none 0 [] 0) (e := ⟨w.heap.size, 0, true, 0, 0⟩) ((Below.refl _ w).alloc (Nat.le_refl _) (.mapIter none 0 #[] 0)) (Nat.le_refl _) (by
        refine ⟨r.size, rfl, none, ?_, .inl ⟨rfl, rfl⟩⟩
        show (w.heap.push _)[w.heap.size]? = _
        simp)
      exact ⟨_, _, _, _, _, by simp only [Instr.range, Sem.run_bind, run_underlying hu, Result.andThen_ok, Sem.run_pure]; rfl, Ext.app _ _, hrel, .iter (e := ⟨w.heap.size, 0, true, 0, 0⟩) (r.last _) rfl, hk1⟩
    · cases ha with
      | map hmu =>
      rename_i e
      obtain ⟨hb0, ents, hg, hk1', hk2', hk3'⟩ := r.obj i _ hi _ hmu
      have hrel := r.new (o := .miter (some i) clk [] clk) (e := ⟨w.heap.size, 0, true, 0, 0⟩) ((Below.refl _ w).alloc (Nat.le_refl _) (.mapIter (some e.b) clk #[] clk)) (Nat.le_refl _) (by
        refine ⟨r.size, rfl, some e.b, ?_, .inr ⟨i, e, rfl, rfl, Ext.app _ _ _ _ hmu⟩⟩
        show (w.heap.push _)[w.heap.size]? = _
        simp)
      exact ⟨_, _, _, _, _, by simp only [Instr.range, Sem.run_bind, run_underlying hu, Result.andThen_ok, Sem.run_pure, MapKept.run_getObj_map hg]; rfl, Ext.app _ _, hrel, .iter (e := ⟨w.heap.size, 0, true, 0, 0⟩) (r.last _) rfl, hk1⟩
  · exact hk.elim
theorem Zvc {r : Nat} {K : List Nat → Nat → Prop} (hk : Zug h r K) : ∃ s pos, h[r]? = some (.iter s pos) ∧ K s pos := by
  unfold Zug at hk
  split at hk
  · rename_i hi; exact ⟨_, _, hi, hk⟩
  · exact hk.elim
theorem Zmi {r : Nat} {K : Option Nat → Nat → List Nat → Nat → Prop} (hk : Zms h r K) : ∃ m a b c, h[r]? = some (.miter m a b c) ∧ K m a b c := by
  unfold Zms at hk
  split at hk
  · rename_i hi; exact ⟨_, _, _, _, hi, hk⟩
  · exact hk.elim
theorem VRs.mem2 {α β : Type} {p p' : α → Zac} {q q' : β → Value} {c : α → Nat} {d : β → Nat} : ∀ {l : List α} {m : List β}, VRs μ (l.map p) (m.map q) → VRs μ (l.map p') (m.map q') → l.map c = m.map d → ∀ y ∈ m, ∃ x ∈ l, VR μ (p x) (q y) ∧ VR μ (p' x) (q' y) ∧ c x = d y
  | [], [], _, _, _, y, hy => by simp at hy
  | [], _ :: _, h, _, _, _, _ => by cases h
  | _ :: _, [], h, _, _, _, _ => by cases h
  | a :: l, b :: m, h, h', hc, y, hy => by
    simp only [List.map_cons] at h h' hc
    cases h with
    | cons h1 h2 =>
    cases h' with
    | cons h1' h2' =>
    simp only [List.cons.injEq] at hc
    rcases List.mem_cons.1 hy with rfl | hy
    · exact ⟨a, by simp, h1, h1', hc.1⟩
    · obtain ⟨x, hx, hr⟩ := VRs.mem2 h2 h2' hc.2 y hy
      exact ⟨x, by simp [hx], hr⟩
theorem Zxn (r : Rel P base w0 μ h w) {a : Zac} {x : Value} {isStr : Bool} {ty : TypeId} (ha : VR μ a x) {K : Zac → Zaa → Prop} (hk : Zub P ty a isStr h K) : Res P base w0 μ ((Instr.next x isStr ty).run P w) K := by
  unfold Zub at hk
  split at hk
  · rename_i i
    cases ha with
    | iter hmu ho =>
    rename_i e
    split at hk
    · obtain ⟨s, pos, hi, hk⟩ := Zvc hk
      obtain ⟨hb0, ho2, s', rfl, hg⟩ := r.obj i _ hi _ hmu
      have hlt := (Array.getElem?_eq_some_iff.1 hg).1
      have hget : (getObj e.b).run P w = .ok (.stringIter s' pos) w := by simp [getObj, Sem.run, hg]
      have hset : ∀ o, (setObj e.b o).run P w = .ok () { w with heap := w.heap.setIfInBounds e.b o } := fun o => by simp [setObj, Sem.run, hg]
      by_cases hp : pos < s'.size
      · obtain ⟨hc, hk⟩ := hk.1 (by rw [Zbq]; exact hp)
        have hby : (bytesOf s').getD pos 0 = (s'[pos]'hp).toNat := by
          have hlt' : pos < s'.data.size := hp
          have hq : s'.data[pos]? = some s'[pos] := by rw [Array.getElem?_eq_getElem hlt']; rfl
          simp only [bytesOf, List.getD, List.getElem?_map, Array.getElem?_toList, hq]; rfl
        rw [hby] at hc hk
        have hd := decode_ascii s' pos hp hc
        refine ⟨.tuple #[.bool true, .int .i64 pos, .int .i32 (s'[pos]'hp).toNat], _, μ, _, _, ?_, Ext.refl _, r.over (x := .stringIter s' (pos + 1)) hi rfl hmu hb0 rfl ?_, .tup (.cons (.bool _) (.cons (.int _ _) (.cons (.int _ _) .nil))), hk⟩
        · simp [Instr.next, hget, hp, hd, hset, goInt]
        · exact ⟨hb0, ho2, s', rfl, by simp [hlt]⟩
      · refine ⟨.tuple #[.bool false], w, μ, _, h, ?_, Ext.refl _, r, .tup (.cons (.bool _) .nil), hk.2 (by rw [Zbq]; omega)⟩
        simp [Instr.next, hget, hp]
    · obtain ⟨m, since, seen, last, hi, hk⟩ := Zmi hk
      obtain ⟨hb0, ho2, m', hg, hm⟩ := r.obj i _ hi _ hmu
      have hlt := (Array.getElem?_eq_some_iff.1 hg).1
      rcases hm with ⟨rfl, rfl⟩ | ⟨mi, p, rfl, rfl, hmp⟩
      · refine ⟨.tuple #[.bool false], w, μ, _, h, ?_, Ext.refl _, r, .tup (.cons (.bool _) .nil), hk⟩
        have hget : (getObj e.b).run P w = .ok (.mapIter none since seen.toArray last) w := by simp [getObj, Sem.run, hg]
        simp [Instr.next, hget]
      · obtain ⟨es, clk, hmi, hk⟩ := Zhq hk
        obtain ⟨hb1, ents, hg1, hk1', hk2', hk3'⟩ := r.obj mi _ hmi _ hmp
        obtain ⟨⟨hold, hsl⟩, hover, hstep⟩ := hk
        have hborn : ∀ y ∈ ents.toList, ∃ x ∈ es, VR μ x.1 y.key ∧ VR μ x.2.1 y.val ∧ x.2.2 = y.born := VRs.mem2 (p := fun (x : ME) => x.1) (p' := fun (x : ME) => x.2.1) (q := fun (x : MapEntry) => x.key) (q' := fun (x : MapEntry) => x.val) (c := fun (x : ME) => x.2.2) (d := fun (x : MapEntry) => x.born) hk1' hk2' hk3'
        rcases run_next_at (P := P) w ty e.b p.b since last seen.toArray ents clk hg hg1 (fun y hy => by obtain ⟨x, hx, _, _, hb⟩ := hborn y hy; rw [← hb]; exact hold x hx) hsl with ⟨hz, hr⟩ | ⟨en, hen, w1, hw1, hr⟩
        · refine ⟨_, _, μ, _, h, hr, Ext.refl _, r, .tup (.cons (.bool _) .nil), hover ?_⟩
          intro x hx
          have hmem : x.2.2 ∈ ents.toList.map (·.born) := by rw [← hk3']; exact List.mem_map_of_mem hx
          obtain ⟨y, hy, hyb⟩ := List.mem_map.1 hmem
          have he : leftOf ents seen.toArray = #[] := Array.eq_empty_of_size_eq_zero hz
          unfold leftOf at he
          rw [Array.filter_eq_empty_iff] at he
          have := he y (by simpa using hy)
          rw [← hyb]; simpa using this
        · have hen' : en ∈ ents.toList ∧ en.born ∉ seen := by
            unfold leftOf at hen
            simpa using hen
          obtain ⟨x, hx, hxk, hxv, hxb⟩ := hborn en hen'.1
          have hr1 : Rel P base w0 μ h w1 := by
            rcases hw1 with rfl | rfl
            · exact r
            · exact r.grow ⟨rfl, rfl, rfl, Nat.le_refl _, fun _ _ => rfl⟩
          have hwh : w1.heap = w.heap := by rcases hw1 with rfl | rfl <;> rfl
          have hst := hstep x hx (by rw [hxb]; exact hen'.2)
          obtain ⟨a1, ha1, hst⟩ := Zgb hst
          obtain ⟨b1, hb1, hst⟩ := Zgb hst
          cases ha1; cases hb1
          refine ⟨_, _, μ, _, _, hr, Ext.refl _, hr1.over (x := .mapIter (some p.b) since (seen.toArray.push en.born) clk) hi rfl hmu hb0 rfl ?_, .tup (.cons (.bool _) (.cons hxk (.cons hxv .nil))), hst⟩
          refine ⟨hb0, ho2, some p.b, by simp [hwh, hlt, hxb], .inr ⟨mi, p, rfl, rfl, hmp⟩⟩
  · exact hk.elim
theorem Zze (r : Rel P base w0 μ h w) {a : Zac} {x : Value} (ha : VR μ a x) {K : Zac → Prop} {ty : TypeId} (hk : Zoc P ty a h K) : ∃ y v, (Instr.entry x).run P w = .ok y w ∧ VR μ v y ∧ K v := by
  unfold Zoc at hk
  split at hk
  · rename_i i
    cases ha with
    | iter hmu ho =>
    rename_i e
    obtain ⟨m, since, seen, last, hi, hk⟩ := Zmi hk
    unfold xMp at hk
    split at hk
    · rename_i mi
      obtain ⟨es, clk, hmi, ⟨hnd, rfl⟩, x, hx, s0, rfl, hkK⟩ := Zhq hk
      obtain ⟨hb0, ho2, m', hg, hm⟩ := r.obj i _ hi _ hmu
      rcases hm with ⟨h0, _⟩ | ⟨mi', p, h0, rfl, hmp⟩
      · cases h0
      · cases h0
        obtain ⟨hb1, ents, hg1, hk1', hk2', hk3'⟩ := r.obj mi _ hmi _ hmp
        obtain ⟨a1, ha1, hkK⟩ := Zgb hkK
        obtain ⟨b1, hb1, hkK⟩ := Zgb hkK
        cases ha1; cases hb1
        have hmem : x.2.2 ∈ ents.toList.map (·.born) := by rw [← hk3']; exact List.mem_map_of_mem hx
        obtain ⟨y, hy, hyb⟩ := List.mem_map.1 hmem
        obtain ⟨x', hx', hxk, hxv, hxb⟩ := VRs.mem2 (p := fun (x : ME) => x.1) (p' := fun (x : ME) => x.2.1) (q := fun (x : MapEntry) => x.key) (q' := fun (x : MapEntry) => x.val) (c := fun (x : ME) => x.2.2) (d := fun (x : MapEntry) => x.born) hk1' hk2' hk3' y hy
        have hxx : x' = x := by
          obtain ⟨j, hj⟩ := List.getElem?_of_mem hx
          obtain ⟨j', hj'⟩ := List.getElem?_of_mem hx'
          have e1 : (es.map (·.2.2))[j]? = some x.2.2 := by rw [List.getElem?_map, hj]; rfl
          have e2 : (es.map (·.2.2))[j']? = some x.2.2 := by rw [List.getElem?_map, hj', Option.map_some, hxb, hyb]
          have := (List.getElem?_inj (List.getElem?_eq_some_iff.1 e1).1 hnd).1 (e1.trans e2.symm)
          subst this
          rw [hj] at hj'; cases hj'; rfl
        subst hxx
        have hr := run_entry_at (P := P) w e.b p.b since s0.toArray ents clk y (by rw [← hyb] at hg; simpa using hg) hg1 hy (by rw [← hk3']; exact hnd)
        exact ⟨_, _, hr, .tup (.cons hxk (.cons hxv .nil)), hkK⟩
    · exact hk.elim
  · exact hk.elim
end
end Go.Sim

set_option linter.unusedSimpArgs false
namespace Go.Sim
open Go Go.RowKit

def Ztr (P : Program) (t : TypeId) (h : Zaa) (s : Zac) (K : Zac → Zaa → Prop) : Prop :=
  match P.underlying t with
  | some (.slice e) => (match s with
    | .slice a n _ _ => (n = 0 → K (.tup []) h) ∧ (n ≠ 0 → Zep (Zoq P e) fun z => chk (z.all Zac.leaf = true ∧ 0 < z.length) (Zcr (Zbi h (.ptr a) (reps n z)) fun h' => K (.tup []) h'))
    | _ => False)
  | _ => False
section
variable {P : Program} {base : Nat} {w0 : World} {μ : List Pl} {h : Zaa} {w : World}
theorem Zza (r : Rel P base w0 μ h w) {i o : Nat} {e : Pl} (hmu : μ[i]? = some e) {vs : List Zac} {ys : List Value} (hvs : VRs μ vs ys) (h1 : ∀ y ∈ ys, y.oneCell' = true) {h' : Zaa} (hst : Zbi h (.ptr (some (i, o))) vs = some h') :
    ∃ w', (storeCells ⟨e.b, e.o + o, none⟩ ys).run P w = .ok () w' ∧ Rel P base w0 μ h' w' := by
  simp only [Zbi] at hst
  · split at hst
    · rename_i et cs hi
      split at hst
      · rename_i hle
        cases hst
        have hobj := r.obj i _ hi e hmu
        obtain ⟨C, el, fr, hg, hcs, hown⟩ := hobj
        simp only [Bool.false_eq_true, if_false] at hown
        obtain ⟨ho1, ho0, rfl, rfl, hn, hcz, hbase⟩ := hown
        have hlen := hvs.length
        have hcl := hcs.length
        have hCl : cs.length ≤ C.size := by simp at hcl; omega
        rw [ho0] at hcs
        simp only [List.drop_zero] at hcs
        have hfit : (e.o + o) + 0 + ys.length ≤ C.size := by rw [← hlen, ho0]; omega
        have hst := run_storeCells_at (P := P) e.b (e.o + o) el ys 0 C w hg hfit h1
        simp only [Nat.add_zero] at hst
        refine ⟨w.setRow e.b (C.toList.take (e.o + o) ++ ys ++ C.toList.drop (e.o + o + ys.length)).toArray, hst, ?_⟩
        refine r.change (o := .cells el cs false) hi rfl hmu ⟨rfl, rfl, rfl, by simp [World.setRow], fun k hk => setRow_other w e.b k _ (by omega)⟩ (fun k hk _ => setRow_other w e.b k _ hk) ?_ (.inl rfl)
        refine ⟨_, el, (0, 0), setRow_heap w e.b C _ el _ hg, ?_, ?_⟩
        · have hpl : (putRow cs o vs).length = cs.length := by simp [putRow]; omega
          rw [hpl, ho0]
          simp only [List.drop_zero, Nat.zero_add]
          have := hcs.put hvs o
          have e2 : ((C.toList.take o ++ ys ++ C.toList.drop (o + ys.length)).take cs.length) = ((C.toList.take cs.length).take o ++ ys ++ (C.toList.take cs.length).drop (o + ys.length)) := by
            apply List.ext_getElem?
            intro j
            simp only [List.getElem?_take, List.getElem?_append, List.length_append, List.length_take, List.getElem?_drop, Array.length_toList]
            have := hlen
            by_cases h1 : j < cs.length <;> by_cases h2 : j < o <;> simp [h1, h2] <;> (try omega) <;> (repeat' split) <;> (try omega) <;> (try rfl) <;> (try (congr 1; omega))
          rw [e2]; exact this
        · simp only [Bool.false_eq_true, if_false]
          refine ⟨ho1, ho0, trivial, trivial, ?_, hcz, hbase⟩
          simp only [List.size_toArray, List.length_append, List.length_take, List.length_drop, Array.length_toList] at hfit ⊢
          omega
      · cases hst
    · cases hst
theorem Zyz (r : Rel P base w0 μ h w) {t ty : TypeId} {s : Zac} {x : Value} (hs : VR μ s x) {K : Zac → Zaa → Prop} (hk : Ztr P t h s K) :
    Res P base w0 μ ((Builtin.clear_ #[t] ty #[x]).run P w) K := by
  unfold Ztr at hk
  split at hk
  · rename_i e hu
    split at hk
    · rename_i a n c ex
      obtain ⟨k0, k1⟩ := hk
      by_cases hn : n = 0
      · subst hn
        refine ⟨.tuple #[], w, μ, .tup [], h, ?_, Ext.refl _, r, .tup .nil, k0 rfl⟩
        cases hs <;> first | (simp [Builtin.clear_, run_underlying hu]; done) | (rename_i aa; cases aa <;> simp [Builtin.clear_, run_underlying hu]; done) | (rename_i aa bb; cases aa <;> simp [Builtin.clear_, run_underlying hu]; done) | (rename_i aa bb; cases bb <;> simp [Builtin.clear_, run_underlying hu]; done)
      · obtain ⟨z, hz, hk⟩ := Zdj (k1 hn)
        replace hk := Zao hk; obtain ⟨⟨hl, hpos⟩, hk⟩ := hk
        obtain ⟨ii, zv, _, _, hzv, hzr⟩ := Zkx (μ := μ) hz
        unfold Zcr at hk
        split at hk
        · rename_i h' hst
          have hsz : 0 < zv.cells.size := by have := hzv.length; simp at this; omega
          have hv := hzv.reps n
          rw [← Zls n zv.cells hsz] at hv
          cases hs with
          | slice hmu hle1 hle2 he1 he2 =>
            have h1 : ∀ y ∈ (Builtin.zeroCells zv.cells n).toList, y.oneCell' = true := by
              intro y hy
              have hall := hzv.leaf1 hl
              have hy' : y ∈ (List.replicate n zv.cells.toList).flatten := by rw [← Zls n zv.cells hsz]; exact hy
              obtain ⟨l, hl1, hl2⟩ := List.mem_flatten.1 hy'
              rw [List.mem_replicate] at hl1
              rw [hl1.2] at hl2
              exact hall y hl2
            obtain ⟨w', hr, hrel⟩ := Zza r hmu (ys := (Builtin.zeroCells zv.cells n).toList) hv h1 hst
            refine ⟨.tuple #[], w', μ, .tup [], h', ?_, Ext.refl _, hrel, .tup .nil, hk⟩
            obtain ⟨m, rfl⟩ : ∃ m, n = m + 1 := ⟨n - 1, by omega⟩
            simp [Builtin.clear_, run_underlying hu, hzr w, hr]
          | _ => first | omega | simp [Zbi] at hst
        · exact hk.elim
    · exact hk.elim
  · exact hk.elim
end
end Go.Sim

set_option linter.unusedSimpArgs false
namespace Go.Sim
open Go Go.RowKit

structure Zae (P : Program) (n : FuncId) (args : List Zac) (h : Zaa) (Q : Zac → Zaa → Prop) : Prop where
  able : ∃ fn, P.funcs[n]? = some fn ∧ fn.body.isSome = true ∧ (fn.name == "runtime.NumGoroutine") = false
  calls : ∀ (base : Nat) (w0 : World) (μ : List Pl) (w : World) (xs : Array Value), Rel P base w0 μ h w → VRs μ args xs.toList →
    Calls P n xs w fun e w' => ∃ x μ' v h', e = .returned x ∧ Ext μ μ' ∧ Rel P base w0 μ' h' w' ∧ VR μ' v x ∧ Q v h'
theorem Zae.mono {P : Program} {n : FuncId} {args : List Zac} {h : Zaa} {Q Q' : Zac → Zaa → Prop} (hc : Zae P n args h Q) (hq : ∀ v h', Q v h' → Q' v h') : Zae P n args h Q' :=
  ⟨hc.1, fun base w0 μ w xs r hx => (hc.2 base w0 μ w xs r hx).mono fun _ _ ⟨x, μ', v, h', a, b, c, d, q⟩ => ⟨x, μ', v, h', a, b, c, d, hq _ _ q⟩⟩

def rts (P : Program) (f : FuncId) : List TypeId := match P.funcs[f]? with | some fn => fn.resultTypes.toList | none => []
def Ycw (P : Program) (f : FuncId) (args : List Zac) (h : Zaa) (K : Zac → Zaa → Prop) : Prop := Zae P f args h fun v h' => Ybg P (rts P f) v fun v => K v h'
def Ydm (v : Zac) (K : FuncId → List Zac → Prop) : Prop := match v with | .fn g caps => K g caps | _ => False
def Yec (P : Program) (t : TypeId) : List TypeId := match P.underlying t with | some (.tuple ts) => ts.toList | _ => [t]
def Ydp (P : Program) (t : TypeId) (v : Zac) (args : List Zac) (h : Zaa) (K : Zac → Zaa → Prop) : Prop := Ydm v fun g caps => Zae P g (args ++ caps) h fun v h' => Ybg P (Yec P t) v fun v => K v h'
def Zwt (P : Program) (env : Env) (h : Zaa) (o : Oper) (c : Call) (K : Zac → Zaa → Prop) : Prop :=
  match c.callee with
  | .value f => (match f with
    | .func g => Ycw P g (c.args.toList.map (ev env) ++ []) h K
    | f => Ydp P o.type (ev env f) (c.args.toList.map (ev env)) h K)
  | .builtin .append => (match c.argTypes.toList with
    | [t, u] => chk (u = t) (match c.args.toList.map (ev env) with | [s, x] => Zcy P t h s x fun v h' => xv .slice (some v) fun v => K v h' | _ => False)
    | _ => False)
  | .builtin .min => (match c.args.toList.map (ev env) with | [x, y] => Ybz x y fun v => K v h | _ => False)
  | .builtin .clear => (match c.argTypes.toList with
    | [t] => (match c.args.toList.map (ev env) with | [x] => Ztr P t h x K | _ => False)
    | _ => False)
  | _ => Zkc P env o fun v => K v h
def opA (P : Program) (env : Env) (h : Zaa) (o : Oper) (K : Zac → Zaa → Prop) : Prop :=
  match o.op with
  | .load t a => chk ((P.underlying t).isSome = true) (Zln P t h (ev env a) fun v => K v h)
  | .store t a x => chk ((P.underlying t).isSome = true) (Zog P t h (ev env a) (ev env x) fun h' => K .undef h')
  | .alloc t => Yar P t h K
  | .box t x => Ydx t h (ev env x) K
  | .build t ps => Zxz P t (parts env ps) fun v => K v h
  | .buildSlice t n ps => Zhp P t n (parts env ps) h K
  | .call c => Zwt P env h o c K
  | .makeSlice t l c => Zfw P t (ev env l) (ev env c) h K
  | .makeMap t r => Zir P t (r.map (ev env)) h K
  | .lookup t x i ok => Zkl P t h (ev env x) (ev env i) ok fun v => K v h
  | .mapUpdate t m k v => Zfv P t h (ev env m) (ev env k) (ev env v) K
  | .range t x => Zoj P t (ev env x) h K
  | .next x st => Zub P o.type (ev env x) st h K
  | .entry x => Zoc P o.type (ev env x) h fun v => K v h
  | .convert s d x => (match Zue P s with | true => Ycb P s d h (ev env x) fun v => K v h | false => Zkc P env o fun v => K v h)
  | _ => Zkc P env o fun v => K v h
def Zjb (N : Nat) (env : Env) (d : Option Tmp) (v : Zac) (K : Env → Prop) : Prop := match d with | none => K env | some d => chk (d < N) (K (env.set d v))
def Zgh (P : Program) (N : Nat) (ops : Array Oper) (env : Env) (h : Zaa) (o : Oper) (K : Env → Zaa → Prop) : Prop :=
  match o.guard with
  | none => opA P env h o fun v h' => Zjb N env o.dst v fun env' => K env' h'
  | some (j, want) => (match (ops[j]?).bind (·.dst) with
    | some t => (match env.get t with
      | .bool b => bcase b
          (match want with | true => opA P (env.set t (.bool true)) h o fun v h' => Zjb N (env.set t (.bool true)) o.dst v fun env' => K env' h' | false => Zjb N (env.set t (.bool true)) o.dst (.tup []) fun env' => K env' h)
          (match want with | false => opA P (env.set t (.bool false)) h o fun v h' => Zjb N (env.set t (.bool false)) o.dst v fun env' => K env' h' | true => Zjb N (env.set t (.bool false)) o.dst (.tup []) fun env' => K env' h)
      | .tup [] => Zjb N env o.dst (.tup []) fun env' => K env' h
      | _ => False)
    | none => False)
def Ydl (P : Program) (N : Nat) (ops : Array Oper) : List Oper → Env → Zaa → (Env → Zaa → Prop) → Prop
  | [], env, h, K => K env h
  | o :: r, env, h, K => Zgh P N ops env h o fun env' h' => Ydl P N ops r env' h' K

section
variable {P : Program} {base N : Nat} {w0 : World} {μ : List Pl} {h : Zaa} {w : World}

structure St (P : Program) (base N : Nat) (w0 : World) (μ : List Pl) (env : Env) (h : Zaa) (a : Act) (w : World) : Prop where
  rel : Rel P base w0 μ h w
  env : Zgo μ env a.tmps
  size : a.tmps.size = N
  defers : a.defers = []

def Zyu (P : Program) (base N : Nat) (w0 : World) (μ : List Pl) (K : Env → Zaa → Prop) (a : Act) (w : World) : Prop :=
  ∃ μ' env h, Ext μ μ' ∧ St P base N w0 μ' env h a w ∧ K env h

theorem St.put {env : Env} {a : Act} (s : St P base N w0 μ env h a w) {μ' : List Pl} {h' : Zaa} {w' : World} (he : Ext μ μ') (hr : Rel P base w0 μ' h' w') {v : Zac} {x : Value} (hv : VR μ' v x) {d : Option Tmp} {K : Env → Prop} (hk : Zjb N env d v K) :
    ∃ env', St P base N w0 μ' env' h' (a.put d x) w' ∧ K env' := by
  unfold Zjb at hk
  cases d with
  | none => exact ⟨env, ⟨hr, s.env.ext he, s.size, s.defers⟩, hk⟩
  | some d =>
    replace hk := Zao hk
    obtain ⟨hd, hk⟩ := hk
    refine ⟨_, ⟨hr, (s.env.ext he).set (by rw [s.size]; exact hd) hv, ?_, s.defers⟩, hk⟩
    simp [Act.put, s.size]

theorem St.know {env : Env} {a : Act} (s : St P base N w0 μ env h a w) {t : Nat} {v : Zac} (hv : VR μ v (a.tmps.getD t undef)) : St P base N w0 μ (env.set t v) h a w :=
  ⟨s.rel, s.env.know hv, s.size, s.defers⟩

theorem Res.wp {o : Oper} {a : Act} {K : Zac → Zaa → Prop} {next : Act → World → Prop} {Q : Exit → Act → World → Prop} {s : Sem Value}
    (hr : Res P base w0 μ (s.run P w) K) (he : (execOp a.eval o).run P w = (s.run P w).andThen fun x w' => .ok (.value x) w')
    (hn : ∀ x w' μ' v h', Ext μ μ' → Rel P base w0 μ' h' w' → VR μ' v x → K v h' → next (a.put o.dst x) w') : o.wp P a w next Q := by
  obtain ⟨x, w', μ', v, h', hrun, hx, hrel, hv, hk⟩ := hr
  unfold Oper.wp
  rw [he, hrun]
  exact hn x w' μ' v h' hx hrel hv hk

theorem Ybc {env : Env} {a : Act} (s : St P base N w0 μ env h a w) {f : FuncId} {args : List Zac} {xs : Array Value} (hxs : VRs μ args xs.toList) {K : Zac → Zaa → Prop} (hk : Zae P f args h K)
    {o : Oper} (he : (execOp a.eval o).run P w = (callFunc f xs).run P w) {next : Act → World → Prop} {Q : Exit → Act → World → Prop}
    (hn : ∀ x w' μ' v h', Ext μ μ' → Rel P base w0 μ' h' w' → VR μ' v x → K v h' → next (a.put o.dst x) w') : o.wp P a w next Q := by
  obtain ⟨⟨fn, hf, hb, hname⟩, hc⟩ := hk
  have hcall : (callFunc f xs).run P w = .ok (.enter f xs) w := by
    obtain ⟨c, hc⟩ := Option.isSome_iff_exists.1 hb
    have hname' : fn.name ≠ "runtime.NumGoroutine" := by simpa using hname
    simp [callFunc, hf, hc, hname']
  unfold Oper.wp
  rw [he, hcall]
  refine (hc base w0 μ w xs s.rel hxs).mono ?_
  rintro e w' ⟨x, μ', v, h', rfl, hx, hr, hv, hq⟩
  exact hn x w' μ' v h' hx hr hv hq

theorem VRs.single {v : Zac} {xs : Array Value} (h : VRs μ [v] xs.toList) : ∃ x, xs = #[x] ∧ VR μ v x := by
  obtain ⟨l⟩ := xs
  match l, h with
  | [x], .cons a .nil => exact ⟨x, rfl, a⟩
theorem Ybt {env : Env} {a : Act} (s : St P base N w0 μ env h a w) {o : Oper} {K : Zac → Zaa → Prop} (hk : opA P env h o K) {next : Act → World → Prop} {Q : Exit → Act → World → Prop}
    (hn : ∀ x w' μ' v h', Ext μ μ' → Rel P base w0 μ' h' w' → VR μ' v x → K v h' → next (a.put o.dst x) w') : o.wp P a w next Q := by
  have hρ := Yce s.env
  have pure : Zkc P env o (fun v => K v h) → o.wp P a w next Q := fun hk => by
    obtain ⟨x, v, hr, hv, hk⟩ := Ybp hρ hk
    unfold Oper.wp
    rw [hr w]
    exact hn x w μ v h (Ext.refl _) s.rel hv hk
  unfold opA at hk
  split at hk
  · rename_i t p he
    replace hk := Zao hk
    obtain ⟨hu, hk⟩ := hk
    obtain ⟨y, v, hr, hv, hk⟩ := Zvq s.rel (hρ p) hu hk
    unfold Oper.wp
    simp only [execOp, he, Sem.run_bind, hr, Result.andThen_ok, Sem.run_pure]
    exact hn y w μ v h (Ext.refl _) s.rel hv hk
  · rename_i t p x he
    replace hk := Zao hk
    obtain ⟨hu, hk⟩ := hk
    obtain ⟨w', h', hr, hrel, hk⟩ := Zyt s.rel (hρ p) (hρ x) hu hk
    unfold Oper.wp
    simp only [execOp, he, Sem.run_bind, hr, Result.andThen_ok, Sem.run_pure]
    exact hn undef w' μ .undef h' (Ext.refl _) hrel (.undef _) hk
  · rename_i t he
    exact Res.wp (Yab s.rel hk) (by simp [execOp, he]) hn
  · rename_i t x he
    exact Res.wp (Ycc s.rel (hρ x) hk) (by simp [execOp, he]) hn
  · rename_i t ps he
    obtain ⟨h1, h2⟩ := Zte hρ ps
    obtain ⟨x, v, hr, hv, hk⟩ := Zzl h1 h2 hk
    unfold Oper.wp
    simp only [execOp, he, Sem.run_bind, hr w, Result.andThen_ok, Sem.run_pure]
    exact hn x w μ v h (Ext.refl _) s.rel hv hk
  · rename_i t n ps he
    obtain ⟨h1, h2⟩ := Zte hρ ps
    exact Res.wp (Zot s.rel h1 h2 hk) (by simp [execOp, he]) hn
  · rename_i c he
    unfold Zwt at hk
    split at hk
    · rename_i f hcal
      have go : ∀ (f : Operand), c.callee = .value f → ∀ (g : FuncId) (caps : List Zac), ev env f = .fn g caps → Zae P g (c.args.toList.map (ev env) ++ caps) h K → o.wp P a w next Q := by
        intro f hcal g caps hev hk
        have hf := hρ f
        rw [hev] at hf
        cases hfv : a.eval f with
        | func fn first cap =>
          rw [hfv] at hf
          cases hf with
          | fn hcaps =>
          refine Ybc s (xs := c.args.map a.eval ++ cap) (by rw [Array.toList_append]; exact (Zkr hρ c.args).append hcaps) hk ?_ hn
          simp [execOp, he, resolve, hcal, hfv, Deferred.ofValue, invoke]
        | _ => rw [hfv] at hf; cases hf
      split at hk
      · rename_i g
        exact go _ hcal g [] rfl (Zae.mono hk fun _ _ hq => Zqp (K := fun v => K v _) hq)
      · unfold Ydp Ydm at hk
        split at hk
        · rename_i g caps hev
          exact go _ hcal g caps hev (Zae.mono hk fun _ _ hq => Zqp (K := fun v => K v _) hq)
        · exact hk.elim
    · rename_i hcal
      split at hk
      · rename_i t u hts
        replace hk := Zao hk
        obtain ⟨rfl, hk⟩ := hk
        split at hk
        · rename_i sv xv hargs
          have hvs := Zkr hρ c.args
          rw [hargs] at hvs
          obtain ⟨x, y, hxy, h1, h2⟩ := hvs.two
          refine Res.wp (Zxh (ty := o.type) s.rel h1 h2 hk) ?_ fun x w' μ' v h' hx hr hv hk => (by obtain ⟨v2, hv2, hk⟩ := Zgb hk; cases hv2; exact hn x w' μ' v h' hx hr hv hk)
          have hat : c.argTypes = #[u, u] := by
            apply Array.ext'; simpa using hts
          simp [execOp, he, resolve, hcal, invoke, builtin, hxy, hat]
        · exact hk.elim
      · exact hk.elim
    · rename_i hcal
      split at hk
      · rename_i a b hargs
        have hvs := Zkr hρ c.args
        rw [hargs] at hvs
        obtain ⟨x, y, hxy, h1, h2⟩ := hvs.two
        obtain ⟨v, z, hr, hv, hk⟩ := Ycz (ts := c.argTypes) (t := o.type) h1 h2 hk
        exact Res.wp (s := Builtin.min_ c.argTypes o.type #[x, y]) ⟨z, w, μ, v, h, hr w, Ext.refl _, s.rel, hv, hk⟩ (by simp [execOp, he, resolve, hcal, invoke, builtin, hxy]) hn
      · exact hk.elim
    · rename_i hcal
      split at hk
      · rename_i t hts
        split at hk
        · rename_i x1 hargs
          have hvs := Zkr hρ c.args
          rw [hargs] at hvs
          obtain ⟨x, hxy, h1⟩ := hvs.single
          refine Res.wp (Zyz (ty := o.type) s.rel h1 hk) ?_ hn
          have hat : c.argTypes = #[t] := by
            apply Array.ext'; simpa using hts
          simp [execOp, he, resolve, hcal, invoke, builtin, hxy, hat]
        · exact hk.elim
      · exact hk.elim
    · exact pure hk
  · rename_i t l c he
    exact Res.wp (Zpi s.rel (hρ l) (hρ c) hk) (by simp [execOp, he]) hn
  · rename_i t m he
    refine Res.wp (Zvg (x := m.map a.eval) s.rel ?_ hk) (by simp [execOp, he]) hn
    cases m with
    | none => exact .inl ⟨rfl, rfl⟩
    | some m => exact .inr ⟨_, _, rfl, rfl, hρ m⟩
  · rename_i t x i ok he
    obtain ⟨z, v, hr, hv, hk⟩ := Zwe s.rel (hρ x) (hρ i) hk
    exact Res.wp (s := Instr.lookup t (a.eval x) (a.eval i) ok) ⟨z, w, μ, v, h, hr, Ext.refl _, s.rel, hv, hk⟩ (by simp [execOp, he]) hn
  · rename_i t m k x he
    obtain ⟨w', h', hr, hrel, hk⟩ := Zps s.rel (hρ m) (hρ k) (hρ x) hk
    unfold Oper.wp
    simp only [execOp, he, Sem.run_bind, hr, Result.andThen_ok, Sem.run_pure]
    exact hn undef w' μ .undef h' (Ext.refl _) hrel (.undef _) hk
  · rename_i t x he
    exact Res.wp (Zzg s.rel (hρ x) hk) (by simp [execOp, he]) hn
  · rename_i x st he
    exact Res.wp (Zxn (ty := o.type) s.rel (hρ x) hk) (by simp [execOp, he]) hn
  · rename_i x he
    obtain ⟨z, v, hr, hv, hk⟩ := Zze s.rel (hρ x) hk
    exact Res.wp (s := Instr.entry (a.eval x)) ⟨z, w, μ, v, h, hr, Ext.refl _, s.rel, hv, hk⟩ (by simp [execOp, he]) hn
  · rename_i a b x he
    split at hk
    · exact Res.wp (Ybi s.rel (hρ x) hk) (by simp [execOp, he]) hn
    · exact pure hk
  · exact pure hk

theorem Zye {tmps : Array Value} {t : Nat} {b : Bool} (h : VR μ (.bool b) (tmps.getD t undef)) : tmps[t]? = some (.bool b) := by
  simp only [Array.getD_eq_getD_getElem?] at h
  cases hx : tmps[t]? with
  | none => rw [hx] at h; simp [undef] at h; cases h
  | some x => rw [hx] at h; simp at h; cases h; rfl

theorem Zvr {ops : Array Oper} {env : Env} {a : Act} (s : St P base N w0 μ env h a w) {o : Oper} {K : Env → Zaa → Prop} (hk : Zgh P N ops env h o K) {next : Act → World → Prop} {Q : Exit → Act → World → Prop}
    (hn : ∀ a w, Zyu P base N w0 μ K a w → next a w) : if Region.wanted o (yielded ops a.tmps) then o.wp P a w next Q else next (a.put o.dst undef) w := by
  have fin : ∀ {env : Env} {v : Zac} {x : Value} {μ' : List Pl} {h' : Zaa} {w' : World}, St P base N w0 μ env h a w → Ext μ μ' → Rel P base w0 μ' h' w' → VR μ' v x → Zjb N env o.dst v (fun env' => K env' h') → next (a.put o.dst x) w' := by
    intro env v x μ' h' w' s hx hr hv hk
    obtain ⟨env', s', hk⟩ := s.put hx hr hv hk
    exact hn _ _ ⟨μ', env', h', hx, s', hk⟩
  unfold Zgh at hk
  split at hk
  · rename_i hg
    have : Region.wanted o (yielded ops a.tmps) = true := by simp [Region.wanted, hg]
    rw [if_pos this]
    exact Ybt s hk fun x w' μ' v h' hx hr hv hk => fin s hx hr hv hk
  · rename_i j want hg
    split at hk
    · rename_i t ht
      split at hk
      · rename_i b hb
        have henv := s.env t
        rw [hb] at henv
        have hy : yielded ops a.tmps j = some b := by
          unfold yielded
          rw [ht]; simp only [Option.bind_some, Zye henv]
        have hwant : Region.wanted o (yielded ops a.tmps) = (b == want) := by simp [Region.wanted, hg, hy]
        rw [hwant]
        have hknow : ∀ c, b = c → St P base N w0 μ (env.set t (.bool c)) h a w := fun c e => by subst e; exact s.know henv
        refine Ztz hk ?_ ?_
        · rintro rfl hk
          have s' := hknow true rfl
          cases want with
          | true => exact Ybt s' hk fun x w' μ' v h' hx hr hv hk => fin s' hx hr hv hk
          | false => exact fin s' (Ext.refl _) s.rel (.tup .nil) hk
        · rintro rfl hk
          have s' := hknow false rfl
          cases want with
          | false => exact Ybt s' hk fun x w' μ' v h' hx hr hv hk => fin s' hx hr hv hk
          | true => exact fin s' (Ext.refl _) s.rel (.tup .nil) hk
      · rename_i hb
        have henv := s.env t
        rw [hb] at henv
        have hy : yielded ops a.tmps j = none := by
          unfold yielded
          rw [ht]; simp only [Option.bind_some]
          have : a.tmps[t]? = none ∨ a.tmps[t]? = some (.tuple #[]) := by
            simp only [Array.getD_eq_getD_getElem?] at henv
            cases hx : a.tmps[t]? with
            | none => exact .inl rfl
            | some x =>
              rw [hx] at henv
              simp only [Option.getD_some] at henv
              cases henv with
              | tup hv => 
                have := hv.length
                rename_i xs
                have : xs = #[] := by apply Array.ext'; exact List.eq_nil_of_length_eq_zero (by simpa using this.symm)
                subst this; exact .inr rfl
          rcases this with h | h <;> rw [h]
        have hwant : Region.wanted o (yielded ops a.tmps) = false := by simp [Region.wanted, hg, hy]
        rw [hwant]
        exact fin s (Ext.refl _) s.rel (.tup .nil) hk
      · exact hk.elim
    · exact hk.elim

theorem Yaq {ops : Array Oper} {Q : Exit → Act → World → Prop} : ∀ (l : List Oper) {μ : List Pl} {h : Zaa} {w : World} {env : Env} {a : Act}, St P base N w0 μ env h a w → ∀ {K : Env → Zaa → Prop}, Ydl P N ops l env h K →
    (∀ a w, Zyu P base N w0 μ K a w → Q .normal a w) → wpList P ops Q l a w
  | [], μ, h, w, env, a, s, K, hk, hq => hq a w ⟨μ, env, h, Ext.refl _, s, hk⟩
  | o :: r, μ, h, w, env, a, s, K, hk, hq => by
    have hstep := Zvr (next := wpList P ops Q r) (Q := Q) s hk (fun a' w' ⟨μ', env', h', hx, s', hk'⟩ => Yaq r s' hk' (fun a w ⟨μ2, env2, h2, hx2, s2, k2⟩ => hq a w ⟨μ2, env2, h2, hx.trans hx2, s2, k2⟩))
    unfold wpList
    split
    · rename_i hw; rw [if_pos hw] at hstep; exact .inl hstep
    · rename_i hw; rw [if_neg hw] at hstep; exact hstep
end
end Go.Sim

set_option linter.unusedSimpArgs false
namespace Go.Sim
open Go Go.RowKit

section
variable {P : Program} {K K' : Zac → Zaa → Prop} {k k' : Zac → Prop}

theorem Zvi {o : Option Zac} {K K' : Bool → Prop} (h : Zcg o K) (m : ∀ b, K b → K' b) : Zcg o K' := by
  unfold Zcg at *; split at h <;> first | exact m _ h | exact h.elim
theorem Zxe {q : IntKind} {o : Option Zac} {K K' : Int → Prop} (h : Zck q o K) (m : ∀ b, K b → K' b) : Zck q o K' := by
  unfold Zck at *; split at h <;> first | exact ⟨h.1, m _ h.2⟩ | exact h.elim
theorem Zni {o : Option Zac} {K K' : List Nat → Prop} (h : Zct o K) (m : ∀ b, K b → K' b) : Zct o K' := by
  unfold Zct at *; split at h <;> first | exact m _ h | exact h.elim
theorem Zxm {o : Option Zac} {K K' : Option (Nat × Nat) → Prop} (h : Zid o K) (m : ∀ b, K b → K' b) : Zid o K' := by
  unfold Zid at *; split at h <;> first | exact m _ h | exact h.elim
theorem Zyv {o : Option Zac} {K K' : Option (Nat × Nat) → Nat → Nat → Bool → Prop} (h : xSl o K) (m : ∀ a b c d, K a b c d → K' a b c d) : xSl o K' := by
  unfold xSl at *; split at h <;> first | exact m _ _ _ _ h | exact h.elim
theorem Zvs {o : Option Zac} {K K' : Option Nat → Prop} (h : Zwr o K) (m : ∀ b, K b → K' b) : Zwr o K' := by
  unfold Zwr at *; split at h <;> first | exact m _ h | exact h.elim
theorem Zkf {o : Option Zac} (h : Zsc o k) (m : ∀ b, k b → k' b) : Zsc o k' := by
  unfold Zsc at *; split at h <;> first | exact m _ h | exact h.elim
theorem Zon {cs : List Zac} {K K' : Zac → List Zac → Prop} (h : Zar cs K) (m : ∀ a b, K a b → K' a b) : Zar cs K' := by
  unfold Zar at *; split at h <;> first | exact m _ _ h | exact h.elim
theorem Zpq {cs : List Zac} {K K' : Prop} (h : Zec cs K) (m : K → K') : Zec cs K' := by
  unfold Zec at *; split at h <;> first | exact m h | exact h.elim
theorem Zdc {o : Option (List Zac)} {K K' : List Zac → Prop} (h : Zep o K) (m : ∀ b, K b → K' b) : Zep o K' := by
  unfold Zep at *; split at h <;> first | exact m _ h | exact h.elim
theorem Znz {o : Option Zaa} {K K' : Zaa → Prop} (h : Zcr o K) (m : ∀ b, K b → K' b) : Zcr o K' := by
  unfold Zcr at *; split at h <;> first | exact m _ h | exact h.elim
theorem Zyd {v : Zac} {K K' : List Zac → Prop} (h : Zsv v K) (m : ∀ b, K b → K' b) : Zsv v K' := by
  unfold Zsv at *; split at h <;> first | exact m _ h | exact h.elim
theorem Zvw {v : Zac} {K K' : List Zac → Prop} (h : Zpd v K) (m : ∀ b, K b → K' b) : Zpd v K' := by
  unfold Zpd at *; split at h <;> first | exact m _ h | exact h.elim
theorem Znh {o : Option Field} {K K' : Field → Prop} (h : Zjd o K) (m : ∀ b, K b → K' b) : Zjd o K' := by
  unfold Zjd at *; split at h <;> first | exact m _ h | exact h.elim
theorem Zba {p : Prop} [Decidable p] {K K' : Prop} (h : chk p K) (m : K → K') : chk p K' := by
  unfold chk at *; split at h <;> first | exact m h | exact h.elim
theorem Zge {o : Option Zac} {d : Int} {K K' : Int → Prop} (h : Zfq o d K) (m : ∀ b, K b → K' b) : Zfq o d K' := by
  unfold Zfq at *; split at h <;> first | exact m _ h | exact h.elim
theorem Zvl {b : Bool} {A B A' B' : Prop} (h : bcase b A B) (m : A → A') (n : B → B') : bcase b A' B' := by
  unfold bcase at *; split at h <;> first | exact m h | exact n h
theorem Zhh {s : Sh} {o : Option Zac} (h : xv s o k) (m : ∀ v, k v → k' v) : xv s o k' := by
  cases s <;> simp only [xv] at *
  · exact Zvi h fun _ => m _
  · exact Zxe h fun _ => m _
  · exact Zni h fun _ => m _
  · exact Zxm h fun _ => m _
  · exact Zyv h fun _ _ _ _ => m _
  · exact Zvs h fun _ => m _
  · exact Zkf h m
theorem Zsl : ∀ {ss : List Sh} {cs : List Zac} {K K' : List Zac → Prop}, xs ss cs K → (∀ v, K v → K' v) → xs ss cs K'
  | [], _, _, _, h, m => Zpq h (m _)
  | _ :: _, _, _, _, h, m => Zon h fun _ _ h => Zhh h fun _ h => Zsl h fun _ => m _
theorem Zwz {t : TypeId} {v : Zac} (h : xt P t v k) (m : ∀ v, k v → k' v) : xt P t v k' := by
  unfold xt at *
  split at h
  · exact Zyd h fun _ h => Zsl h fun _ => m _
  · exact Zhh h m
theorem Ztj : ∀ {ts : List TypeId} {cs : List Zac} {K K' : List Zac → Prop}, xts P ts cs K → (∀ v, K v → K' v) → xts P ts cs K'
  | [], _, _, _, h, m => Zpq h (m _)
  | _ :: _, _, _, _, h, m => Zon h fun _ _ h => Zwz h fun _ h => Ztj h fun _ => m _
theorem Zqs {ts : List TypeId} {v : Zac} (h : Ybg P ts v k) (m : ∀ v, k v → k' v) : Ybg P ts v k' := by
  unfold Ybg at *
  split at h
  · exact m _ h
  · exact Zwz h m
  · exact Zvw h fun _ h => Ztj h fun _ => m _
theorem Zul {t : TypeId} {h : Zaa} {p : Zac} (hh : Zln P t h p k) (m : ∀ v, k v → k' v) : Zln P t h p k' := by
  unfold Zln at *
  split at hh
  · exact Zdc hh fun _ h => Zsl h fun _ => m _
  · exact Zhh hh m
theorem Zsb {t : TypeId} {h : Zaa} {p v : Zac} {K K' : Zaa → Prop} (hh : Zog P t h p v K) (m : ∀ v, K v → K' v) : Zog P t h p v K' := by
  unfold Zog at *
  split at hh
  · split at hh
    · exact Znz hh m
    · exact hh.elim
  · exact hh.elim
theorem Zuk {a b : Option (Nat × Nat)} {K K' : Bool → Prop} (h : Zsh a b K) (m : ∀ b, K b → K' b) : Zsh a b K' := by
  unfold Zsh at *
  split at h
  · exact m _ h
  · split at h
    · exact m _ h
    · exact h.elim
theorem Zis {a : Option (Nat × Nat)} {K K' : Nat → Nat → Prop} (h : Zbb a K) (m : ∀ b o, K b o → K' b o) : Zbb a K' := by
  obtain ⟨b, o, rfl, h⟩ := Zbt h
  exact m _ _ h
theorem Ztq {t : TypeId} {x y : Zac} {K K' : Bool → Prop} (h : eqA P t x y K) (m : ∀ b, K b → K' b) : eqA P t x y K' := by
  unfold eqA at *
  split at h <;> (try exact h.elim) <;> split at h <;> (try exact h.elim)
  · exact Zba h (m _)
  · exact m _ h
  · exact Zba h (m _)
  · exact Zba h fun h => Zuk h m
  · split at h
    · exact m _ h
    · exact h.elim
  · exact Zba h fun h => ⟨h.1, m _ h.2⟩
theorem Zyb {op : BinOp} {t : TypeId} {x y : Zac} (h : Yak P op t x y k) (m : ∀ v, k v → k' v) : Yak P op t x y k' := by
  unfold Yak at *
  split at h
  · exact Ztq h fun _ => m _
  · exact Ztq h fun _ => m _
  · split at h
    · split at h
      · split at h <;> first
          | exact h.elim
          | exact Zba h (m _)
          | exact Zba h fun h => ⟨h.1, m _ h.2⟩
          | exact ⟨h.1, m _ h.2⟩
      · exact h.elim
    · split at h
      · split at h <;> first
          | exact h.elim
          | exact ⟨h.1, m _ h.2⟩
          | exact m _ h
      · exact h.elim
    · exact h.elim
theorem Znv {t : TypeId} {cs : List Zac} {off : Nat} (h : Znq P t cs off k) (m : ∀ v, k v → k' v) : Znq P t cs off k' := by
  unfold Znq at *
  split at h
  · exact m _ h
  · exact Zba h fun h => Zkf h m
theorem Zxv {ts : Array TypeId} {xs : List Zac} (h : Ybs P ts xs k) (m : ∀ v, k v → k' v) : Ybs P ts xs k' := by
  unfold Ybs at *
  split at h <;> first | exact h.elim | exact Zba h (m _)
theorem Zuj {s d : TypeId} {x : Zac} (h : Zre P s d x k) (m : ∀ v, k v → k' v) : Zre P s d x k' := by
  unfold Zre at *
  split at h
  · split at h <;> first | exact h.elim | exact Zba h (m _)
  · split at h <;> first | exact h.elim | exact Zba h (m _) | exact Zba h fun h => ⟨h.1, m _ h.2⟩
  · exact h.elim
theorem Zrd {t : TypeId} {x : Zac} {lo hi mx : Option Zac} (h : Zom P t x lo hi mx k) (m : ∀ v, k v → k' v) : Zom P t x lo hi mx k' := by
  unfold Zom at *
  split at h
  · split at h
    · exact Zba h fun h => Zge h fun _ h => Zge h fun _ h => ⟨h.1, m _ h.2⟩
    · exact h.elim
  · split at h
    · refine Zba h fun h => Zba h fun h => Zge h fun _ h => Zge h fun _ h => Zge h fun _ h => ⟨h.1, ?_⟩
      have h2 := h.2
      split at h2
      · exact ⟨h2.1, m _ h2.2⟩
      · exact ⟨fun a => m _ (h2.1 a), fun a => m _ (h2.2 a)⟩
    · exact h.elim
  · exact h.elim
theorem Zko {env : Env} {o : Oper} (h : Zkc P env o k) (m : ∀ v, k v → k' v) : Zkc P env o k' := by
  obtain ⟨dst, op, type, pos, after, guard⟩ := o
  unfold Zkc at *
  cases op <;> simp only at h ⊢ <;> (try exact h.elim)
  case move x => exact m _ h
  case assign x => exact m _ h
  case pick c a b =>
    unfold Zxc at *
    split at h
    · exact Zvl h (m _) (m _)
    · exact h.elim
  case nilCheck x =>
    unfold Yde at *
    split at h <;> first | exact h.elim | exact m _ h | exact Zis h fun _ _ => m _
  case fieldAddr t x i =>
    unfold Zhf at *
    split at h
    · exact Znh h fun _ h => Zba h fun h => Zba h fun h => Zis h fun _ _ => m _
    · exact h.elim
  case field t x i =>
    unfold Zqq at *
    split at h
    · exact Znh h fun _ h => Znv h m
    · exact h.elim
  case indexAddr t x i =>
    unfold Zhc at *
    split at h
    · split at h
      · split at h <;> first | exact h.elim | exact Zba h fun h => ⟨h.1, Zis h.2 fun _ _ => m _⟩
      · split at h <;> first | exact h.elim | exact Zba h fun h => ⟨h.1, Zis h.2 fun _ _ => m _⟩
      · exact h.elim
    · exact h.elim
  case index t x i =>
    unfold Zqe at *
    split at h
    · split at h
      · split at h
        · exact ⟨h.1, m _ h.2⟩
        · exact h.elim
      · split at h
        · exact Zba h fun h => ⟨h.1, Znv h.2 m⟩
        · exact h.elim
      · exact h.elim
    · exact h.elim
  case slice t x lo hi mx => exact Zrd h m
  case binOp op t x y yt => exact Zyb h m
  case unOp op t x =>
    unfold unA at *
    split at h
    · split at h <;> first | exact h.elim | exact m _ h
    · split at h <;> first | exact h.elim | exact m _ h
    · exact h.elim
  case convert s d x => exact Zuj h m
  case extract x i =>
    unfold Zjs at *
    split at h
    · exact Zkf h m
    · exact h.elim
  case makeFunc fn first caps =>
    cases fn <;> simp only at h ⊢ <;> first | exact h.elim | exact Zba h (m _)
  case call c =>
    split at h
    · exact Zxv h m
    · exact h.elim
theorem Zmm {h : Zaa} {j : Nat} {e : TypeId} {A B : List Zac → Prop} (hh : Zja h j e A) (m : ∀ cs, A cs → B cs) : Zja h j e B := by
  unfold Zja at *
  split at hh
  · exact ⟨hh.1, m _ hh.2⟩
  · exact hh.elim
theorem Zpj {t : TypeId} {h : Zaa} {s x : Zac} (hh : Zcy P t h s x K) (m : ∀ v h, K v h → K' v h) : Zcy P t h s x K' := by
  unfold Zcy at *
  split at hh <;> (try exact hh.elim)
  split at hh <;> (try exact hh.elim)
  split at hh <;> (try exact hh.elim)
  refine Zdc hh fun new h => ⟨h.1, ?_⟩
  have h2 := h.2
  split at h2
  · exact ⟨fun a => m _ _ (h2.1 a), fun a => ⟨(h2.2 a).1, m _ _ (h2.2 a).2⟩⟩
  · rcases h2 with ⟨a, b⟩ | ⟨a, b⟩ | ⟨a, b⟩
    · exact .inl ⟨a, Zmm b fun _ h => ⟨h.1, m _ _ h.2⟩⟩
    · exact .inr (.inl ⟨a, Zmm b fun _ h => ⟨h.1, m _ _ h.2⟩⟩)
    · exact .inr (.inr ⟨a, Zdc b fun _ => m _ _⟩)
theorem Zme : ∀ {cs : List Zac} {K K' : List Nat → Prop}, Zie cs K → (∀ s, K s → K' s) → Zie cs K'
  | [], _, _, h, m => m _ h
  | .int k n :: r, _, _, h, m => by
    unfold Zie at *
    exact Zba h fun h => ⟨h.1, Zme h.2 fun _ => m _⟩
  | .undef :: _, _, _, h, _ | .bool _ :: _, _, _, h, _ | .str _ :: _, _, _, h, _ | .ptr _ :: _, _, _, h, _ | .slice .. :: _, _, _, h, _ | .map _ :: _, _, _, h, _ | .fn .. :: _, _, _, h, _ | .nilFn :: _, _, _, h, _ | .iter _ :: _, _, _, h, _
  | .agg _ :: _, _, _, h, _ | .tup _ :: _, _, _, h, _ => by unfold Zie at h; exact h.elim
theorem Zwc {s d : TypeId} {h : Zaa} {x : Zac} {K K' : Zac → Prop} (hh : Ycb P s d h x K) (m : ∀ v, K v → K' v) : Ycb P s d h x K' := by
  unfold Ycb at *
  split at hh
  · refine Zba hh fun h => ?_
    split at h
    · exact Zdc h fun _ h => Zme h fun _ => m _
    · exact h.elim
  · exact hh.elim
theorem Zyn {x y : Zac} {K K' : Zac → Prop} (hh : Ybz x y K) (m : ∀ v, K v → K' v) : Ybz x y K' := by
  unfold Ybz at *
  split at hh
  · split at hh
    · exact Zba hh (m _)
    · exact hh.elim
  · exact hh.elim
theorem Zmq {t : TypeId} {a b : Zac} {h : Zaa} {K K' : Zac → Zaa → Prop} (hh : Zfw P t a b h K) (m : ∀ v h, K v h → K' v h) : Zfw P t a b h K' := by
  unfold Zfw at *
  split at hh
  · refine Zdc hh fun _ h => Zba h fun h => ?_
    unfold Zck at *
    split at h
    · refine ⟨h.1, ?_⟩
      replace h := h.2
      split at h
      · exact ⟨h.1, h.2.1, m _ _ h.2.2⟩
      · exact h.elim
    · exact h.elim
  · exact hh.elim
theorem Zfj {h : Zaa} {m : Option Nat} {K K' : List ME → Nat → Prop} (hh : Zdu h m K) (m' : ∀ a b, K a b → K' a b) : Zdu h m K' := by
  unfold Zdu at *
  split at hh
  · exact m' _ _ hh
  · split at hh
    · exact m' _ _ hh
    · exact hh.elim
theorem Zux {es : List ME} {s : List Nat} {K K' : Option Zac → Prop} (hh : Znm es s K) (m : ∀ a, K a → K' a) : Znm es s K' := by
  unfold Znm at *; split at hh <;> first | exact m _ hh | exact hh.elim
theorem Zxr {es : List ME} {clk : Nat} {s : List Nat} {v : Zac} {K K' : List ME → Nat → Prop} (hh : Zyq es clk s v K) (m : ∀ a b, K a b → K' a b) : Zyq es clk s v K' := by
  unfold Zyq at *; split at hh <;> first | exact m _ _ hh | exact hh.elim
theorem Zto {m : Option Nat} {K K' : Nat → Prop} (hh : xMp m K) (mm : ∀ a, K a → K' a) : xMp m K' := by
  unfold xMp at *; split at hh <;> first | exact mm _ hh | exact hh.elim
theorem Zvd {h : Zaa} {r : Nat} {K K' : List Nat → Nat → Prop} (hh : Zug h r K) (m : ∀ a b, K a b → K' a b) : Zug h r K' := by
  unfold Zug at *; split at hh <;> first | exact m _ _ hh | exact hh.elim
theorem Zmd {h : Zaa} {r : Nat} {K K' : Option Nat → Nat → List Nat → Nat → Prop} (hh : Zms h r K) (m : ∀ a b c d, K a b c d → K' a b c d) : Zms h r K' := by
  unfold Zms at *; split at hh <;> first | exact m _ _ _ _ hh | exact hh.elim
theorem Zpo {t : TypeId} {h : Zaa} {x i : Zac} {ok : Bool} (hh : Zkl P t h x i ok k) (m : ∀ v, k v → k' v) : Zkl P t h x i ok k' := by
  unfold Zkl at *
  split at hh
  · refine Zba hh fun h => ?_
    split at h
    · exact Zni h fun _ h => Zkf h fun _ h => Zfj h fun _ _ h => Zux h fun _ h => Zhh h fun _ => m _
    · exact h.elim
  · exact hh.elim
theorem Zmh {t : TypeId} {h : Zaa} {x i v : Zac} (hh : Zfv P t h x i v K) (m : ∀ v h, K v h → K' v h) : Zfv P t h x i v K' := by
  unfold Zfv at *
  split at hh
  · refine Zba hh fun h => ?_
    split at h
    · exact Zto h fun _ h => Zni h fun _ h => Zfj h fun _ _ h => Zxr h fun _ _ => m _ _
    · exact h.elim
  · exact hh.elim
theorem Zpe {t : TypeId} {r : Option Zac} {h : Zaa} (hh : Zir P t r h K) (m : ∀ v h, K v h → K' v h) : Zir P t r h K' := by
  unfold Zir at *
  split at hh <;> first | exact m _ _ hh | exact Zba hh (m _ _) | exact hh.elim
theorem Zsd {t : TypeId} {x : Zac} {h : Zaa} (hh : Zoj P t x h K) (m : ∀ v h, K v h → K' v h) : Zoj P t x h K' := by
  unfold Zoj at *
  split at hh <;> first | exact hh.elim | exact Zba hh (m _ _) | exact Zba hh fun h => Zfj h fun _ _ => m _ _
theorem Zwp {m : Option Nat} {A B A' B' : Prop} (hh : Ydf m A B) (p : A → A') (q : B → B') : Ydf m A' B' := by
  unfold Ydf at *; split at hh <;> first | exact p hh | exact q hh
theorem Zvk {ty : TypeId} {x : Zac} {st : Bool} {h : Zaa} (hh : Zub P ty x st h K) (m : ∀ v h, K v h → K' v h) : Zub P ty x st h K' := by
  unfold Zub at *
  split at hh
  · split at hh
    · exact Zvd hh fun _ _ h => ⟨fun a => ⟨(h.1 a).1, m _ _ (h.1 a).2⟩, fun a => m _ _ (h.2 a)⟩
    · exact Zmd hh fun _ _ _ _ h => Zwp h (m _ _) fun h => Zfj h fun _ _ h => ⟨h.1, fun a => m _ _ (h.2.1 a), fun e he hn => Zhh (h.2.2 e he hn) fun _ h => Zhh h fun _ => m _ _⟩
  · exact hh.elim
theorem Zsj {ty : TypeId} {x : Zac} {h : Zaa} (hh : Zoc P ty x h k) (m : ∀ v, k v → k' v) : Zoc P ty x h k' := by
  unfold Zoc at *
  split at hh
  · exact Zmd hh fun _ _ _ _ h => Zto h fun _ h => Zfj h fun _ _ h => ⟨h.1, h.2.imp fun _ h => ⟨h.1, h.2.imp fun _ h => ⟨h.1, Zhh h.2 fun _ h => Zhh h fun _ => m _⟩⟩⟩
  · exact hh.elim
theorem Zzj {env : Env} {h : Zaa} {o : Oper} (hh : opA P env h o K) (m : ∀ v h, K v h → K' v h) : opA P env h o K' := by
  obtain ⟨dst, op, type, pos, after, guard⟩ := o
  unfold opA at *
  cases op <;> simp only at hh ⊢
  case load t a => exact Zba hh fun h => Zul h fun _ => m _ _
  case store t a x => exact Zba hh fun h => Zsb h fun _ => m _ _
  case alloc t => exact Zdc hh fun _ => m _ _
  case box t x => exact Zdc hh fun _ => m _ _
  case build t ps =>
    refine Zdc hh fun _ h => ?_
    split at h
    · exact Zba h fun h => Zdc h fun _ => m _ _
    · exact Zba h fun h => Zdc h fun _ => m _ _
    · exact h.elim
  case buildSlice t n ps =>
    unfold Zhp at *
    split at hh
    · exact Zdc hh fun _ h => Zba h fun h => Zdc h fun _ => m _ _
    · exact hh.elim
  case call c =>
    unfold Zwt at *
    split at hh
    · split at hh
      · exact Zae.mono hh fun _ _ h => Zqs h fun _ => m _ _
      · unfold Ydp Ydm at *
        split at hh
        · exact Zae.mono hh fun _ _ h => Zqs h fun _ => m _ _
        · exact hh.elim
    · split at hh
      · refine Zba hh fun h => ?_
        split at h
        · exact Zpj h fun _ _ h => Zhh h fun _ => m _ _
        · exact h.elim
      · exact hh.elim
    · split at hh
      · exact Zyn hh fun _ => m _ _
      · exact hh.elim
    · split at hh
      · split at hh
        · unfold Ztr at *
          split at hh
          · split at hh
            · refine ⟨fun h0 => m _ _ (hh.1 h0), fun h0 => Zdc (hh.2 h0) fun _ h => Zba h fun h => Znz h fun _ => m _ _⟩
            · exact hh.elim
          · exact hh.elim
        · exact hh.elim
      · exact hh.elim
    · exact Zko hh fun _ => m _ _
  case makeSlice t l c => exact Zmq hh m
  case makeMap t r => exact Zpe hh m
  case lookup t x i ok => exact Zpo hh fun _ => m _ _
  case mapUpdate t mm k v => exact Zmh hh m
  case range t x => exact Zsd hh m
  case next x st => exact Zvk hh m
  case entry x => exact Zsj hh fun _ => m _ _
  case convert s d x =>
    split at hh
    · exact Zwc hh fun _ => m _ _
    · exact Zko hh fun _ => m _ _
  all_goals exact Zko hh fun _ => m _ _
end
end Go.Sim
