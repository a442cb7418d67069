/- A part of the proof of a statement of this seat: see the text that holds the theorem. No condition. -/
import Derived.Test.YtlljbdepamknoaaGreatDoorSimIa
import Derived.MapKept
import Derived.Carry
import Derived.Laws.RangeString
import Derived.Maps.RangeRun
import GoSem.Builtin.Clear
import Derived.LaidEqlPtr
import Derived.Orders
set_option linter.unusedVariables false
set_option linter.unusedSimpArgs false
set_option linter.all false
set_option linter.unusedSimpArgs false
namespace Go.Sim
open Go Go.RowKit

abbrev ME := Zaq × Zaq × Nat
def Zgd (h : Zaa) (m : Option Nat) (K : List ME → Nat → Prop) : Prop :=
  match m with
  | none => K [] 0
  | some i => (match h[i]? with | some (.map es clk) => K es clk | _ => False)
def Zto : List ME → List Nat → Nat → Option (Option (Nat × Zaq))
  | [], _, _ => some none
  | (.str k, v, _) :: r, s, i => if s = k then some (some (i, v)) else Zto r s (i + 1)
  | _ :: _, _, _ => none
def Zxr (es : List ME) (s : List Nat) (K : Option Zaq → Prop) : Prop := match Zto es s 0 with | some (some (_, v)) => K (some v) | some none => K none | none => False
def Ymn (es : List ME) (clk : Nat) (s : List Nat) (v : Zaq) (K : List ME → Nat → Prop) : Prop :=
  match Zto es s 0 with
  | some (some (i, _)) => K (es.modify i fun e => (.str s, v, e.2.2)) clk
  | some none => K (es ++ [(.str s, v, clk)]) (clk + 1)
  | none => False
def xMp (m : Option Nat) (K : Nat → Prop) : Prop := match m with | some i => K i | none => False
def Ynt (P : Program) (t : TypeId) : Option Zaq := match P.info? t with | some i => (match i.zero with | some v => some (Zpm v) | none => none) | none => none
def Zuf (P : Program) (t : TypeId) (h : Zaa) (m k : Zaq) (ok : Bool) (K : Zaq → Prop) : Prop :=
  match P.underlying t with
  | some (.map kt et) => chk (Zur P kt = true ∧ isAgg P et = false) (match m with
    | .map a => Zaz (some k) fun s => Zxl (Ynt P et) fun z => Zgd h a fun es _ => Zxr es s fun r => xv (Zlr P et) (some (r.getD z)) fun v => K (match ok with | true => .tup [v, .bool r.isSome] | false => v)
    | _ => False)
  | _ => False
def Zlz (P : Program) (t : TypeId) (h : Zaa) (m k v : Zaq) (K : Zaq → Zaa → Prop) : Prop :=
  match P.underlying t with
  | some (.map kt _) => chk (Zur P kt = true) (match m with
    | .map a => xMp a fun i => Zaz (some k) fun s => Zgd h (some i) fun es clk => Ymn es clk s v fun es' clk' => K .undef (h.set i (.map es' clk'))
    | _ => False)
  | _ => False
def Yfe (P : Program) (t : TypeId) : Bool := match P.underlying t with | some (.map _ _) => true | _ => false
def Zqp (P : Program) (t : TypeId) (r : Option Zaq) (h : Zaa) (K : Zaq → Zaa → Prop) : Prop :=
  match r with
  | none => K (.map (some h.length)) (h ++ [.map [] 0])
  | some (.int _ _) => chk (Yfe P t = true) (K (.map (some h.length)) (h ++ [.map [] 0]))
  | _ => False
def Yte (m : Option Nat) (clk : Nat) : Nat := match m with | none => 0 | some _ => clk
def Ysn (m : Option Nat) (A B : Prop) : Prop := match m with | none => A | some _ => B
def Ysj (P : Program) (t : TypeId) (i : Nat) : Sh := match P.underlying t with | some (.tuple ts) => (match ts[i]? with | some t => Zlr P t | none => .any) | _ => .any
def Zyk (P : Program) (t : TypeId) (x : Zaq) (h : Zaa) (K : Zaq → Zaa → Prop) : Prop :=
  match x with
  | .str s => chk (Zur P t = true) (K (.iter h.length) (h ++ [.iter s 0]))
  | .map m => chk (Yfe P t = true) (Zgd h m fun _ clk => K (.iter h.length) (h ++ [.miter m (Yte m clk) [] (Yte m clk)]))
  | _ => False
def Yhv (h : Zaa) (r : Nat) (K : List Nat → Nat → Prop) : Prop := match h[r]? with | some (.iter s pos) => K s pos | _ => False
def Zwx (h : Zaa) (r : Nat) (K : Option Nat → Nat → List Nat → Nat → Prop) : Prop := match h[r]? with | some (.miter m since seen last) => K m since seen last | _ => False
def Ygp (P : Program) (ty : TypeId) (it : Zaq) (isStr : Bool) (h : Zaa) (K : Zaq → Zaa → Prop) : Prop :=
  match it with
  | .iter r => (match isStr with
    | true => Yhv h r fun s pos => (pos < s.length → s.getD pos 0 < 128 ∧ K (.tup [.bool true, .int .i64 (pos : Int), .int .i32 ((s.getD pos 0 : Nat) : Int)]) (h.set r (.iter s (pos + 1)))) ∧ (s.length ≤ pos → K (.tup [.bool false]) h)
    | false => Zwx h r fun m since seen last => Ysn m (K (.tup [.bool false]) h) (Zgd h m fun es clk => ((∀ e ∈ es, e.2.2 < since) ∧ since ≤ last) ∧ ((∀ e ∈ es, e.2.2 ∈ seen) → K (.tup [.bool false]) h) ∧
        ∀ e ∈ es, e.2.2 ∉ seen → xv (Ysj P ty 1) (some e.1) fun a => xv (Ysj P ty 2) (some e.2.1) fun b => K (.tup [.bool true, a, b]) (h.set r (.miter m since (seen ++ [e.2.2]) clk))))
  | _ => False
def Zyq (P : Program) (ty : TypeId) (it : Zaq) (h : Zaa) (K : Zaq → Prop) : Prop :=
  match it with
  | .iter r => Zwx h r fun m _ seen last => xMp m fun i => Zgd h (some i) fun es clk => ((es.map (·.2.2)).Nodup ∧ clk = last) ∧ ∃ e ∈ es, ∃ s0, seen = s0 ++ [e.2.2] ∧ xv (Ysj P ty 0) (some e.1) fun a => xv (Ysj P ty 1) (some e.2.1) fun b => K (.tup [a, b])
  | _ => False

section
variable {P : Program} {base : Nat} {w0 : World} {μ : List Pl} {h : Zaa} {w : World}
theorem Ybj {t : TypeId} (h : Yfe P t = true) : ∃ k e, P.underlying t = some (.map k e) := by unfold Yfe at h; split at h <;> simp_all
theorem Yeg {a b : ByteArray} (h : bytesOf a = bytesOf b) : a = b := by
  have := Zos h
  cases a; cases b
  congr 1
  exact Array.ext' this
theorem Zsx {s : ByteArray} : ∀ {es : List ME} {ents : List MapEntry} {i : Nat} {r : Option (Nat × Zaq)}, VRs μ (es.map (·.1)) (ents.map (·.key)) → VRs μ (es.map (·.2.1)) (ents.map (·.val)) → Zto es (bytesOf s) i = some r →
    (r = none ∧ Instr.findNow .string (.string s) ents i = some none) ∨ ∃ j v x k0, r = some (j, v) ∧ i ≤ j ∧ VR μ v x ∧ Instr.findNow .string (.string s) ents i = some (some (j, x)) ∧ ents[j - i]? = some k0 ∧ k0.key = .string s
  | [], [], i, r, _, _, h => by simp [Zto] at h; subst h; exact .inl ⟨rfl, rfl⟩
  | [], e :: ents, i, r, hk, _, _ => by cases hk
  | e :: es, [], i, r, hk, _, _ => by cases hk
  | (k, v, b) :: es, e :: ents, i, r, hk, hv, h => by
    simp only [List.map_cons] at hk hv
    cases hk with
    | cons hk1 hk2 =>
    cases hv with
    | cons hv1 hv2 =>
    cases k <;> simp only [Zto] at h <;> try (cases h; done)
    rename_i kb
    generalize he : e.key = ek at hk1
    cases hk1
    rename_i kb
    by_cases hs : bytesOf s = bytesOf kb
    · rw [if_pos hs] at h
      cases h
      have : s = kb := Yeg hs
      subst this
      refine .inr ⟨i, v, e.val, e, rfl, Nat.le_refl _, hv1, ?_, by simp, he⟩
      simp [Instr.findNow, he, Instr.sameNow, (MapKept.bytes_beq s s).2 rfl]
    · rw [if_neg hs] at h
      have hne : (s == kb) = false := by
        cases hb : s == kb with
        | false => rfl
        | true => exact absurd (by rw [(MapKept.bytes_beq s kb).1 hb]) hs
      rcases Zsx hk2 hv2 h with ⟨h1, h2⟩ | ⟨j, v', x, k0, h1, h2, h3, h4, h5, h6⟩
      · exact .inl ⟨h1, by simp [Instr.findNow, he, Instr.sameNow, hne, h2]⟩
      · refine .inr ⟨j, v', x, k0, h1, by omega, h3, by simp [Instr.findNow, he, Instr.sameNow, hne, h4], ?_, h6⟩
        rw [show j - i = (j - (i + 1)) + 1 by omega]; simpa using h5

theorem Yfw {t : TypeId} {z : Zaq} (hz : Ynt P t = some z) : ∃ v, VR μ z v ∧ ∀ w, (zeroValue t).run P w = .ok v w := by
  unfold Ynt at hz
  split at hz
  · rename_i i hi
    split at hz
    · rename_i v hv
      cases hz
      exact ⟨v, Zty v, fun w => by simp [zeroValue, typeInfo, hi, hv]⟩
    · cases hz
  · cases hz
theorem Zmt {m : Option Nat} {K : List ME → Nat → Prop} (hk : Zgd h m K) : (m = none ∧ K [] 0) ∨ ∃ i es clk, m = some i ∧ h[i]? = some (.map es clk) ∧ K es clk := by
  unfold Zgd at hk
  split at hk
  · exact .inl ⟨rfl, hk⟩
  · split at hk
    · rename_i hi; exact .inr ⟨_, _, _, rfl, hi, hk⟩
    · exact hk.elim
theorem Zyd {o : Option Zaq} {K : List Nat → Prop} (h : Zaz o K) : ∃ s, o = some (.str s) ∧ K s := by
  unfold Zaz at h; split at h
  · exact ⟨_, rfl, h⟩
  · exact h.elim

theorem Yjo (r : Rel P base w0 μ h w) {t : TypeId} {a k : Zaq} {x y : Value} {ok : Bool} (ha : VR μ a x) (hkk : VR μ k y) {K : Zaq → Prop} (hk : Zuf P t h a k ok K) :
    ∃ z v, (Instr.lookup t x y ok).run P w = .ok z w ∧ VR μ v z ∧ K v := by
  unfold Zuf at hk
  split at hk
  · rename_i kt et hu
    replace hk := Zbo hk
    obtain ⟨⟨hs, hag⟩, hk⟩ := hk
    have hs := Zob hs
    split at hk
    · rename_i m
      obtain ⟨s, hse, hk⟩ := Zyd hk
      cases hse
      obtain ⟨z0, hz, hk⟩ := Zjx hk
      obtain ⟨zv, hzv1, hzr⟩ := Yfw (μ := μ) hz
      cases hkk with
      | str sb =>
      have hchk : ∀ b, (Instr.checkKey b 10000 kt (.string sb)).run P w = .ok () w := fun b => MapKept.run_checkKey (d := .string) hs (by simp [MapKept.IsKey]) b 9999
      rcases Zmt hk with ⟨rfl, hk1⟩ | ⟨i', es, clk, rfl, hi', hk1⟩
      · cases ha
        simp only [Zxr, Zto] at hk1
        obtain ⟨v, hv, hk2⟩ := Zkd hk1
        cases hv
        have hfk := MapKept.run_findKey (P := P) (w := w) (k := .string sb) (l := []) hs rfl
        cases ok
        · exact ⟨zv, _, by simp [Instr.lookup, run_underlying hu, hchk, hfk, hzr w], hzv1, hk2⟩
        · exact ⟨.tuple #[zv, .bool false], _, by simp [Instr.lookup, run_underlying hu, hchk, hfk, hzr w], .tup (.cons hzv1 (.cons (.bool _) .nil)), hk2⟩
      · cases ha with
        | map hmu =>
        obtain ⟨hb0, ents, hg, hk1', hk2', hk3'⟩ := r.obj i' _ hi' _ hmu
        unfold Zxr at hk1
        split at hk1
        · rename_i j v hf
          obtain ⟨v1, hv, hk2⟩ := Zkd hk1
          cases hv
          rcases Zsx hk1' hk2' hf with ⟨h1, _⟩ | ⟨j', v', x', k0, h1, _, h3, h4, _⟩
          · cases h1
          · cases h1
            have hfk := MapKept.run_findKey (P := P) (w := w) hs h4
            cases ok
            · exact ⟨x', _, by simp [Instr.lookup, run_underlying hu, MapKept.run_getObj_map hg, hchk, hfk], h3, hk2⟩
            · exact ⟨.tuple #[x', .bool true], _, by simp [Instr.lookup, run_underlying hu, MapKept.run_getObj_map hg, hchk, hfk], .tup (.cons h3 (.cons (.bool _) .nil)), hk2⟩
        · rename_i hf
          obtain ⟨v1, hv, hk2⟩ := Zkd hk1
          cases hv
          rcases Zsx hk1' hk2' hf with ⟨_, h4⟩ | ⟨j', v', x', k0, h1, _⟩
          · have hfk := MapKept.run_findKey (P := P) (w := w) hs h4
            cases ok
            · exact ⟨zv, _, by simp [Instr.lookup, run_underlying hu, MapKept.run_getObj_map hg, hchk, hfk, hzr w], hzv1, hk2⟩
            · exact ⟨.tuple #[zv, .bool false], _, by simp [Instr.lookup, run_underlying hu, MapKept.run_getObj_map hg, hchk, hfk, hzr w], .tup (.cons hzv1 (.cons (.bool _) .nil)), hk2⟩
          · cases h1
        · exact hk1.elim
    · exact hk.elim
  · exact hk.elim
theorem Zjo {i : Nat} {K : List ME → Nat → Prop} (hk : Zgd h (some i) K) : ∃ es clk, h[i]? = some (.map es clk) ∧ K es clk := by
  rcases Zmt hk with ⟨h0, _⟩ | ⟨i', es, clk, h0, hi', hk1⟩
  · cases h0
  · cases h0; exact ⟨es, clk, hi', hk1⟩
theorem VRs.modify {α β : Type} {p : α → Zaq} {q : β → Value} {f : α → α} {g : β → β} {v : Zaq} {k : Value} (hv : VR μ v k) (hf : ∀ x, p (f x) = v) (hg : ∀ y, q (g y) = k) : ∀ {l : List α} {m : List β} (j : Nat), VRs μ (l.map p) (m.map q) → VRs μ ((l.modify j f).map p) ((m.modify j g).map q)
  | [], [], j, _ => by cases j <;> exact .nil
  | [], _ :: _, _, h => by cases h
  | _ :: _, [], _, h => by cases h
  | a :: l, b :: m, 0, h => by
    simp only [List.map_cons] at h
    cases h with
    | cons h1 h2 =>
    simp only [List.modify_zero_cons, List.map_cons, hf, hg]
    exact .cons hv h2
  | a :: l, b :: m, j + 1, h => by
    simp only [List.map_cons] at h
    cases h with
    | cons h1 h2 =>
    simp only [List.modify_succ_cons, List.map_cons]
    exact .cons h1 (VRs.modify hv hf hg j h2)
theorem Zhg {α β : Type} {p : α → β} {f : α → α} (hf : ∀ x, p (f x) = p x) : ∀ (l : List α) (j : Nat), (l.modify j f).map p = l.map p
  | [], j => by cases j <;> rfl
  | a :: l, 0 => by simp [List.modify_zero_cons, hf]
  | a :: l, j + 1 => by simp [List.modify_succ_cons, Zhg hf l j]
theorem Rel.over (r : Rel P base w0 μ h w) {i : Nat} {o o' : Zcg} {e : Pl} {x : Obj} (hi : h[i]? = some o) (ho : o.own = true) (hei : μ[i]? = some e) (hb : base ≤ e.b) (hown : o'.own = true)
    (hn : Zmu P base w0 μ e { w with heap := w.heap.setIfInBounds e.b x } o') : Rel P base w0 μ (h.set i o') { w with heap := w.heap.setIfInBounds e.b x } :=
  r.change hi ho hei ⟨rfl, rfl, rfl, by simp, fun k hk => by simp [show ¬ e.b = k by omega]⟩ (fun k hk _ => by simp [Ne.symm hk]) hn (.inl hown)
theorem Yen {s : ByteArray} {es : List ME} {ents : List MapEntry} {j : Nat} {v : Zaq} (hk : VRs μ (es.map (·.1)) (ents.map (·.key))) (hv : VRs μ (es.map (·.2.1)) (ents.map (·.val))) (hf : Zto es (bytesOf s) 0 = some (some (j, v))) :
    ∃ x, Instr.findNow .string (.string s) ents 0 = some (some (j, x)) ∧ ∃ k0, ents[j]? = some k0 ∧ k0.key = .string s := by
  rcases Zsx hk hv hf with ⟨h1, _⟩ | ⟨j', v', x', k0, h1, _, h3, h4, h5, h6⟩
  · cases h1
  · cases h1; exact ⟨x', h4, k0, h5, h6⟩
theorem Yav (r : Rel P base w0 μ h w) {t : TypeId} {a k v : Zaq} {x y z : Value} (ha : VR μ a x) (hkk : VR μ k y) (hv : VR μ v z) {K : Zaq → Zaa → Prop} (hk : Zlz P t h a k v K) :
    ∃ w' h', (Instr.mapUpdate t x y z).run P w = .ok () w' ∧ Rel P base w0 μ h' w' ∧ K .undef h' := by
  unfold Zlz at hk
  split at hk
  · rename_i kt et hu
    replace hk := Zbo hk
    obtain ⟨hs, hk⟩ := hk
    have hs := Zob hs
    split at hk
    · rename_i m
      unfold xMp at hk
      split at hk
      · rename_i i
        obtain ⟨s, hse, hk⟩ := Zyd hk
        cases hse
        cases hkk with
        | str sb =>
        obtain ⟨es, clk, hi', hk1⟩ := Zjo hk
        · cases ha with
          | map hmu =>
          rename_i e
          obtain ⟨hb0, ents, hg, hk1', hk2', hk3'⟩ := r.obj i _ hi' _ hmu
          have hchk : (Instr.checkKey false 10000 kt (.string sb)).run P w = .ok () w := MapKept.run_checkKey (d := .string) hs (by simp [MapKept.IsKey]) false 9999
          have hlt := (Array.getElem?_eq_some_iff.1 hg).1
          unfold Ymn at hk1
          split at hk1
          · rename_i j v0 hf
            obtain ⟨x0, hf2, k0, hj, hkey⟩ := Yen hk1' hk2' hf
            have hfk := MapKept.run_findKey (P := P) (w := w) hs hf2
            have hj' : ents[j]? = some k0 := by simpa using hj
            have hst : ∀ w : World, (Instr.keyThatStays k0.key (.string sb)).run P w = .ok (.string sb) w := fun w => by
              rw [hkey]; simp [Instr.keyThatStays, Instr.sameBits, (MapKept.bytes_beq sb sb).2 rfl]
            refine ⟨_, _, ?_, r.over (x := .map (ents.modify j fun e => { e with key := .string sb, val := z }) clk) hi' rfl hmu hb0 rfl ?_, hk1⟩
            · simp [Instr.mapUpdate, run_underlying hu, MapKept.run_getObj_map hg, hchk, hfk, hj', hst, MapKept.run_setObj_map _ hg]
            · refine ⟨hb0, ents.modify j fun e => { e with key := .string sb, val := z }, by simp [hlt], ?_, ?_, ?_⟩
              · rw [Array.toList_modify]; exact VRs.modify (p := fun (x : ME) => x.1) (q := fun (x : MapEntry) => x.key) (v := .str (bytesOf sb)) (k := .string sb) (.str sb) (fun _ => rfl) (fun _ => rfl) j hk1'
              · rw [Array.toList_modify]; exact VRs.modify (p := fun (x : ME) => x.2.1) (q := fun (x : MapEntry) => x.val) (v := v) (k := z) hv (fun _ => rfl) (fun _ => rfl) j hk2'
              · rw [Array.toList_modify, Zhg (p := fun (x : ME) => x.2.2) (f := fun e => (.str (bytesOf sb), v, e.2.2)) (fun _ => rfl) es j, Zhg (p := fun (x : MapEntry) => x.born) (f := fun e => { e with key := .string sb, val := z }) (fun _ => rfl) ents.toList j]; exact hk3'
          · rename_i hf
            rcases Zsx hk1' hk2' hf with ⟨_, h4⟩ | ⟨j', v', x', k0, h1, _⟩
            · have hfk := MapKept.run_findKey (P := P) (w := w) hs h4
              refine ⟨_, _, ?_, r.over (x := .map (ents.push { key := .string sb, val := z, born := clk }) (clk + 1)) hi' rfl hmu hb0 rfl ?_, hk1⟩
              · simp [Instr.mapUpdate, run_underlying hu, MapKept.run_getObj_map hg, hchk, hfk, MapKept.run_setObj_map _ hg]
              · refine ⟨hb0, ents.push { key := .string sb, val := z, born := clk }, by simp [hlt], ?_, ?_, ?_⟩
                · simpa using hk1'.append (.cons (.str sb) .nil)
                · simpa using hk2'.append (.cons hv .nil)
                · simp [hk3']
            · cases h1
          · exact hk1.elim
      · exact hk.elim
    · exact hk.elim
  · exact hk.elim
theorem Yhk (r : Rel P base w0 μ h w) {t : TypeId} {a : Option Zaq} {x : Option Value} (hax : (a = none ∧ x = none) ∨ ∃ v y, a = some v ∧ x = some y ∧ VR μ v y) {K : Zaq → Zaa → Prop} (hk : Zqp P t a h K) :
    Res P base w0 μ ((Instr.makeMap t x).run P w) K := by
  have fin : K (.map (some h.length)) (h ++ [.map [] 0]) → (Instr.makeMap t x).run P w = .ok (.map (some w.heap.size)) (w.alloc (.map #[] 0)) → Res P base w0 μ ((Instr.makeMap t x).run P w) K := by
    intro hk hr
    have hrel := r.new (o := .map [] 0) (e := ⟨w.heap.size, 0, true, 0, 0⟩) ((Below.refl _ w).alloc (Nat.le_refl _) (.map #[] 0)) (Nat.le_refl _) (by
      refine ⟨r.size, #[], ?_, .nil, .nil, rfl⟩
      show (w.heap.push _)[w.heap.size]? = _
      simp)
    exact ⟨_, _, _, _, _, hr, Ext.app _ _, hrel, .map (e := ⟨w.heap.size, 0, true, 0, 0⟩) (r.last _), hk⟩
  unfold Zqp at hk
  rcases hax with ⟨rfl, rfl⟩ | ⟨v, y, rfl, rfl, hv⟩
  · exact fin hk rfl
  · split at hk
    · rename_i h0; cases h0
    · rename_i h0
      cases h0
      replace hk := Zbo hk
      obtain ⟨hm, hk⟩ := hk
      obtain ⟨kt, et, hu⟩ := Ybj hm
      cases hv
      exact fin hk (by simp only [Instr.makeMap, Sem.run_bind, run_underlying hu, Result.andThen_ok, asInt, Sem.run_pure]; rfl)
    · exact hk.elim
theorem Ymw (r : Rel P base w0 μ h w) {t : TypeId} {a : Zaq} {x : Value} (ha : VR μ a x) {K : Zaq → Zaa → Prop} (hk : Zyk P t a h K) : Res P base w0 μ ((Instr.range t x).run P w) K := by
  unfold Zyk at hk
  split at hk
  · cases ha
    rename_i sb
    replace hk := Zbo hk
    obtain ⟨hs, hk⟩ := hk
    have hs := Zob hs
    have hrel := r.new (o := .iter (bytesOf sb) 0) (e := ⟨w.heap.size, 0, true, 0, 0⟩) ((Below.refl _ w).alloc (Nat.le_refl _) (.stringIter sb 0)) (Nat.le_refl _) (by
      refine ⟨r.size, rfl, sb, rfl, ?_⟩
      show (w.heap.push _)[w.heap.size]? = _
      simp)
    exact ⟨_, _, _, _, _, run_range_string w t sb hs, Ext.app _ _, hrel, .iter (e := ⟨w.heap.size, 0, true, 0, 0⟩) (r.last _) rfl, hk⟩
  · rename_i m
    replace hk := Zbo hk
    obtain ⟨hm, hk⟩ := hk
    obtain ⟨kt, et, hu⟩ := Ybj hm
    rcases Zmt hk with ⟨rfl, hk1⟩ | ⟨i, es, clk, rfl, hi, hk1⟩
    · cases ha
      have hrel := r.new (o := .miter none 0 [] 0) (e := ⟨w.heap.size, 0, true, 0, 0⟩) ((Below.refl _ w).alloc (Nat.le_refl _) (.mapIter none 0 #[] 0)) (Nat.le_refl _) (by
        refine ⟨r.size, rfl, none, ?_, .inl ⟨rfl, rfl⟩⟩
        show (w.heap.push _)[w.heap.size]? = _
        simp)
      exact ⟨_, _, _, _, _, by simp only [Instr.range, Sem.run_bind, run_underlying hu, Result.andThen_ok, Sem.run_pure]; rfl, Ext.app _ _, hrel, .iter (e := ⟨w.heap.size, 0, true, 0, 0⟩) (r.last _) rfl, hk1⟩
    · cases ha with
      | map hmu =>
      rename_i e
      obtain ⟨hb0, ents, hg, hk1', hk2', hk3'⟩ := r.obj i _ hi _ hmu
      have hrel := r.new (o := .miter (some i) clk [] clk) (e := ⟨w.heap.size, 0, true, 0, 0⟩) ((Below.refl _ w).alloc (Nat.le_refl _) (.mapIter (some e.b) clk #[] clk)) (Nat.le_refl _) (by
        refine ⟨r.size, rfl, some e.b, ?_, .inr ⟨i, e, rfl, rfl, Ext.app _ _ _ _ hmu⟩⟩
        show (w.heap.push _)[w.heap.size]? = _
        simp)
      exact ⟨_, _, _, _, _, by simp only [Instr.range, Sem.run_bind, run_underlying hu, Result.andThen_ok, Sem.run_pure, MapKept.run_getObj_map hg]; rfl, Ext.app _ _, hrel, .iter (e := ⟨w.heap.size, 0, true, 0, 0⟩) (r.last _) rfl, hk1⟩
  · exact hk.elim
theorem Yhj {r : Nat} {K : List Nat → Nat → Prop} (hk : Yhv h r K) : ∃ s pos, h[r]? = some (.iter s pos) ∧ K s pos := by
  unfold Yhv at hk
  split at hk
  · rename_i hi; exact ⟨_, _, hi, hk⟩
  · exact hk.elim
theorem Zvk {r : Nat} {K : Option Nat → Nat → List Nat → Nat → Prop} (hk : Zwx h r K) : ∃ m a b c, h[r]? = some (.miter m a b c) ∧ K m a b c := by
  unfold Zwx at hk
  split at hk
  · rename_i hi; exact ⟨_, _, _, _, hi, hk⟩
  · exact hk.elim
theorem VRs.mem2 {α β : Type} {p p' : α → Zaq} {q q' : β → Value} {c : α → Nat} {d : β → Nat} : ∀ {l : List α} {m : List β}, VRs μ (l.map p) (m.map q) → VRs μ (l.map p') (m.map q') → l.map c = m.map d → ∀ y ∈ m, ∃ x ∈ l, VR μ (p x) (q y) ∧ VR μ (p' x) (q' y) ∧ c x = d y
  | [], [], _, _, _, y, hy => by simp at hy
  | [], _ :: _, h, _, _, _, _ => by cases h
  | _ :: _, [], h, _, _, _, _ => by cases h
  | a :: l, b :: m, h, h', hc, y, hy => by
    simp only [List.map_cons] at h h' hc
    cases h with
    | cons h1 h2 =>
    cases h' with
    | cons h1' h2' =>
    simp only [List.cons.injEq] at hc
    rcases List.mem_cons.1 hy with rfl | hy
    · exact ⟨a, by simp, h1, h1', hc.1⟩
    · obtain ⟨x, hx, hr⟩ := VRs.mem2 h2 h2' hc.2 y hy
      exact ⟨x, by simp [hx], hr⟩
theorem Ykk (r : Rel P base w0 μ h w) {a : Zaq} {x : Value} {isStr : Bool} {ty : TypeId} (ha : VR μ a x) {K : Zaq → Zaa → Prop} (hk : Ygp P ty a isStr h K) : Res P base w0 μ ((Instr.next x isStr ty).run P w) K := by
  unfold Ygp at hk
  split at hk
  · rename_i i
    cases ha with
    | iter hmu ho =>
    rename_i e
    split at hk
    · obtain ⟨s, pos, hi, hk⟩ := Yhj hk
      obtain ⟨hb0, ho2, s', rfl, hg⟩ := r.obj i _ hi _ hmu
      have hlt := (Array.getElem?_eq_some_iff.1 hg).1
      have hget : (getObj e.b).run P w = .ok (.stringIter s' pos) w := by simp [getObj, Sem.run, hg]
      have hset : ∀ o, (setObj e.b o).run P w = .ok () { w with heap := w.heap.setIfInBounds e.b o } := fun o => by simp [setObj, Sem.run, hg]
      by_cases hp : pos < s'.size
      · obtain ⟨hc, hk⟩ := hk.1 (by rw [Zea]; exact hp)
        have hby : (bytesOf s').getD pos 0 = (s'[pos]'hp).toNat := by
          have hlt' : pos < s'.data.size := hp
          have hq : s'.data[pos]? = some s'[pos] := by rw [Array.getElem?_eq_getElem hlt']; rfl
          simp only [bytesOf, List.getD, List.getElem?_map, Array.getElem?_toList, hq]; rfl
        rw [hby] at hc hk
        have hd := decode_ascii s' pos hp hc
        refine ⟨.tuple #[.bool true, .int .i64 pos, .int .i32 (s'[pos]'hp).toNat], _, μ, _, _, ?_, Ext.refl _, r.over (x := .stringIter s' (pos + 1)) hi rfl hmu hb0 rfl ?_, .tup (.cons (.bool _) (.cons (.int _ _) (.cons (.int _ _) .nil))), hk⟩
        · simp [Instr.next, hget, hp, hd, hset, goInt]
        · exact ⟨hb0, ho2, s', rfl, by simp [hlt]⟩
      · refine ⟨.tuple #[.bool false], w, μ, _, h, ?_, Ext.refl _, r, .tup (.cons (.bool _) .nil), hk.2 (by rw [Zea]; omega)⟩
        simp [Instr.next, hget, hp]
    · obtain ⟨m, since, seen, last, hi, hk⟩ := Zvk hk
      obtain ⟨hb0, ho2, m', hg, hm⟩ := r.obj i _ hi _ hmu
      have hlt := (Array.getElem?_eq_some_iff.1 hg).1
      rcases hm with ⟨rfl, rfl⟩ | ⟨mi, p, rfl, rfl, hmp⟩
      · refine ⟨.tuple #[.bool false], w, μ, _, h, ?_, Ext.refl _, r, .tup (.cons (.bool _) .nil), hk⟩
        have hget : (getObj e.b).run P w = .ok (.mapIter none since seen.toArray last) w := by simp [getObj, Sem.run, hg]
        simp [Instr.next, hget]
      · obtain ⟨es, clk, hmi, hk⟩ := Zjo hk
        obtain ⟨hb1, ents, hg1, hk1', hk2', hk3'⟩ := r.obj mi _ hmi _ hmp
        obtain ⟨⟨hold, hsl⟩, hover, hstep⟩ := hk
        have hborn : ∀ y ∈ ents.toList, ∃ x ∈ es, VR μ x.1 y.key ∧ VR μ x.2.1 y.val ∧ x.2.2 = y.born := VRs.mem2 (p := fun (x : ME) => x.1) (p' := fun (x : ME) => x.2.1) (q := fun (x : MapEntry) => x.key) (q' := fun (x : MapEntry) => x.val) (c := fun (x : ME) => x.2.2) (d := fun (x : MapEntry) => x.born) hk1' hk2' hk3'
        rcases run_next_at (P := P) w ty e.b p.b since last seen.toArray ents clk hg hg1 (fun y hy => by obtain ⟨x, hx, _, _, hb⟩ := hborn y hy; rw [← hb]; exact hold x hx) hsl with ⟨hz, hr⟩ | ⟨en, hen, w1, hw1, hr⟩
        · refine ⟨_, _, μ, _, h, hr, Ext.refl _, r, .tup (.cons (.bool _) .nil), hover ?_⟩
          intro x hx
          have hmem : x.2.2 ∈ ents.toList.map (·.born) := by rw [← hk3']; exact List.mem_map_of_mem hx
          obtain ⟨y, hy, hyb⟩ := List.mem_map.1 hmem
          have he : leftOf ents seen.toArray = #[] := Array.eq_empty_of_size_eq_zero hz
          unfold leftOf at he
          rw [Array.filter_eq_empty_iff] at he
          have := he y (by simpa using hy)
          rw [← hyb]; simpa using this
        · have hen' : en ∈ ents.toList ∧ en.born ∉ seen := by
            unfold leftOf at hen
            simpa using hen
          obtain ⟨x, hx, hxk, hxv, hxb⟩ := hborn en hen'.1
          have hr1 : Rel P base w0 μ h w1 := by
            rcases hw1 with rfl | rfl
            · exact r
            · exact r.grow ⟨rfl, rfl, rfl, Nat.le_refl _, fun _ _ => rfl⟩
          have hwh : w1.heap = w.heap := by rcases hw1 with rfl | rfl <;> rfl
          have hst := hstep x hx (by rw [hxb]; exact hen'.2)
          obtain ⟨a1, ha1, hst⟩ := Zkd hst
          obtain ⟨b1, hb1, hst⟩ := Zkd hst
          cases ha1; cases hb1
          refine ⟨_, _, μ, _, _, hr, Ext.refl _, hr1.over (x := .mapIter (some p.b) since (seen.toArray.push en.born) clk) hi rfl hmu hb0 rfl ?_, .tup (.cons (.bool _) (.cons hxk (.cons hxv .nil))), hst⟩
          refine ⟨hb0, ho2, some p.b, by simp [hwh, hlt, hxb], .inr ⟨mi, p, rfl, rfl, hmp⟩⟩
  · exact hk.elim
theorem Ynz (r : Rel P base w0 μ h w) {a : Zaq} {x : Value} (ha : VR μ a x) {K : Zaq → Prop} {ty : TypeId} (hk : Zyq P ty a h K) : ∃ y v, (Instr.entry x).run P w = .ok y w ∧ VR μ v y ∧ K v := by
  unfold Zyq at hk
  split at hk
  · rename_i i
    cases ha with
    | iter hmu ho =>
    rename_i e
    obtain ⟨m, since, seen, last, hi, hk⟩ := Zvk hk
    unfold xMp at hk
    split at hk
    · rename_i mi
      obtain ⟨es, clk, hmi, ⟨hnd, rfl⟩, x, hx, s0, rfl, hkK⟩ := Zjo hk
      obtain ⟨hb0, ho2, m', hg, hm⟩ := r.obj i _ hi _ hmu
      rcases hm with ⟨h0, _⟩ | ⟨mi', p, h0, rfl, hmp⟩
      · cases h0
      · cases h0
        obtain ⟨hb1, ents, hg1, hk1', hk2', hk3'⟩ := r.obj mi _ hmi _ hmp
        obtain ⟨a1, ha1, hkK⟩ := Zkd hkK
        obtain ⟨b1, hb1, hkK⟩ := Zkd hkK
        cases ha1; cases hb1
        have hmem : x.2.2 ∈ ents.toList.map (·.born) := by rw [← hk3']; exact List.mem_map_of_mem hx
        obtain ⟨y, hy, hyb⟩ := List.mem_map.1 hmem
        obtain ⟨x', hx', hxk, hxv, hxb⟩ := VRs.mem2 (p := fun (x : ME) => x.1) (p' := fun (x : ME) => x.2.1) (q := fun (x : MapEntry) => x.key) (q' := fun (x : MapEntry) => x.val) (c := fun (x : ME) => x.2.2) (d := fun (x : MapEntry) => x.born) hk1' hk2' hk3' y hy
        have hxx : x' = x := by
          obtain ⟨j, hj⟩ := List.getElem?_of_mem hx
          obtain ⟨j', hj'⟩ := List.getElem?_of_mem hx'
          have e1 : (es.map (·.2.2))[j]? = some x.2.2 := by rw [List.getElem?_map, hj]; rfl
          have e2 : (es.map (·.2.2))[j']? = some x.2.2 := by rw [List.getElem?_map, hj', Option.map_some, hxb, hyb]
          have := (List.getElem?_inj (List.getElem?_eq_some_iff.1 e1).1 hnd).1 (e1.trans e2.symm)
          subst this
          rw [hj] at hj'; cases hj'; rfl
        subst hxx
        have hr := run_entry_at (P := P) w e.b p.b since s0.toArray ents clk y (by rw [← hyb] at hg; simpa using hg) hg1 hy (by rw [← hk3']; exact hnd)
        exact ⟨_, _, hr, .tup (.cons hxk (.cons hxv .nil)), hkK⟩
    · exact hk.elim
  · exact hk.elim
end
end Go.Sim

set_option linter.unusedSimpArgs false
namespace Go.Sim
open Go Go.RowKit

def Yey (P : Program) (t : TypeId) (h : Zaa) (s : Zaq) (K : Zaq → Zaa → Prop) : Prop :=
  match P.underlying t with
  | some (.slice e) => (match s with
    | .slice a n _ _ => (n = 0 → K (.tup []) h) ∧ (n ≠ 0 → Zce (Zzk P e) fun z => chk (z.all Zaq.leaf = true ∧ 0 < z.length) (Zbw (Zbc h (.ptr a) (reps n z)) fun h' => K (.tup []) h'))
    | _ => False)
  | _ => False
section
variable {P : Program} {base : Nat} {w0 : World} {μ : List Pl} {h : Zaa} {w : World}
theorem Ynb (r : Rel P base w0 μ h w) {i o : Nat} {e : Pl} (hmu : μ[i]? = some e) {vs : List Zaq} {ys : List Value} (hvs : VRs μ vs ys) (h1 : ∀ y ∈ ys, y.oneCell' = true) {h' : Zaa} (hst : Zbc h (.ptr (some (i, o))) vs = some h') :
    ∃ w', (storeCells ⟨e.b, e.o + o, none⟩ ys).run P w = .ok () w' ∧ Rel P base w0 μ h' w' := by
  simp only [Zbc] at hst
  · split at hst
    · rename_i et cs hi
      split at hst
      · rename_i hle
        cases hst
        have hobj := r.obj i _ hi e hmu
        obtain ⟨C, el, fr, hg, hcs, hown⟩ := hobj
        simp only [Bool.false_eq_true, if_false] at hown
        obtain ⟨ho1, ho0, rfl, rfl, hn, hcz, hbase⟩ := hown
        have hlen := hvs.length
        have hcl := hcs.length
        have hCl : cs.length ≤ C.size := by simp at hcl; omega
        rw [ho0] at hcs
        simp only [List.drop_zero] at hcs
        have hfit : (e.o + o) + 0 + ys.length ≤ C.size := by rw [← hlen, ho0]; omega
        have hst := run_storeCells_at (P := P) e.b (e.o + o) el ys 0 C w hg hfit h1
        simp only [Nat.add_zero] at hst
        refine ⟨w.setRow e.b (C.toList.take (e.o + o) ++ ys ++ C.toList.drop (e.o + o + ys.length)).toArray, hst, ?_⟩
        refine r.change (o := .cells el cs false) hi rfl hmu ⟨rfl, rfl, rfl, by simp [World.setRow], fun k hk => setRow_other w e.b k _ (by omega)⟩ (fun k hk _ => setRow_other w e.b k _ hk) ?_ (.inl rfl)
        refine ⟨_, el, (0, 0), setRow_heap w e.b C _ el _ hg, ?_, ?_⟩
        · have hpl : (putRow cs o vs).length = cs.length := by simp [putRow]; omega
          rw [hpl, ho0]
          simp only [List.drop_zero, Nat.zero_add]
          have := hcs.put hvs o
          have e2 : ((C.toList.take o ++ ys ++ C.toList.drop (o + ys.length)).take cs.length) = ((C.toList.take cs.length).take o ++ ys ++ (C.toList.take cs.length).drop (o + ys.length)) := by
            apply List.ext_getElem?
            intro j
            simp only [List.getElem?_take, List.getElem?_append, List.length_append, List.length_take, List.getElem?_drop, Array.length_toList]
            have := hlen
            by_cases h1 : j < cs.length <;> by_cases h2 : j < o <;> simp [h1, h2] <;> (try omega) <;> (repeat' split) <;> (try omega) <;> (try rfl) <;> (try (congr 1; omega))
          rw [e2]; exact this
        · simp only [Bool.false_eq_true, if_false]
          refine ⟨ho1, ho0, trivial, trivial, ?_, hcz, hbase⟩
          simp only [List.size_toArray, List.length_append, List.length_take, List.length_drop, Array.length_toList] at hfit ⊢
          omega
      · cases hst
    · cases hst
theorem Ynj (r : Rel P base w0 μ h w) {t ty : TypeId} {s : Zaq} {x : Value} (hs : VR μ s x) {K : Zaq → Zaa → Prop} (hk : Yey P t h s K) :
    Res P base w0 μ ((Builtin.clear_ #[t] ty #[x]).run P w) K := by
  unfold Yey at hk
  split at hk
  · rename_i e hu
    split at hk
    · rename_i a n c ex
      obtain ⟨k0, k1⟩ := hk
      by_cases hn : n = 0
      · subst hn
        refine ⟨.tuple #[], w, μ, .tup [], h, ?_, Ext.refl _, r, .tup .nil, k0 rfl⟩
        cases hs <;> first | (simp [Builtin.clear_, run_underlying hu]; done) | (rename_i aa; cases aa <;> simp [Builtin.clear_, run_underlying hu]; done) | (rename_i aa bb; cases aa <;> simp [Builtin.clear_, run_underlying hu]; done) | (rename_i aa bb; cases bb <;> simp [Builtin.clear_, run_underlying hu]; done)
      · obtain ⟨z, hz, hk⟩ := Zgw (k1 hn)
        replace hk := Zbo hk; obtain ⟨⟨hl, hpos⟩, hk⟩ := hk
        obtain ⟨ii, zv, _, _, hzv, hzr⟩ := Ztw (μ := μ) hz
        unfold Zbw at hk
        split at hk
        · rename_i h' hst
          have hsz : 0 < zv.cells.size := by have := hzv.length; simp at this; omega
          have hv := hzv.reps n
          rw [← Zvc n zv.cells hsz] at hv
          cases hs with
          | slice hmu hle1 hle2 he1 he2 =>
            have h1 : ∀ y ∈ (Builtin.zeroCells zv.cells n).toList, y.oneCell' = true := by
              intro y hy
              have hall := hzv.leaf1 hl
              have hy' : y ∈ (List.replicate n zv.cells.toList).flatten := by rw [← Zvc n zv.cells hsz]; exact hy
              obtain ⟨l, hl1, hl2⟩ := List.mem_flatten.1 hy'
              rw [List.mem_replicate] at hl1
              rw [hl1.2] at hl2
              exact hall y hl2
            obtain ⟨w', hr, hrel⟩ := Ynb r hmu (ys := (Builtin.zeroCells zv.cells n).toList) hv h1 hst
            refine ⟨.tuple #[], w', μ, .tup [], h', ?_, Ext.refl _, hrel, .tup .nil, hk⟩
            obtain ⟨m, rfl⟩ : ∃ m, n = m + 1 := ⟨n - 1, by omega⟩
            simp [Builtin.clear_, run_underlying hu, hzr w, hr]
          | _ => first | omega | simp [Zbc] at hst
        · exact hk.elim
    · exact hk.elim
  · exact hk.elim
end
end Go.Sim

set_option linter.unusedSimpArgs false
namespace Go.Sim
open Go Go.RowKit

def Zkh (h : Zaa) (i : Nat) : Bool := match h[i]? with | some (.cells _ _ false) => true | _ => false
def Zpf (P : Program) (t : TypeId) : Bool := match P.underlying t with | some (.pointer e) => (match P.info? e with | some j => !(Nat.beq j.size 0) | none => false) | _ => false
def Ysq (h : Zaa) (p q : Nat × Nat) (K : Bool → Prop) : Prop := (p = q ∧ K true) ∨ (p.1 ≠ q.1 ∧ Zkh h p.1 = true ∧ Zkh h q.1 = true ∧ K false)
def Zwn (h : Zaa) (a b : Option (Nat × Nat)) (K : Bool → Prop) : Prop :=
  match b with | none => K a.isNone | some q => (match a with | none => K false | some p => Ysq h p q K)
def Ypf (P : Program) (op : BinOp) (t : TypeId) (h : Zaa) (a b : Option (Nat × Nat)) (K : Zaq → Zaa → Prop) : Prop :=
  match op with
  | .eql => chk (Zpf P t = true) (Zwn h a b fun e => K (.bool e) h)
  | .neq => chk (Zpf P t = true) (Zwn h a b fun e => K (.bool (!e)) h)
  | _ => False
def Zxm (h : Zaa) : List ME → (Nat × Nat) → Nat → Option (Option (Nat × Zaq))
  | [], _, _ => some none
  | (.ptr (some q), v, _) :: r, p, i => if p = q then some (some (i, v)) else if p.1 ≠ q.1 ∧ Zkh h p.1 = true ∧ Zkh h q.1 = true then Zxm h r p (i + 1) else none
  | _ :: _, _, _ => none
def Yik (r : Option (Option (Nat × Zaq))) (K : Option Zaq → Prop) : Prop := match r with | some (some (_, v)) => K (some v) | some none => K none | none => False
def Yrg (r : Option (Option (Nat × Zaq))) (es : List ME) (clk : Nat) (p : Nat × Nat) (v : Zaq) (K : List ME → Nat → Prop) : Prop :=
  match r with
  | some (some (i, _)) => K (es.modify i fun e => (.ptr (some p), v, e.2.2)) clk
  | some none => K (es ++ [(.ptr (some p), v, clk)]) (clk + 1)
  | none => False
def Yrp (r : Option (Option (Nat × Zaq))) (es : List ME) (K : List ME → Prop) : Prop := match r with | some (some (i, _)) => K (es.eraseIdx i) | some none => K es | none => False
def okV (ok : Bool) (r : Option Zaq) (v : Zaq) : Zaq := match ok with | true => .tup [v, .bool r.isSome] | false => v
def Zqx (P : Program) (t : TypeId) (h : Zaa) (m k : Zaq) (ok : Bool) (K : Zaq → Prop) : Prop :=
  match P.underlying t with
  | some (.map kt et) => chk (Zpf P kt = true ∧ isAgg P et = false) (match m with
    | .map a => Zhs (some k) fun q => Zbf q fun i o => Zxl (Ynt P et) fun z => Zgd h a fun es _ => Yik (Zxm h es (i, o) 0) fun r => xv (Zlr P et) (some (r.getD z)) fun v => K (okV ok r v)
    | _ => False)
  | _ => False
def Zkr (P : Program) (t : TypeId) (h : Zaa) (m k v : Zaq) (K : Zaq → Zaa → Prop) : Prop :=
  match P.underlying t with
  | some (.map kt _) => chk (Zpf P kt = true) (match m with
    | .map a => xMp a fun mi => Zhs (some k) fun q => Zbf q fun i o => Zgd h (some mi) fun es clk => Yrg (Zxm h es (i, o) 0) es clk (i, o) v fun es' clk' => K .undef (h.set mi (.map es' clk'))
    | _ => False)
  | _ => False
def Ztm (P : Program) (t : TypeId) (h : Zaa) (m k : Zaq) (K : Zaq → Zaa → Prop) : Prop :=
  match P.underlying t with
  | some (.map kt _) => chk (Zpf P kt = true) (match m with
    | .map a => xMp a fun mi => Zhs (some k) fun q => Zbf q fun i o => Zgd h (some mi) fun es clk => Yrp (Zxm h es (i, o) 0) es fun es' => K (.tup []) (h.set mi (.map es' clk))
    | _ => False)
  | _ => False
def Ypa (P : Program) (t : TypeId) : Bool := match P.underlying t with | some (.map kt _) => Zsw P kt | _ => false
def Yor (x : Operand) : Bool := match x with | .const (.pointer none) => true | _ => false

section
variable {P : Program} {base : Nat} {w0 : World} {μ : List Pl} {h : Zaa} {w : World}
theorem Zpv {t : TypeId} (h : Zpf P t = true) : ∃ e j, P.underlying t = some (.pointer e) ∧ P.info? e = some j ∧ j.size ≠ 0 := by
  unfold Zpf at h
  split at h
  · rename_i e he
    split at h
    · rename_i j hj
      refine ⟨e, j, he, hj, fun h0 => ?_⟩
      rw [h0] at h; simp at h
    · cases h
  · cases h
theorem Zse {i : Nat} (hh : Zkh h i = true) : ∃ t cs, h[i]? = some (.cells t cs false) := by
  unfold Zkh at hh
  split at hh
  · rename_i t cs he; exact ⟨t, cs, he⟩
  · cases hh
theorem Yda (r : Rel P base w0 μ h w) {i : Nat} {e : Pl} (he : μ[i]? = some e) (hh : Zkh h i = true) : ∃ C t, w.heap[e.b]? = some (.cells C t (0, 0)) := by
  obtain ⟨t, cs, hi⟩ := Zse hh
  obtain ⟨C, el, fr, h1, _, h3⟩ := r.obj i _ hi e he
  simp only [Bool.false_eq_true, if_false] at h3
  obtain ⟨_, _, _, rfl, _⟩ := h3
  exact ⟨C, el, h1⟩
theorem Yqw (r : Rel P base w0 μ h w) {i j : Nat} {e f : Pl} (he : μ[i]? = some e) (hf : μ[j]? = some f) (hi : Zkh h i = true) (hj : Zkh h j = true) (hne : i ≠ j) : e.b ≠ f.b := by
  obtain ⟨t, cs, h1⟩ := Zse hi
  obtain ⟨t', cs', h2⟩ := Zse hj
  exact r.sep i j _ _ e f hne h1 h2 rfl rfl he hf
theorem Zsy (r : Rel P base w0 μ h w) {t : TypeId} (ht : Zpf P t = true) {a b : Option (Nat × Nat)} {x y : Value} (ha : VR μ (.ptr a) x) (hb : VR μ (.ptr b) y) {K : Bool → Prop} (hk : Zwn h a b K) :
    ∃ e : Bool, (∀ d, (Op.equalIn (d + 1) t x y).run P w = .ok e w) ∧ K e := by
  obtain ⟨te, j, hu, hj, hsz⟩ := Zpv ht
  unfold Zwn at hk
  cases hb with
  | ptr0 =>
    cases ha with
    | ptr0 => exact ⟨true, fun d => by simp [Op.equalIn, run_underlying hu], hk⟩
    | ptr hi => exact ⟨false, fun d => by simp [Op.equalIn, run_underlying hu], hk⟩
  | ptr hf =>
    cases ha with
    | ptr0 => exact ⟨false, fun d => by simp [Op.equalIn, run_underlying hu], hk⟩
    | ptr he =>
      rename_i j1 o1 f i1 o2 e
      rcases hk with ⟨hpq, hk⟩ | ⟨hne, o1', o2', hk⟩
      · cases hpq
        rw [he] at hf; cases hf
        exact ⟨true, fun d => by simp [Op.equalIn, run_underlying hu, sizeOf, typeInfo, hj, run_sameAddr_same], hk⟩
      · obtain ⟨C, t1, h1⟩ := Yda r he o1'
        obtain ⟨C', t2, h2⟩ := Yda r hf o2'
        have hnb := Yqw r he hf o1' o2' hne
        exact ⟨false, fun d => by
          simp [Op.equalIn, run_underlying hu, sizeOf, typeInfo, hj, hsz, run_sameAddr_other w (a := ⟨e.b, e.o + o2, none⟩) (b := ⟨f.b, f.o + o1, none⟩) (fun q => hnb (congrArg Addr.block q)) h1 h2], hk⟩
theorem Yry (r : Rel P base w0 μ h w) {op : BinOp} {t : TypeId} {xo yo : Operand} {a b : Option (Nat × Nat)} {x y : Value} (ha : VR μ (.ptr a) x) (hb : VR μ (.ptr b) y) {K : Zaq → Zaa → Prop} (hk : Ypf P op t h a b K) :
    ∃ e : Bool, (do eqGuard op t xo yo x y; binOp op t x y : Sem Value).run P w = .ok (.bool e) w ∧ K (.bool e) h := by
  have hg : ∀ op', op' = BinOp.eql ∨ op' = BinOp.neq → (eqGuard op' t xo yo x y).run P w = .ok () w := by
    intro op' ho
    rcases ho with rfl | rfl <;> cases ha <;> simp [eqGuard]
  unfold Ypf at hk
  split at hk
  · replace hk := Zbo hk; obtain ⟨ht, hk⟩ := hk
    obtain ⟨e, he, hk⟩ := Zsy r ht ha hb hk
    refine ⟨e, ?_, hk⟩
    simp only [Sem.run_bind, hg _ (.inl rfl), Result.andThen_ok]
    cases ha <;> cases hb <;> (simp only [binOp]; simp [Op.equal, Op.maxDepth, he 9999])
  · replace hk := Zbo hk; obtain ⟨ht, hk⟩ := hk
    obtain ⟨e, he, hk⟩ := Zsy r ht ha hb hk
    refine ⟨!e, ?_, hk⟩
    simp only [Sem.run_bind, hg _ (.inr rfl), Result.andThen_ok]
    cases ha <;> cases hb <;> (simp only [binOp]; simp [Op.equal, Op.maxDepth, he 9999])
  · exact hk.elim
theorem Zkw (r : Rel P base w0 μ h w) {kt : TypeId} (ht : Zpf P kt = true) {i o : Nat} {e : Pl} (hi : μ[i]? = some e) : ∀ {es : List ME} {ents : List MapEntry} {n : Nat} {q : Option (Nat × Zaq)},
    VRs μ (es.map (·.1)) (ents.map (·.key)) → VRs μ (es.map (·.2.1)) (ents.map (·.val)) → Zxm h es (i, o) n = some q →
    (q = none ∧ (Instr.findAsking kt (.pointer (some ⟨e.b, e.o + o, none⟩)) ents n).run P w = .ok none w) ∨
      ∃ j v x k0, q = some (j, v) ∧ n ≤ j ∧ VR μ v x ∧ (Instr.findAsking kt (.pointer (some ⟨e.b, e.o + o, none⟩)) ents n).run P w = .ok (some (j, x)) w ∧ ents[j - n]? = some k0 ∧ k0.key = .pointer (some ⟨e.b, e.o + o, none⟩)
  | [], [], n, q, _, _, hf => by simp [Zxm] at hf; subst hf; exact .inl ⟨rfl, by simp [Instr.findAsking]⟩
  | [], _ :: _, n, q, hk, _, _ => by cases hk
  | _ :: _, [], n, q, hk, _, _ => by cases hk
  | (k, v, b) :: es, en :: ents, n, q, hk, hv, hf => by
    simp only [List.map_cons] at hk hv
    cases hk with
    | cons hk1 hk2 =>
    cases hv with
    | cons hv1 hv2 =>
    cases k with
    | ptr a =>
      cases a with
      | none => simp [Zxm] at hf
      | some p =>
        simp only [Zxm] at hf
        generalize hek : en.key = ek at hk1
        have hx : VR μ (.ptr (some (i, o))) (.pointer (some ⟨e.b, e.o + o, none⟩)) := .ptr hi
        by_cases hpq : (i, o) = p
        · rw [if_pos hpq] at hf
          cases hf
          obtain ⟨c, hc, hke⟩ := Zsy (K := fun c => c = true) r ht hx hk1 (by subst hpq; exact .inl ⟨rfl, rfl⟩)
          subst hke
          have hkey : en.key = .pointer (some ⟨e.b, e.o + o, none⟩) := by
            subst hpq
            cases hk1 with
            | ptr hf2 => rw [hi] at hf2; cases hf2; exact hek
          refine .inr ⟨n, v, en.val, en, rfl, Nat.le_refl _, hv1, ?_, by simp, hkey⟩
          unfold Instr.findAsking
          simp [Op.equal, Op.maxDepth, hek, hc 9999]
        · rw [if_neg hpq] at hf
          by_cases hne : (i, o).1 ≠ p.1 ∧ Zkh h (i, o).1 = true ∧ Zkh h p.1 = true
          · rw [if_pos hne] at hf
            obtain ⟨c, hc, hke⟩ := Zsy (K := fun c => c = false) r ht hx hk1 (.inr ⟨hne.1, hne.2.1, hne.2.2, rfl⟩)
            subst hke
            have step : (Instr.findAsking kt (.pointer (some ⟨e.b, e.o + o, none⟩)) (en :: ents) n).run P w = (Instr.findAsking kt (.pointer (some ⟨e.b, e.o + o, none⟩)) ents (n + 1)).run P w := by
              conv => lhs; unfold Instr.findAsking
              simp [Op.equal, Op.maxDepth, hek, hc 9999]
            rcases Zkw r ht hi hk2 hv2 hf with ⟨h1, h2⟩ | ⟨j, v', x, k0, h1, h2, h3, h4, h5, h6⟩
            · exact .inl ⟨h1, by rw [step, h2]⟩
            · refine .inr ⟨j, v', x, k0, h1, by omega, h3, by rw [step, h4], ?_, h6⟩
              rw [show j - n = (j - (n + 1)) + 1 by omega]; simpa using h5
          · rw [if_neg hne] at hf; cases hf
    | _ => simp [Zxm] at hf
theorem Zgm {kt te : TypeId} (hu : P.underlying kt = some (.pointer te)) (x : Value) (es : List MapEntry) : (Instr.findKey kt x es).run P w = (Instr.findAsking kt x es).run P w := by
  cases es with
  | nil => simp [Instr.findKey, run_underlying hu, Instr.findNow, Instr.findAsking]
  | cons e es => simp [Instr.findKey, run_underlying hu, Instr.findNow, Instr.sameNow]
theorem Zps {kt te : TypeId} (hu : P.underlying kt = some (.pointer te)) (x : Option Addr) (b : Bool) : (Instr.checkKey b 10000 kt (.pointer x)).run P w = .ok () w := by
  unfold Instr.checkKey
  simp [run_underlying hu]
theorem Ztp {o : Option Zaq} {K : Option (Nat × Nat) → Prop} (h : Zhs o K) : ∃ s, o = some (.ptr s) ∧ K s := by
  unfold Zhs at h; split at h
  · exact ⟨_, rfl, h⟩
  · exact h.elim
theorem Zsc {a : Option (Nat × Nat)} {K : Nat → Nat → Prop} (h : Zbf a K) : ∃ i o, a = some (i, o) ∧ K i o := by
  unfold Zbf at h; split at h
  · exact ⟨_, _, rfl, h⟩
  · exact h.elim
theorem Yid (r : Rel P base w0 μ h w) {t : TypeId} {a k : Zaq} {x y : Value} {ok : Bool} (ha : VR μ a x) (hkk : VR μ k y) {K : Zaq → Prop} (hk : Zqx P t h a k ok K) :
    ∃ z v, (Instr.lookup t x y ok).run P w = .ok z w ∧ VR μ v z ∧ K v := by
  unfold Zqx at hk
  split at hk
  · rename_i kt et hu
    replace hk := Zbo hk
    obtain ⟨⟨hs, hag⟩, hk⟩ := hk
    obtain ⟨te, tj, hkt, _⟩ := Zpv hs
    split at hk
    · rename_i m
      obtain ⟨q, hq, hk⟩ := Ztp hk
      cases hq
      obtain ⟨i, o, rfl, hk⟩ := Zsc hk
      obtain ⟨z0, hz, hk⟩ := Zjx hk
      obtain ⟨zv, hzv1, hzr⟩ := Yfw (μ := μ) hz
      cases hkk with
      | ptr hi =>
      rename_i e
      have hchk : ∀ b, (Instr.checkKey b 10000 kt (.pointer (some ⟨e.b, e.o + o, none⟩))).run P w = .ok () w := fun b => Zps hkt _ b
      rcases Zmt hk with ⟨rfl, hk1⟩ | ⟨i', es, clk, rfl, hi', hk1⟩
      · cases ha
        simp only [Yik, Zxm] at hk1
        obtain ⟨v, hv, hk2⟩ := Zkd hk1
        cases hv
        have hfk : (Instr.findKey kt (.pointer (some ⟨e.b, e.o + o, none⟩)) []).run P w = .ok none w := by rw [Zgm hkt]; simp [Instr.findAsking]
        cases ok
        · exact ⟨zv, _, by simp [Instr.lookup, run_underlying hu, hchk, hfk, hzr w], hzv1, hk2⟩
        · exact ⟨.tuple #[zv, .bool false], _, by simp [Instr.lookup, run_underlying hu, hchk, hfk, hzr w], .tup (.cons hzv1 (.cons (.bool _) .nil)), hk2⟩
      · cases ha with
        | map hmu =>
        obtain ⟨hb0, ents, hg, hk1', hk2', hk3'⟩ := r.obj i' _ hi' _ hmu
        unfold Yik at hk1
        split at hk1
        · rename_i j v hf
          obtain ⟨v1, hv, hl⟩ := Zkd hk1
          cases hv
          rcases Zkw r hs hi hk1' hk2' hf with ⟨h1, _⟩ | ⟨j', v', x', k0, h1, _, h3, h4, _⟩
          · cases h1
          · cases h1
            cases ok
            · exact ⟨x', _, by simp [Instr.lookup, run_underlying hu, MapKept.run_getObj_map hg, hchk, Zgm hkt, h4], h3, hl⟩
            · exact ⟨.tuple #[x', .bool true], _, by simp [Instr.lookup, run_underlying hu, MapKept.run_getObj_map hg, hchk, Zgm hkt, h4], .tup (.cons h3 (.cons (.bool _) .nil)), hl⟩
        · rename_i hf
          obtain ⟨v1, hv, hl⟩ := Zkd hk1
          cases hv
          rcases Zkw r hs hi hk1' hk2' hf with ⟨_, h4⟩ | ⟨j', v', x', k0, h1, _⟩
          · cases ok
            · exact ⟨zv, _, by simp [Instr.lookup, run_underlying hu, MapKept.run_getObj_map hg, hchk, Zgm hkt, h4, hzr w], hzv1, hl⟩
            · exact ⟨.tuple #[zv, .bool false], _, by simp [Instr.lookup, run_underlying hu, MapKept.run_getObj_map hg, hchk, Zgm hkt, h4, hzr w], .tup (.cons hzv1 (.cons (.bool _) .nil)), hl⟩
          · cases h1
        · exact hk1.elim
    · exact hk.elim
  · exact hk.elim
theorem Yac (r : Rel P base w0 μ h w) {t : TypeId} {a k v : Zaq} {x y z : Value} (ha : VR μ a x) (hkk : VR μ k y) (hv : VR μ v z) {K : Zaq → Zaa → Prop} (hk : Zkr P t h a k v K) :
    ∃ w' h', (Instr.mapUpdate t x y z).run P w = .ok () w' ∧ Rel P base w0 μ h' w' ∧ K .undef h' := by
  unfold Zkr at hk
  split at hk
  · rename_i kt et hu
    replace hk := Zbo hk
    obtain ⟨hs, hk⟩ := hk
    obtain ⟨te, tj, hkt, _⟩ := Zpv hs
    split at hk
    · rename_i m
      unfold xMp at hk
      split at hk
      · rename_i mi
        obtain ⟨q, hq, hk⟩ := Ztp hk
        cases hq
        obtain ⟨i, o, rfl, hk⟩ := Zsc hk
        cases hkk with
        | ptr hi =>
        rename_i e0
        obtain ⟨es, clk, hi', hk1⟩ := Zjo hk
        cases ha with
        | map hmu =>
        rename_i e
        obtain ⟨hb0, ents, hg, hk1', hk2', hk3'⟩ := r.obj mi _ hi' _ hmu
        have hchk : (Instr.checkKey false 10000 kt (.pointer (some ⟨e0.b, e0.o + o, none⟩))).run P w = .ok () w := Zps hkt _ false
        have hlt := (Array.getElem?_eq_some_iff.1 hg).1
        have hkv : VR μ (.ptr (some (i, o))) (.pointer (some ⟨e0.b, e0.o + o, none⟩)) := .ptr hi
        unfold Yrg at hk1
        split at hk1
        · rename_i j v0 hf
          rcases Zkw r hs hi hk1' hk2' hf with ⟨h1, _⟩ | ⟨j', v', x', k0, h1, _, h3, h4, h5, h6⟩
          · cases h1
          · cases h1
            have hj' : ents[j]? = some k0 := by simpa using h5
            have hst : ∀ w : World, (Instr.keyThatStays k0.key (.pointer (some ⟨e0.b, e0.o + o, none⟩))).run P w = .ok (.pointer (some ⟨e0.b, e0.o + o, none⟩)) w := fun w => by
              rw [h6]; simp [Instr.keyThatStays, Instr.sameBits]
            refine ⟨_, _, ?_, r.over (x := .map (ents.modify j fun e => { e with key := .pointer (some ⟨e0.b, e0.o + o, none⟩), val := z }) clk) hi' rfl hmu hb0 rfl ?_, hk1⟩
            · simp [Instr.mapUpdate, run_underlying hu, MapKept.run_getObj_map hg, hchk, Zgm hkt, h4, hj', hst, MapKept.run_setObj_map _ hg]
            · refine ⟨hb0, ents.modify j fun e => { e with key := .pointer (some ⟨e0.b, e0.o + o, none⟩), val := z }, by simp [hlt], ?_, ?_, ?_⟩
              · rw [Array.toList_modify]; exact VRs.modify (p := fun (x : ME) => x.1) (q := fun (x : MapEntry) => x.key) (v := .ptr (some (i, o))) (k := .pointer (some ⟨e0.b, e0.o + o, none⟩)) hkv (fun _ => rfl) (fun _ => rfl) j hk1'
              · rw [Array.toList_modify]; exact VRs.modify (p := fun (x : ME) => x.2.1) (q := fun (x : MapEntry) => x.val) (v := v) (k := z) hv (fun _ => rfl) (fun _ => rfl) j hk2'
              · rw [Array.toList_modify, Zhg (p := fun (x : ME) => x.2.2) (f := fun e => (.ptr (some (i, o)), v, e.2.2)) (fun _ => rfl) es j, Zhg (p := fun (x : MapEntry) => x.born) (f := fun e => { e with key := .pointer (some ⟨e0.b, e0.o + o, none⟩), val := z }) (fun _ => rfl) ents.toList j]; exact hk3'
        · rename_i hf
          rcases Zkw r hs hi hk1' hk2' hf with ⟨_, h4⟩ | ⟨j', v', x', k0, h1, _⟩
          · refine ⟨_, _, ?_, r.over (x := .map (ents.push { key := .pointer (some ⟨e0.b, e0.o + o, none⟩), val := z, born := clk }) (clk + 1)) hi' rfl hmu hb0 rfl ?_, hk1⟩
            · simp [Instr.mapUpdate, run_underlying hu, MapKept.run_getObj_map hg, hchk, Zgm hkt, h4, MapKept.run_setObj_map _ hg]
            · refine ⟨hb0, ents.push { key := .pointer (some ⟨e0.b, e0.o + o, none⟩), val := z, born := clk }, by simp [hlt], ?_, ?_, ?_⟩
              · simpa using hk1'.append (.cons hkv .nil)
              · simpa using hk2'.append (.cons hv .nil)
              · simp [hk3']
          · cases h1
        · exact hk1.elim
      · exact hk.elim
    · exact hk.elim
  · exact hk.elim
theorem VRs.erase {vs : List Zaq} {xs : List Value} (hh : VRs μ vs xs) : ∀ (j : Nat), VRs μ (vs.eraseIdx j) (xs.eraseIdx j) := by
  induction vs generalizing xs with
  | nil => intro j; cases hh; exact .nil
  | cons v vs ih =>
    intro j
    cases hh with
    | cons h1 h2 =>
    cases j with
    | zero => exact h2
    | succ j => exact .cons h1 (ih h2 j)
theorem Zgv {α β : Type} (f : α → β) : ∀ (l : List α) (j : Nat), (l.map f).eraseIdx j = (l.eraseIdx j).map f
  | [], j => by simp
  | a :: l, 0 => by simp
  | a :: l, j + 1 => by simp [Zgv f l j]
theorem Ykt (r : Rel P base w0 μ h w) {t ty : TypeId} {ats : Array TypeId} (hat : ats[0]? = some t) {a k : Zaq} {x y : Value} (ha : VR μ a x) (hkk : VR μ k y) {K : Zaq → Zaa → Prop} (hk : Ztm P t h a k K) :
    Res P base w0 μ ((Builtin.delete_ ats ty #[x, y]).run P w) K := by
  unfold Ztm at hk
  split at hk
  · rename_i kt et hu
    replace hk := Zbo hk
    obtain ⟨hs, hk⟩ := hk
    obtain ⟨te, tj, hkt, _⟩ := Zpv hs
    split at hk
    · rename_i m
      unfold xMp at hk
      split at hk
      · rename_i mi
        obtain ⟨q, hq, hk⟩ := Ztp hk
        cases hq
        obtain ⟨i, o, rfl, hk⟩ := Zsc hk
        cases hkk with
        | ptr hi =>
        rename_i e0
        obtain ⟨es, clk, hi', hk1⟩ := Zjo hk
        cases ha with
        | map hmu =>
        rename_i e
        obtain ⟨hb0, ents, hg, hk1', hk2', hk3'⟩ := r.obj mi _ hi' _ hmu
        have hchk : ∀ b, (Instr.checkKey b 10000 kt (.pointer (some ⟨e0.b, e0.o + o, none⟩))).run P w = .ok () w := fun b => Zps hkt _ b
        have hlt := (Array.getElem?_eq_some_iff.1 hg).1
        unfold Yrp at hk1
        split at hk1
        · rename_i j v0 hf
          rcases Zkw r hs hi hk1' hk2' hf with ⟨h1, _⟩ | ⟨j', v', x', k0, h1, _, h3, h4, h5, h6⟩
          · cases h1
          · cases h1
            have hjl : j < ents.size := by have := (List.getElem?_eq_some_iff.1 h5).1; simpa using this
            have htl : (ents.eraseIdxIfInBounds j).toList = ents.toList.eraseIdx j := by simp [Array.eraseIdxIfInBounds, hjl]
            refine ⟨.tuple #[], _, μ, .tup [], _, ?_, Ext.refl _, r.over (x := .map (ents.eraseIdxIfInBounds j) clk) hi' rfl hmu hb0 rfl ?_, .tup .nil, hk1⟩
            · simp [Builtin.delete_, hat, run_underlying hu, MapKept.run_getObj_map hg, hchk, Zgm hkt, h4, MapKept.run_setObj_map _ hg]
            · refine ⟨hb0, ents.eraseIdxIfInBounds j, by simp [hlt], ?_, ?_, ?_⟩
              · rw [htl, ← Zgv, ← Zgv]; exact hk1'.erase j
              · rw [htl, ← Zgv, ← Zgv]; exact hk2'.erase j
              · rw [htl, ← Zgv, ← Zgv, hk3']
        · rename_i hf
          rcases Zkw r hs hi hk1' hk2' hf with ⟨_, h4⟩ | ⟨j', v', x', k0, h1, _⟩
          · refine ⟨.tuple #[], _, μ, .tup [], _, ?_, Ext.refl _, r.over (x := .map ents clk) hi' rfl hmu hb0 rfl ?_, .tup .nil, hk1⟩
            · simp [Builtin.delete_, hat, run_underlying hu, MapKept.run_getObj_map hg, hchk, Zgm hkt, h4, MapKept.run_setObj_map _ hg]
            · exact ⟨hb0, ents, by simp [hlt], hk1', hk2', hk3'⟩
          · cases h1
        · exact hk1.elim
      · exact hk.elim
    · exact hk.elim
  · exact hk.elim
end
end Go.Sim

set_option linter.unusedSimpArgs false
namespace Go.Sim
open Go Go.RowKit

structure Zag (P : Program) (n : FuncId) (args : List Zaq) (h : Zaa) (Q : Zaq → Zaa → Prop) : Prop where
  able : ∃ fn, P.funcs[n]? = some fn ∧ fn.body.isSome = true ∧ (fn.name == "runtime.NumGoroutine") = false
  calls : ∀ (base : Nat) (w0 : World) (μ : List Pl) (w : World) (xs : Array Value), Rel P base w0 μ h w → VRs μ args xs.toList →
    Calls P n xs w fun e w' => ∃ x μ' v h', e = .returned x ∧ Ext μ μ' ∧ Rel P base w0 μ' h' w' ∧ VR μ' v x ∧ Q v h'
theorem Zag.mono {P : Program} {n : FuncId} {args : List Zaq} {h : Zaa} {Q Q' : Zaq → Zaa → Prop} (hc : Zag P n args h Q) (hq : ∀ v h', Q v h' → Q' v h') : Zag P n args h Q' :=
  ⟨hc.1, fun base w0 μ w xs r hx => (hc.2 base w0 μ w xs r hx).mono fun _ _ ⟨x, μ', v, h', a, b, c, d, q⟩ => ⟨x, μ', v, h', a, b, c, d, hq _ _ q⟩⟩

def rts (P : Program) (f : FuncId) : List TypeId := match P.funcs[f]? with | some fn => fn.resultTypes.toList | none => []
def Yrr (P : Program) (f : FuncId) (args : List Zaq) (h : Zaa) (K : Zaq → Zaa → Prop) : Prop := Zag P f args h fun v h' => Ypq P (rts P f) v fun v => K v h'
def Yqy (v : Zaq) (K : FuncId → List Zaq → Prop) : Prop := match v with | .fn g caps => K g caps | _ => False
def Ytm (P : Program) (t : TypeId) : List TypeId := match P.underlying t with | some (.tuple ts) => ts.toList | _ => [t]
def Ysw (P : Program) (t : TypeId) (v : Zaq) (args : List Zaq) (h : Zaa) (K : Zaq → Zaa → Prop) : Prop := Yqy v fun g caps => Zag P g (args ++ caps) h fun v h' => Ypq P (Ytm P t) v fun v => K v h'
def Ylw (P : Program) (env : Env) (h : Zaa) (o : Oper) (c : Call) (K : Zaq → Zaa → Prop) : Prop :=
  match c.callee with
  | .value f => (match f with
    | .func g => Yrr P g (c.args.toList.map (ev env) ++ []) h K
    | f => Ysw P o.type (ev env f) (c.args.toList.map (ev env)) h K)
  | .builtin .append => (match c.argTypes.toList with
    | [t, u] => chk (u = t) (match c.args.toList.map (ev env) with | [s, x] => Zcs P t h s x fun v h' => xv .slice (some v) fun v => K v h' | _ => False)
    | _ => False)
  | .builtin .min => (match c.args.toList.map (ev env) with | [x, y] => Yqr x y fun v => K v h | _ => False)
  | .builtin .clear => (match c.argTypes.toList with
    | [t] => (match c.args.toList.map (ev env) with | [x] => Yey P t h x K | _ => False)
    | _ => False)
  | .builtin .delete => (match c.argTypes.toList with
    | t :: _ => (match c.args.toList.map (ev env) with | [m, k] => Ztm P t h m k K | _ => False)
    | _ => False)
  | _ => Zpx P env o fun v => K v h
def opA (P : Program) (env : Env) (h : Zaa) (o : Oper) (K : Zaq → Zaa → Prop) : Prop :=
  match o.op with
  | .load t a => chk ((P.underlying t).isSome = true) (Zux P t h (ev env a) fun v => K v h)
  | .store t a x => chk ((P.underlying t).isSome = true) (Zyt P t h (ev env a) (ev env x) fun h' => K .undef h')
  | .alloc t => Yow P t h K
  | .box t x => Yth t h (ev env x) K
  | .build t ps => Yjn P t (parts env ps) fun v => K v h
  | .buildSlice t n ps => Zol P t n (parts env ps) h K
  | .call c => Ylw P env h o c K
  | .makeSlice t l c => Zly P t (ev env l) (ev env c) h K
  | .makeMap t r => Zqp P t (r.map (ev env)) h K
  | .lookup t x i ok => (match Ypa P t with | true => Zqx P t h (ev env x) (ev env i) ok fun v => K v h | false => Zuf P t h (ev env x) (ev env i) ok fun v => K v h)
  | .mapUpdate t m k v => (match Ypa P t with | true => Zkr P t h (ev env m) (ev env k) (ev env v) K | false => Zlz P t h (ev env m) (ev env k) (ev env v) K)
  | .range t x => Zyk P t (ev env x) h K
  | .next x st => Ygp P o.type (ev env x) st h K
  | .entry x => Zyq P o.type (ev env x) h fun v => K v h
  | .convert s d x => (match Yhu P s with | true => Yqt P s d h (ev env x) fun v => K v h | false => Zpx P env o fun v => K v h)
  | .binOp op t x y _ => (match ev env x with
    | .ptr a => (match ev env y with | .ptr b => Ypf P op t h a b K | _ => Zpx P env o fun v => K v h)
    | _ => Zpx P env o fun v => K v h)
  | _ => Zpx P env o fun v => K v h
def Zrj (N : Nat) (env : Env) (d : Option Tmp) (v : Zaq) (K : Env → Prop) : Prop := match d with | none => K env | some d => chk (d < N) (K (env.set d v))
def Zms (P : Program) (N : Nat) (ops : Array Oper) (env : Env) (h : Zaa) (o : Oper) (K : Env → Zaa → Prop) : Prop :=
  match o.guard with
  | none => opA P env h o fun v h' => Zrj N env o.dst v fun env' => K env' h'
  | some (j, want) => (match (ops[j]?).bind (·.dst) with
    | some t => (match env.get t with
      | .bool b => bcase b
          (match want with | true => opA P (env.set t (.bool true)) h o fun v h' => Zrj N (env.set t (.bool true)) o.dst v fun env' => K env' h' | false => Zrj N (env.set t (.bool true)) o.dst (.tup []) fun env' => K env' h)
          (match want with | false => opA P (env.set t (.bool false)) h o fun v h' => Zrj N (env.set t (.bool false)) o.dst v fun env' => K env' h' | true => Zrj N (env.set t (.bool false)) o.dst (.tup []) fun env' => K env' h)
      | .tup [] => Zrj N env o.dst (.tup []) fun env' => K env' h
      | _ => False)
    | none => False)
def Ytc (P : Program) (N : Nat) (ops : Array Oper) : List Oper → Env → Zaa → (Env → Zaa → Prop) → Prop
  | [], env, h, K => K env h
  | o :: r, env, h, K => Zms P N ops env h o fun env' h' => Ytc P N ops r env' h' K

section
variable {P : Program} {base N : Nat} {w0 : World} {μ : List Pl} {h : Zaa} {w : World}

structure St (P : Program) (base N : Nat) (w0 : World) (μ : List Pl) (env : Env) (h : Zaa) (a : Act) (w : World) : Prop where
  rel : Rel P base w0 μ h w
  env : Zmv μ env a.tmps
  size : a.tmps.size = N
  defers : a.defers = []

def Yny (P : Program) (base N : Nat) (w0 : World) (μ : List Pl) (K : Env → Zaa → Prop) (a : Act) (w : World) : Prop :=
  ∃ μ' env h, Ext μ μ' ∧ St P base N w0 μ' env h a w ∧ K env h

theorem St.put {env : Env} {a : Act} (s : St P base N w0 μ env h a w) {μ' : List Pl} {h' : Zaa} {w' : World} (he : Ext μ μ') (hr : Rel P base w0 μ' h' w') {v : Zaq} {x : Value} (hv : VR μ' v x) {d : Option Tmp} {K : Env → Prop} (hk : Zrj N env d v K) :
    ∃ env', St P base N w0 μ' env' h' (a.put d x) w' ∧ K env' := by
  unfold Zrj at hk
  cases d with
  | none => exact ⟨env, ⟨hr, s.env.ext he, s.size, s.defers⟩, hk⟩
  | some d =>
    replace hk := Zbo hk
    obtain ⟨hd, hk⟩ := hk
    refine ⟨_, ⟨hr, (s.env.ext he).set (by rw [s.size]; exact hd) hv, ?_, s.defers⟩, hk⟩
    simp [Act.put, s.size]

theorem St.know {env : Env} {a : Act} (s : St P base N w0 μ env h a w) {t : Nat} {v : Zaq} (hv : VR μ v (a.tmps.getD t undef)) : St P base N w0 μ (env.set t v) h a w :=
  ⟨s.rel, s.env.know hv, s.size, s.defers⟩

theorem Res.wp {o : Oper} {a : Act} {K : Zaq → Zaa → Prop} {next : Act → World → Prop} {Q : Exit → Act → World → Prop} {s : Sem Value}
    (hr : Res P base w0 μ (s.run P w) K) (he : (execOp a.eval o).run P w = (s.run P w).andThen fun x w' => .ok (.value x) w')
    (hn : ∀ x w' μ' v h', Ext μ μ' → Rel P base w0 μ' h' w' → VR μ' v x → K v h' → next (a.put o.dst x) w') : o.wp P a w next Q := by
  obtain ⟨x, w', μ', v, h', hrun, hx, hrel, hv, hk⟩ := hr
  unfold Oper.wp
  rw [he, hrun]
  exact hn x w' μ' v h' hx hrel hv hk

theorem Yqi {env : Env} {a : Act} (s : St P base N w0 μ env h a w) {f : FuncId} {args : List Zaq} {xs : Array Value} (hxs : VRs μ args xs.toList) {K : Zaq → Zaa → Prop} (hk : Zag P f args h K)
    {o : Oper} (he : (execOp a.eval o).run P w = (callFunc f xs).run P w) {next : Act → World → Prop} {Q : Exit → Act → World → Prop}
    (hn : ∀ x w' μ' v h', Ext μ μ' → Rel P base w0 μ' h' w' → VR μ' v x → K v h' → next (a.put o.dst x) w') : o.wp P a w next Q := by
  obtain ⟨⟨fn, hf, hb, hname⟩, hc⟩ := hk
  have hcall : (callFunc f xs).run P w = .ok (.enter f xs) w := by
    obtain ⟨c, hc⟩ := Option.isSome_iff_exists.1 hb
    have hname' : fn.name ≠ "runtime.NumGoroutine" := by simpa using hname
    simp [callFunc, hf, hc, hname']
  unfold Oper.wp
  rw [he, hcall]
  refine (hc base w0 μ w xs s.rel hxs).mono ?_
  rintro e w' ⟨x, μ', v, h', rfl, hx, hr, hv, hq⟩
  exact hn x w' μ' v h' hx hr hv hq

theorem VRs.single {v : Zaq} {xs : Array Value} (h : VRs μ [v] xs.toList) : ∃ x, xs = #[x] ∧ VR μ v x := by
  obtain ⟨l⟩ := xs
  match l, h with
  | [x], .cons a .nil => exact ⟨x, rfl, a⟩
theorem Yqd {env : Env} {a : Act} (s : St P base N w0 μ env h a w) {o : Oper} {K : Zaq → Zaa → Prop} (hk : opA P env h o K) {next : Act → World → Prop} {Q : Exit → Act → World → Prop}
    (hn : ∀ x w' μ' v h', Ext μ μ' → Rel P base w0 μ' h' w' → VR μ' v x → K v h' → next (a.put o.dst x) w') : o.wp P a w next Q := by
  have hρ := Ysg s.env
  have pure : Zpx P env o (fun v => K v h) → o.wp P a w next Q := fun hk => by
    obtain ⟨x, v, hr, hv, hk⟩ := Ypu hρ hk
    unfold Oper.wp
    rw [hr w]
    exact hn x w μ v h (Ext.refl _) s.rel hv hk
  unfold opA at hk
  split at hk
  · rename_i t p he
    replace hk := Zbo hk
    obtain ⟨hu, hk⟩ := hk
    obtain ⟨y, v, hr, hv, hk⟩ := Yiu s.rel (hρ p) hu hk
    unfold Oper.wp
    simp only [execOp, he, Sem.run_bind, hr, Result.andThen_ok, Sem.run_pure]
    exact hn y w μ v h (Ext.refl _) s.rel hv hk
  · rename_i t p x he
    replace hk := Zbo hk
    obtain ⟨hu, hk⟩ := hk
    obtain ⟨w', h', hr, hrel, hk⟩ := Yof s.rel (hρ p) (hρ x) hu hk
    unfold Oper.wp
    simp only [execOp, he, Sem.run_bind, hr, Result.andThen_ok, Sem.run_pure]
    exact hn undef w' μ .undef h' (Ext.refl _) hrel (.undef _) hk
  · rename_i t he
    exact Res.wp (Yoq s.rel hk) (by simp [execOp, he]) hn
  · rename_i t x he
    exact Res.wp (Yrb s.rel (hρ x) hk) (by simp [execOp, he]) hn
  · rename_i t ps he
    obtain ⟨h1, h2⟩ := Yfm hρ ps
    obtain ⟨x, v, hr, hv, hk⟩ := Yod h1 h2 hk
    unfold Oper.wp
    simp only [execOp, he, Sem.run_bind, hr w, Result.andThen_ok, Sem.run_pure]
    exact hn x w μ v h (Ext.refl _) s.rel hv hk
  · rename_i t n ps he
    obtain ⟨h1, h2⟩ := Yfm hρ ps
    exact Res.wp (Zzg s.rel h1 h2 hk) (by simp [execOp, he]) hn
  · rename_i c he
    unfold Ylw at hk
    split at hk
    · rename_i f hcal
      have go : ∀ (f : Operand), c.callee = .value f → ∀ (g : FuncId) (caps : List Zaq), ev env f = .fn g caps → Zag P g (c.args.toList.map (ev env) ++ caps) h K → o.wp P a w next Q := by
        intro f hcal g caps hev hk
        have hf := hρ f
        rw [hev] at hf
        cases hfv : a.eval f with
        | func fn first cap =>
          rw [hfv] at hf
          cases hf with
          | fn hcaps =>
          refine Yqi s (xs := c.args.map a.eval ++ cap) (by rw [Array.toList_append]; exact (Zsa hρ c.args).append hcaps) hk ?_ hn
          simp [execOp, he, resolve, hcal, hfv, Deferred.ofValue, invoke]
        | _ => rw [hfv] at hf; cases hf
      split at hk
      · rename_i g
        exact go _ hcal g [] rfl (Zag.mono hk fun _ _ hq => Yam (K := fun v => K v _) hq)
      · unfold Ysw Yqy at hk
        split at hk
        · rename_i g caps hev
          exact go _ hcal g caps hev (Zag.mono hk fun _ _ hq => Yam (K := fun v => K v _) hq)
        · exact hk.elim
    · rename_i hcal
      split at hk
      · rename_i t u hts
        replace hk := Zbo hk
        obtain ⟨rfl, hk⟩ := hk
        split at hk
        · rename_i sv xv hargs
          have hvs := Zsa hρ c.args
          rw [hargs] at hvs
          obtain ⟨x, y, hxy, h1, h2⟩ := hvs.two
          refine Res.wp (Yjg (ty := o.type) s.rel h1 h2 hk) ?_ fun x w' μ' v h' hx hr hv hk => (by obtain ⟨v2, hv2, hk⟩ := Zkd hk; cases hv2; exact hn x w' μ' v h' hx hr hv hk)
          have hat : c.argTypes = #[u, u] := by
            apply Array.ext'; simpa using hts
          simp [execOp, he, resolve, hcal, invoke, builtin, hxy, hat]
        · exact hk.elim
      · exact hk.elim
    · rename_i hcal
      split at hk
      · rename_i a b hargs
        have hvs := Zsa hρ c.args
        rw [hargs] at hvs
        obtain ⟨x, y, hxy, h1, h2⟩ := hvs.two
        obtain ⟨v, z, hr, hv, hk⟩ := Yrw (ts := c.argTypes) (t := o.type) h1 h2 hk
        exact Res.wp (s := Builtin.min_ c.argTypes o.type #[x, y]) ⟨z, w, μ, v, h, hr w, Ext.refl _, s.rel, hv, hk⟩ (by simp [execOp, he, resolve, hcal, invoke, builtin, hxy]) hn
      · exact hk.elim
    · rename_i hcal
      split at hk
      · rename_i t hts
        split at hk
        · rename_i x1 hargs
          have hvs := Zsa hρ c.args
          rw [hargs] at hvs
          obtain ⟨x, hxy, h1⟩ := hvs.single
          refine Res.wp (Ynj (ty := o.type) s.rel h1 hk) ?_ hn
          have hat : c.argTypes = #[t] := by
            apply Array.ext'; simpa using hts
          simp [execOp, he, resolve, hcal, invoke, builtin, hxy, hat]
        · exact hk.elim
      · exact hk.elim
    · rename_i hcal
      split at hk
      · rename_i t rest hts
        split at hk
        · rename_i mv kv hargs
          have hvs := Zsa hρ c.args
          rw [hargs] at hvs
          obtain ⟨x, y, hxy, h1, h2⟩ := hvs.two
          have hat : c.argTypes[0]? = some t := by rw [← Array.getElem?_toList, hts]; rfl
          refine Res.wp (Ykt (ty := o.type) s.rel hat h1 h2 hk) ?_ hn
          simp [execOp, he, resolve, hcal, invoke, builtin, hxy]
        · exact hk.elim
      · exact hk.elim
    · exact pure hk
  · rename_i t l c he
    exact Res.wp (Ybm s.rel (hρ l) (hρ c) hk) (by simp [execOp, he]) hn
  · rename_i t m he
    refine Res.wp (Yhk (x := m.map a.eval) s.rel ?_ hk) (by simp [execOp, he]) hn
    cases m with
    | none => exact .inl ⟨rfl, rfl⟩
    | some m => exact .inr ⟨_, _, rfl, rfl, hρ m⟩
  · rename_i t x i ok he
    split at hk
    · obtain ⟨z, v, hr, hv, hk⟩ := Yid s.rel (hρ x) (hρ i) hk
      exact Res.wp (s := Instr.lookup t (a.eval x) (a.eval i) ok) ⟨z, w, μ, v, h, hr, Ext.refl _, s.rel, hv, hk⟩ (by simp [execOp, he]) hn
    · obtain ⟨z, v, hr, hv, hk⟩ := Yjo s.rel (hρ x) (hρ i) hk
      exact Res.wp (s := Instr.lookup t (a.eval x) (a.eval i) ok) ⟨z, w, μ, v, h, hr, Ext.refl _, s.rel, hv, hk⟩ (by simp [execOp, he]) hn
  · rename_i t m k x he
    split at hk
    · obtain ⟨w', h', hr, hrel, hk⟩ := Yac s.rel (hρ m) (hρ k) (hρ x) hk
      unfold Oper.wp
      simp only [execOp, he, Sem.run_bind, hr, Result.andThen_ok, Sem.run_pure]
      exact hn undef w' μ .undef h' (Ext.refl _) hrel (.undef _) hk
    · obtain ⟨w', h', hr, hrel, hk⟩ := Yav s.rel (hρ m) (hρ k) (hρ x) hk
      unfold Oper.wp
      simp only [execOp, he, Sem.run_bind, hr, Result.andThen_ok, Sem.run_pure]
      exact hn undef w' μ .undef h' (Ext.refl _) hrel (.undef _) hk
  · rename_i t x he
    exact Res.wp (Ymw s.rel (hρ x) hk) (by simp [execOp, he]) hn
  · rename_i x st he
    exact Res.wp (Ykk (ty := o.type) s.rel (hρ x) hk) (by simp [execOp, he]) hn
  · rename_i x he
    obtain ⟨z, v, hr, hv, hk⟩ := Ynz s.rel (hρ x) hk
    exact Res.wp (s := Instr.entry (a.eval x)) ⟨z, w, μ, v, h, hr, Ext.refl _, s.rel, hv, hk⟩ (by simp [execOp, he]) hn
  · rename_i a b x he
    split at hk
    · exact Res.wp (Ypv s.rel (hρ x) hk) (by simp [execOp, he]) hn
    · exact pure hk
  · rename_i op t x y yt he
    split at hk
    · rename_i pa hx
      split at hk
      · rename_i pb hy
        have h1 := hρ x; rw [hx] at h1
        have h2 := hρ y; rw [hy] at h2
        obtain ⟨e, hr, hk⟩ := Yry (xo := x) (yo := y) s.rel h1 h2 hk
        unfold Oper.wp
        simp only [execOp, he]
        rw [Sem.run_bind, hr]
        exact hn _ w μ _ h (Ext.refl _) s.rel (.bool e) hk
      · exact pure hk
    · exact pure hk
  · exact pure hk

theorem Ylp {tmps : Array Value} {t : Nat} {b : Bool} (h : VR μ (.bool b) (tmps.getD t undef)) : tmps[t]? = some (.bool b) := by
  simp only [Array.getD_eq_getD_getElem?] at h
  cases hx : tmps[t]? with
  | none => rw [hx] at h; simp [undef] at h; cases h
  | some x => rw [hx] at h; simp at h; cases h; rfl

theorem Ykg {ops : Array Oper} {env : Env} {a : Act} (s : St P base N w0 μ env h a w) {o : Oper} {K : Env → Zaa → Prop} (hk : Zms P N ops env h o K) {next : Act → World → Prop} {Q : Exit → Act → World → Prop}
    (hn : ∀ a w, Yny P base N w0 μ K a w → next a w) : if Region.wanted o (yielded ops a.tmps) then o.wp P a w next Q else next (a.put o.dst undef) w := by
  have fin : ∀ {env : Env} {v : Zaq} {x : Value} {μ' : List Pl} {h' : Zaa} {w' : World}, St P base N w0 μ env h a w → Ext μ μ' → Rel P base w0 μ' h' w' → VR μ' v x → Zrj N env o.dst v (fun env' => K env' h') → next (a.put o.dst x) w' := by
    intro env v x μ' h' w' s hx hr hv hk
    obtain ⟨env', s', hk⟩ := s.put hx hr hv hk
    exact hn _ _ ⟨μ', env', h', hx, s', hk⟩
  unfold Zms at hk
  split at hk
  · rename_i hg
    have : Region.wanted o (yielded ops a.tmps) = true := by simp [Region.wanted, hg]
    rw [if_pos this]
    exact Yqd s hk fun x w' μ' v h' hx hr hv hk => fin s hx hr hv hk
  · rename_i j want hg
    split at hk
    · rename_i t ht
      split at hk
      · rename_i b hb
        have henv := s.env t
        rw [hb] at henv
        have hy : yielded ops a.tmps j = some b := by
          unfold yielded
          rw [ht]; simp only [Option.bind_some, Ylp henv]
        have hwant : Region.wanted o (yielded ops a.tmps) = (b == want) := by simp [Region.wanted, hg, hy]
        rw [hwant]
        have hknow : ∀ c, b = c → St P base N w0 μ (env.set t (.bool c)) h a w := fun c e => by subst e; exact s.know henv
        refine Yhw hk ?_ ?_
        · rintro rfl hk
          have s' := hknow true rfl
          cases want with
          | true => exact Yqd s' hk fun x w' μ' v h' hx hr hv hk => fin s' hx hr hv hk
          | false => exact fin s' (Ext.refl _) s.rel (.tup .nil) hk
        · rintro rfl hk
          have s' := hknow false rfl
          cases want with
          | false => exact Yqd s' hk fun x w' μ' v h' hx hr hv hk => fin s' hx hr hv hk
          | true => exact fin s' (Ext.refl _) s.rel (.tup .nil) hk
      · rename_i hb
        have henv := s.env t
        rw [hb] at henv
        have hy : yielded ops a.tmps j = none := by
          unfold yielded
          rw [ht]; simp only [Option.bind_some]
          have : a.tmps[t]? = none ∨ a.tmps[t]? = some (.tuple #[]) := by
            simp only [Array.getD_eq_getD_getElem?] at henv
            cases hx : a.tmps[t]? with
            | none => exact .inl rfl
            | some x =>
              rw [hx] at henv
              simp only [Option.getD_some] at henv
              cases henv with
              | tup hv => 
                have := hv.length
                rename_i xs
                have : xs = #[] := by apply Array.ext'; exact List.eq_nil_of_length_eq_zero (by simpa using this.symm)
                subst this; exact .inr rfl
          rcases this with h | h <;> rw [h]
        have hwant : Region.wanted o (yielded ops a.tmps) = false := by simp [Region.wanted, hg, hy]
        rw [hwant]
        exact fin s (Ext.refl _) s.rel (.tup .nil) hk
      · exact hk.elim
    · exact hk.elim

theorem Ypc {ops : Array Oper} {Q : Exit → Act → World → Prop} : ∀ (l : List Oper) {μ : List Pl} {h : Zaa} {w : World} {env : Env} {a : Act}, St P base N w0 μ env h a w → ∀ {K : Env → Zaa → Prop}, Ytc P N ops l env h K →
    (∀ a w, Yny P base N w0 μ K a w → Q .normal a w) → wpList P ops Q l a w
  | [], μ, h, w, env, a, s, K, hk, hq => hq a w ⟨μ, env, h, Ext.refl _, s, hk⟩
  | o :: r, μ, h, w, env, a, s, K, hk, hq => by
    have hstep := Ykg (next := wpList P ops Q r) (Q := Q) s hk (fun a' w' ⟨μ', env', h', hx, s', hk'⟩ => Ypc r s' hk' (fun a w ⟨μ2, env2, h2, hx2, s2, k2⟩ => hq a w ⟨μ2, env2, h2, hx.trans hx2, s2, k2⟩))
    unfold wpList
    split
    · rename_i hw; rw [if_pos hw] at hstep; exact .inl hstep
    · rename_i hw; rw [if_neg hw] at hstep; exact hstep
end
end Go.Sim
