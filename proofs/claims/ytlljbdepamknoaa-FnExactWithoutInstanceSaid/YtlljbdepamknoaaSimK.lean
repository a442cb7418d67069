/- A part of the proof of a statement of this seat: see the text that holds the theorem. No condition. -/
import Derived.Test.YtlljbdepamknoaaSimIa
import Derived.MapKept
import Derived.Carry
import Derived.Laws.RangeString
import Derived.Maps.RangeRun
import GoSem.Builtin.Clear
import Derived.Orders
set_option linter.unusedVariables false
set_option linter.unusedSimpArgs false
set_option linter.all false
set_option linter.unusedSimpArgs false
namespace Go.Sim
open Go Go.RowKit

abbrev ME := Zag × Zag × Nat
def Ziz (h : Zaa) (m : Option Nat) (K : List ME → Nat → Prop) : Prop :=
  match m with
  | none => K [] 0
  | some i => (match h[i]? with | some (.map es clk) => K es clk | _ => False)
def Zrb : List ME → List Nat → Nat → Option (Option (Nat × Zag))
  | [], _, _ => some none
  | (.str k, v, _) :: r, s, i => if s = k then some (some (i, v)) else Zrb r s (i + 1)
  | _ :: _, _, _ => none
def Zue (es : List ME) (s : List Nat) (K : Option Zag → Prop) : Prop := match Zrb es s 0 with | some (some (_, v)) => K (some v) | some none => K none | none => False
def Yfu (es : List ME) (clk : Nat) (s : List Nat) (v : Zag) (K : List ME → Nat → Prop) : Prop :=
  match Zrb es s 0 with
  | some (some (i, _)) => K (es.modify i fun e => (.str s, v, e.2.2)) clk
  | some none => K (es ++ [(.str s, v, clk)]) (clk + 1)
  | none => False
def xMp (m : Option Nat) (K : Nat → Prop) : Prop := match m with | some i => K i | none => False
def Yfy (P : Program) (t : TypeId) : Option Zag := match P.info? t with | some i => (match i.zero with | some v => some (Zmx v) | none => none) | none => none
def Zof (P : Program) (t : TypeId) (h : Zaa) (m k : Zag) (ok : Bool) (K : Zag → Prop) : Prop :=
  match P.underlying t with
  | some (.map kt et) => chk (Zow P kt = true ∧ isAgg P et = false) (match m with
    | .map a => Zbs (some k) fun s => Zwt (Yfy P et) fun z => Ziz h a fun es _ => Zue es s fun r => xv (Zix P et) (some (r.getD z)) fun v => K (match ok with | true => .tup [v, .bool r.isSome] | false => v)
    | _ => False)
  | _ => False
def Zio (P : Program) (t : TypeId) (h : Zaa) (m k v : Zag) (K : Zag → Zaa → Prop) : Prop :=
  match P.underlying t with
  | some (.map kt _) => chk (Zow P kt = true) (match m with
    | .map a => xMp a fun i => Zbs (some k) fun s => Ziz h (some i) fun es clk => Yfu es clk s v fun es' clk' => K .undef (h.set i (.map es' clk'))
    | _ => False)
  | _ => False
def Zxr (P : Program) (t : TypeId) : Bool := match P.underlying t with | some (.map _ _) => true | _ => false
def Zmh (P : Program) (t : TypeId) (r : Option Zag) (h : Zaa) (K : Zag → Zaa → Prop) : Prop :=
  match r with
  | none => K (.map (some h.length)) (h ++ [.map [] 0])
  | some (.int _ _) => chk (Zxr P t = true) (K (.map (some h.length)) (h ++ [.map [] 0]))
  | _ => False
def Yjo (m : Option Nat) (clk : Nat) : Nat := match m with | none => 0 | some _ => clk
def Yim (m : Option Nat) (A B : Prop) : Prop := match m with | none => A | some _ => B
def Yin (P : Program) (t : TypeId) (i : Nat) : Sh := match P.underlying t with | some (.tuple ts) => (match ts[i]? with | some t => Zix P t | none => .any) | _ => .any
def Zrz (P : Program) (t : TypeId) (x : Zag) (h : Zaa) (K : Zag → Zaa → Prop) : Prop :=
  match x with
  | .str s => chk (Zow P t = true) (K (.iter h.length) (h ++ [.iter s 0]))
  | .map m => chk (Zxr P t = true) (Ziz h m fun _ clk => K (.iter h.length) (h ++ [.miter m (Yjo m clk) [] (Yjo m clk)]))
  | _ => False
def Zym (h : Zaa) (r : Nat) (K : List Nat → Nat → Prop) : Prop := match h[r]? with | some (.iter s pos) => K s pos | _ => False
def Zqg (h : Zaa) (r : Nat) (K : Option Nat → Nat → List Nat → Nat → Prop) : Prop := match h[r]? with | some (.miter m since seen last) => K m since seen last | _ => False
def Zyq (P : Program) (ty : TypeId) (it : Zag) (isStr : Bool) (h : Zaa) (K : Zag → Zaa → Prop) : Prop :=
  match it with
  | .iter r => (match isStr with
    | true => Zym h r fun s pos => (pos < s.length → s.getD pos 0 < 128 ∧ K (.tup [.bool true, .int .i64 (pos : Int), .int .i32 ((s.getD pos 0 : Nat) : Int)]) (h.set r (.iter s (pos + 1)))) ∧ (s.length ≤ pos → K (.tup [.bool false]) h)
    | false => Zqg h r fun m since seen last => Yim m (K (.tup [.bool false]) h) (Ziz h m fun es clk => ((∀ e ∈ es, e.2.2 < since) ∧ since ≤ last) ∧ ((∀ e ∈ es, e.2.2 ∈ seen) → K (.tup [.bool false]) h) ∧
        ∀ e ∈ es, e.2.2 ∉ seen → xv (Yin P ty 1) (some e.1) fun a => xv (Yin P ty 2) (some e.2.1) fun b => K (.tup [.bool true, a, b]) (h.set r (.miter m since (seen ++ [e.2.2]) clk))))
  | _ => False
def Zrt (P : Program) (ty : TypeId) (it : Zag) (h : Zaa) (K : Zag → Prop) : Prop :=
  match it with
  | .iter r => Zqg h r fun m _ seen last => xMp m fun i => Ziz h (some i) fun es clk => ((es.map (·.2.2)).Nodup ∧ clk = last) ∧ ∃ e ∈ es, ∃ s0, seen = s0 ++ [e.2.2] ∧ xv (Yin P ty 0) (some e.1) fun a => xv (Yin P ty 1) (some e.2.1) fun b => K (.tup [a, b])
  | _ => False

section
variable {P : Program} {base : Nat} {w0 : World} {μ : List Pl} {h : Zaa} {w : World}
theorem Ztv {t : TypeId} (h : Zxr P t = true) : ∃ k e, P.underlying t = some (.map k e) := by unfold Zxr at h; split at h <;> simp_all
theorem Zwd {a b : ByteArray} (h : bytesOf a = bytesOf b) : a = b := by
  have := Zks h
  cases a; cases b
  congr 1
  exact Array.ext' this
theorem Znh {s : ByteArray} : ∀ {es : List ME} {ents : List MapEntry} {i : Nat} {r : Option (Nat × Zag)}, VRs μ (es.map (·.1)) (ents.map (·.key)) → VRs μ (es.map (·.2.1)) (ents.map (·.val)) → Zrb es (bytesOf s) i = some r →
    (r = none ∧ Instr.findNow .string (.string s) ents i = some none) ∨ ∃ j v x k0, r = some (j, v) ∧ i ≤ j ∧ VR μ v x ∧ Instr.findNow .string (.string s) ents i = some (some (j, x)) ∧ ents[j - i]? = some k0 ∧ k0.key = .string s
  | [], [], i, r, _, _, h => by simp [Zrb] at h; subst h; exact .inl ⟨rfl, rfl⟩
  | [], e :: ents, i, r, hk, _, _ => by cases hk
  | e :: es, [], i, r, hk, _, _ => by cases hk
  | (k, v, b) :: es, e :: ents, i, r, hk, hv, h => by
    simp only [List.map_cons] at hk hv
    cases hk with
    | cons hk1 hk2 =>
    cases hv with
    | cons hv1 hv2 =>
    cases k <;> simp only [Zrb] at h <;> try (cases h; done)
    rename_i kb
    generalize he : e.key = ek at hk1
    cases hk1
    rename_i kb
    by_cases hs : bytesOf s = bytesOf kb
    · rw [if_pos hs] at h
      cases h
      have : s = kb := Zwd hs
      subst this
      refine .inr ⟨i, v, e.val, e, rfl, Nat.le_refl _, hv1, ?_, by simp, he⟩
      simp [Instr.findNow, he, Instr.sameNow, (MapKept.bytes_beq s s).2 rfl]
    · rw [if_neg hs] at h
      have hne : (s == kb) = false := by
        cases hb : s == kb with
        | false => rfl
        | true => exact absurd (by rw [(MapKept.bytes_beq s kb).1 hb]) hs
      rcases Znh hk2 hv2 h with ⟨h1, h2⟩ | ⟨j, v', x, k0, h1, h2, h3, h4, h5, h6⟩
      · exact .inl ⟨h1, by simp [Instr.findNow, he, Instr.sameNow, hne, h2]⟩
      · refine .inr ⟨j, v', x, k0, h1, by omega, h3, by simp [Instr.findNow, he, Instr.sameNow, hne, h4], ?_, h6⟩
        rw [show j - i = (j - (i + 1)) + 1 by omega]; simpa using h5

theorem Ycs {t : TypeId} {z : Zag} (hz : Yfy P t = some z) : ∃ v, VR μ z v ∧ ∀ w, (zeroValue t).run P w = .ok v w := by
  unfold Yfy at hz
  split at hz
  · rename_i i hi
    split at hz
    · rename_i v hv
      cases hz
      exact ⟨v, Zoj v, fun w => by simp [zeroValue, typeInfo, hi, hv]⟩
    · cases hz
  · cases hz
theorem Zlu {m : Option Nat} {K : List ME → Nat → Prop} (hk : Ziz h m K) : (m = none ∧ K [] 0) ∨ ∃ i es clk, m = some i ∧ h[i]? = some (.map es clk) ∧ K es clk := by
  unfold Ziz at hk
  split at hk
  · exact .inl ⟨rfl, hk⟩
  · split at hk
    · rename_i hi; exact .inr ⟨_, _, _, rfl, hi, hk⟩
    · exact hk.elim
theorem Zrp {o : Option Zag} {K : List Nat → Prop} (h : Zbs o K) : ∃ s, o = some (.str s) ∧ K s := by
  unfold Zbs at h; split at h
  · exact ⟨_, rfl, h⟩
  · exact h.elim

theorem Yac (r : Rel P base w0 μ h w) {t : TypeId} {a k : Zag} {x y : Value} {ok : Bool} (ha : VR μ a x) (hkk : VR μ k y) {K : Zag → Prop} (hk : Zof P t h a k ok K) :
    ∃ z v, (Instr.lookup t x y ok).run P w = .ok z w ∧ VR μ v z ∧ K v := by
  unfold Zof at hk
  split at hk
  · rename_i kt et hu
    replace hk := Zbg hk
    obtain ⟨⟨hs, hag⟩, hk⟩ := hk
    have hs := Zke hs
    split at hk
    · rename_i m
      obtain ⟨s, hse, hk⟩ := Zrp hk
      cases hse
      obtain ⟨z0, hz, hk⟩ := Zlx hk
      obtain ⟨zv, hzv1, hzr⟩ := Ycs (μ := μ) hz
      cases hkk with
      | str sb =>
      have hchk : ∀ b, (Instr.checkKey b 10000 kt (.string sb)).run P w = .ok () w := fun b => MapKept.run_checkKey (d := .string) hs (by simp [MapKept.IsKey]) b 9999
      rcases Zlu hk with ⟨rfl, hk1⟩ | ⟨i', es, clk, rfl, hi', hk1⟩
      · cases ha
        simp only [Zue, Zrb] at hk1
        obtain ⟨v, hv, hk2⟩ := Zis hk1
        cases hv
        have hfk := MapKept.run_findKey (P := P) (w := w) (k := .string sb) (l := []) hs rfl
        cases ok
        · exact ⟨zv, _, by simp [Instr.lookup, run_underlying hu, hchk, hfk, hzr w], hzv1, hk2⟩
        · exact ⟨.tuple #[zv, .bool false], _, by simp [Instr.lookup, run_underlying hu, hchk, hfk, hzr w], .tup (.cons hzv1 (.cons (.bool _) .nil)), hk2⟩
      · cases ha with
        | map hmu =>
        obtain ⟨hb0, ents, hg, hk1', hk2', hk3'⟩ := r.obj i' _ hi' _ hmu
        unfold Zue at hk1
        split at hk1
        · rename_i j v hf
          obtain ⟨v1, hv, hk2⟩ := Zis hk1
          cases hv
          rcases Znh hk1' hk2' hf with ⟨h1, _⟩ | ⟨j', v', x', k0, h1, _, h3, h4, _⟩
          · cases h1
          · cases h1
            have hfk := MapKept.run_findKey (P := P) (w := w) hs h4
            cases ok
            · exact ⟨x', _, by simp [Instr.lookup, run_underlying hu, MapKept.run_getObj_map hg, hchk, hfk], h3, hk2⟩
            · exact ⟨.tuple #[x', .bool true], _, by simp [Instr.lookup, run_underlying hu, MapKept.run_getObj_map hg, hchk, hfk], .tup (.cons h3 (.cons (.bool _) .nil)), hk2⟩
        · rename_i hf
          obtain ⟨v1, hv, hk2⟩ := Zis hk1
          cases hv
          rcases Znh hk1' hk2' hf with ⟨_, h4⟩ | ⟨j', v', x', k0, h1, _⟩
          · have hfk := MapKept.run_findKey (P := P) (w := w) hs h4
            cases ok
            · exact ⟨zv, _, by simp [Instr.lookup, run_underlying hu, MapKept.run_getObj_map hg, hchk, hfk, hzr w], hzv1, hk2⟩
            · exact ⟨.tuple #[zv, .bool false], _, by simp [Instr.lookup, run_underlying hu, MapKept.run_getObj_map hg, hchk, hfk, hzr w], .tup (.cons hzv1 (.cons (.bool _) .nil)), hk2⟩
          · cases h1
        · exact hk1.elim
    · exact hk.elim
  · exact hk.elim
theorem Zkm {i : Nat} {K : List ME → Nat → Prop} (hk : Ziz h (some i) K) : ∃ es clk, h[i]? = some (.map es clk) ∧ K es clk := by
  rcases Zlu hk with ⟨h0, _⟩ | ⟨i', es, clk, h0, hi', hk1⟩
  · cases h0
  · cases h0; exact ⟨es, clk, hi', hk1⟩
theorem VRs.modify {α β : Type} {p : α → Zag} {q : β → Value} {f : α → α} {g : β → β} {v : Zag} {k : Value} (hv : VR μ v k) (hf : ∀ x, p (f x) = v) (hg : ∀ y, q (g y) = k) : ∀ {l : List α} {m : List β} (j : Nat), VRs μ (l.map p) (m.map q) → VRs μ ((l.modify j f).map p) ((m.modify j g).map q)
  | [], [], j, _ => by cases j <;> exact .nil
  | [], _ :: _, _, h => by cases h
  | _ :: _, [], _, h => by cases h
  | a :: l, b :: m, 0, h => by
    simp only [List.map_cons] at h
    cases h with
    | cons h1 h2 =>
    simp only [List.modify_zero_cons, List.map_cons, hf, hg]
    exact .cons hv h2
  | a :: l, b :: m, j + 1, h => by
    simp only [List.map_cons] at h
    cases h with
    | cons h1 h2 =>
    simp only [List.modify_succ_cons, List.map_cons]
    exact .cons h1 (VRs.modify hv hf hg j h2)
theorem Ziy {α β : Type} {p : α → β} {f : α → α} (hf : ∀ x, p (f x) = p x) : ∀ (l : List α) (j : Nat), (l.modify j f).map p = l.map p
  | [], j => by cases j <;> rfl
  | a :: l, 0 => by simp [List.modify_zero_cons, hf]
  | a :: l, j + 1 => by simp [List.modify_succ_cons, Ziy hf l j]
theorem Rel.over (r : Rel P base w0 μ h w) {i : Nat} {o o' : Zck} {e : Pl} {x : Obj} (hi : h[i]? = some o) (ho : o.own = true) (hei : μ[i]? = some e) (hb : base ≤ e.b) (hown : o'.own = true)
    (hn : Zje P base w0 μ e { w with heap := w.heap.setIfInBounds e.b x } o') : Rel P base w0 μ (h.set i o') { w with heap := w.heap.setIfInBounds e.b x } :=
  r.change hi ho hei ⟨rfl, rfl, rfl, by simp, fun k hk => by simp [show ¬ e.b = k by omega]⟩ (fun k hk _ => by simp [Ne.symm hk]) hn (.inl hown)
theorem Zvt {s : ByteArray} {es : List ME} {ents : List MapEntry} {j : Nat} {v : Zag} (hk : VRs μ (es.map (·.1)) (ents.map (·.key))) (hv : VRs μ (es.map (·.2.1)) (ents.map (·.val))) (hf : Zrb es (bytesOf s) 0 = some (some (j, v))) :
    ∃ x, Instr.findNow .string (.string s) ents 0 = some (some (j, x)) ∧ ∃ k0, ents[j]? = some k0 ∧ k0.key = .string s := by
  rcases Znh hk hv hf with ⟨h1, _⟩ | ⟨j', v', x', k0, h1, _, h3, h4, h5, h6⟩
  · cases h1
  · cases h1; exact ⟨x', h4, k0, h5, h6⟩
theorem Ztu (r : Rel P base w0 μ h w) {t : TypeId} {a k v : Zag} {x y z : Value} (ha : VR μ a x) (hkk : VR μ k y) (hv : VR μ v z) {K : Zag → Zaa → Prop} (hk : Zio P t h a k v K) :
    ∃ w' h', (Instr.mapUpdate t x y z).run P w = .ok () w' ∧ Rel P base w0 μ h' w' ∧ K .undef h' := by
  unfold Zio at hk
  split at hk
  · rename_i kt et hu
    replace hk := Zbg hk
    obtain ⟨hs, hk⟩ := hk
    have hs := Zke hs
    split at hk
    · rename_i m
      unfold xMp at hk
      split at hk
      · rename_i i
        obtain ⟨s, hse, hk⟩ := Zrp hk
        cases hse
        cases hkk with
        | str sb =>
        obtain ⟨es, clk, hi', hk1⟩ := Zkm hk
        · cases ha with
          | map hmu =>
          rename_i e
          obtain ⟨hb0, ents, hg, hk1', hk2', hk3'⟩ := r.obj i _ hi' _ hmu
          have hchk : (Instr.checkKey false 10000 kt (.string sb)).run P w = .ok () w := MapKept.run_checkKey (d := .string) hs (by simp [MapKept.IsKey]) false 9999
          have hlt := (Array.getElem?_eq_some_iff.1 hg).1
          unfold Yfu at hk1
          split at hk1
          · rename_i j v0 hf
            obtain ⟨x0, hf2, k0, hj, hkey⟩ := Zvt hk1' hk2' hf
            have hfk := MapKept.run_findKey (P := P) (w := w) hs hf2
            have hj' : ents[j]? = some k0 := by simpa using hj
            have hst : ∀ w : World, (Instr.keyThatStays k0.key (.string sb)).run P w = .ok (.string sb) w := fun w => by
              rw [hkey]; simp [Instr.keyThatStays, Instr.sameBits, (MapKept.bytes_beq sb sb).2 rfl]
            refine ⟨_, _, ?_, r.over (x := .map (ents.modify j fun e => { e with key := .string sb, val := z }) clk) hi' rfl hmu hb0 rfl ?_, hk1⟩
            · simp [Instr.mapUpdate, run_underlying hu, MapKept.run_getObj_map hg, hchk, hfk, hj', hst, MapKept.run_setObj_map _ hg]
            · refine ⟨hb0, ents.modify j fun e => { e with key := .string sb, val := z }, by simp [hlt], ?_, ?_, ?_⟩
              · rw [Array.toList_modify]; exact VRs.modify (p := fun (x : ME) => x.1) (q := fun (x : MapEntry) => x.key) (v := .str (bytesOf sb)) (k := .string sb) (.str sb) (fun _ => rfl) (fun _ => rfl) j hk1'
              · rw [Array.toList_modify]; exact VRs.modify (p := fun (x : ME) => x.2.1) (q := fun (x : MapEntry) => x.val) (v := v) (k := z) hv (fun _ => rfl) (fun _ => rfl) j hk2'
              · rw [Array.toList_modify, Ziy (p := fun (x : ME) => x.2.2) (f := fun e => (.str (bytesOf sb), v, e.2.2)) (fun _ => rfl) es j, Ziy (p := fun (x : MapEntry) => x.born) (f := fun e => { e with key := .string sb, val := z }) (fun _ => rfl) ents.toList j]; exact hk3'
          · rename_i hf
            rcases Znh hk1' hk2' hf with ⟨_, h4⟩ | ⟨j', v', x', k0, h1, _⟩
            · have hfk := MapKept.run_findKey (P := P) (w := w) hs h4
              refine ⟨_, _, ?_, r.over (x := .map (ents.push { key := .string sb, val := z, born := clk }) (clk + 1)) hi' rfl hmu hb0 rfl ?_, hk1⟩
              · simp [Instr.mapUpdate, run_underlying hu, MapKept.run_getObj_map hg, hchk, hfk, MapKept.run_setObj_map _ hg]
              · refine ⟨hb0, ents.push { key := .string sb, val := z, born := clk }, by simp [hlt], ?_, ?_, ?_⟩
                · simpa using hk1'.append (.cons (.str sb) .nil)
                · simpa using hk2'.append (.cons hv .nil)
                · simp [hk3']
            · cases h1
          · exact hk1.elim
      · exact hk.elim
    · exact hk.elim
  · exact hk.elim
theorem Zzs (r : Rel P base w0 μ h w) {t : TypeId} {a : Option Zag} {x : Option Value} (hax : (a = none ∧ x = none) ∨ ∃ v y, a = some v ∧ x = some y ∧ VR μ v y) {K : Zag → Zaa → Prop} (hk : Zmh P t a h K) :
    Res P base w0 μ ((Instr.makeMap t x).run P w) K := by
  have fin : K (.map (some h.length)) (h ++ [.map [] 0]) → (Instr.makeMap t x).run P w = .ok (.map (some w.heap.size)) (w.alloc (.map #[] 0)) → Res P base w0 μ ((Instr.makeMap t x).run P w) K := by
    intro hk hr
    have hrel := r.new (o := .map [] 0) (e := ⟨w.heap.size, 0, true, 0, 0⟩) ((Below.refl _ w).alloc (Nat.le_refl _) (.map #[] 0)) (Nat.le_refl _) (by
      refine ⟨r.size, #[], ?_, .nil, .nil, rfl⟩
      show (w.heap.push _)[w.heap.size]? = _
      simp)
    exact ⟨_, _, _, _, _, hr, Ext.app _ _, hrel, .map (e := ⟨w.heap.size, 0, true, 0, 0⟩) (r.last _), hk⟩
  unfold Zmh at hk
  rcases hax with ⟨rfl, rfl⟩ | ⟨v, y, rfl, rfl, hv⟩
  · exact fin hk rfl
  · split at hk
    · rename_i h0; cases h0
    · rename_i h0
      cases h0
      replace hk := Zbg hk
      obtain ⟨hm, hk⟩ := hk
      obtain ⟨kt, et, hu⟩ := Ztv hm
      cases hv
      exact fin hk (by simp only [Instr.makeMap, Sem.run_bind, run_underlying hu, Result.andThen_ok, asInt, Sem.run_pure]; rfl)
    · exact hk.elim
theorem Ydw (r : Rel P base w0 μ h w) {t : TypeId} {a : Zag} {x : Value} (ha : VR μ a x) {K : Zag → Zaa → Prop} (hk : Zrz P t a h K) : Res P base w0 μ ((Instr.range t x).run P w) K := by
  unfold Zrz at hk
  split at hk
  · cases ha
    rename_i sb
    replace hk := Zbg hk
    obtain ⟨hs, hk⟩ := hk
    have hs := Zke hs
    have hrel := r.new (o := .iter (bytesOf sb) 0) (e := ⟨w.heap.size, 0, true, 0, 0⟩) ((Below.refl _ w).alloc (Nat.le_refl _) (.stringIter sb 0)) (Nat.le_refl _) (by
      refine ⟨r.size, rfl, sb, rfl, ?_⟩
      show (w.heap.push _)[w.heap.size]? = _
      simp)
    exact ⟨_, _, _, _, _, run_range_string w t sb hs, Ext.app _ _, hrel, .iter (e := ⟨w.heap.size, 0, true, 0, 0⟩) (r.last _) rfl, hk⟩
  · rename_i m
    replace hk := Zbg hk
    obtain ⟨hm, hk⟩ := hk
    obtain ⟨kt, et, hu⟩ := Ztv hm
    rcases Zlu hk with ⟨rfl, hk1⟩ | ⟨i, es, clk, rfl, hi, hk1⟩
    · cases ha
      have hrel := r.new (o := .miter none 0 [] 0) (e := ⟨w.heap.size, 0, true, 0, 0⟩) ((Below.refl _ w).alloc (Nat.le_refl _) (.mapIter none 0 #[] 0)) (Nat.le_refl _) (by
        refine ⟨r.size, rfl, none, ?_, .inl ⟨rfl, rfl⟩⟩
        show (w.heap.push _)[w.heap.size]? = _
        simp)
      exact ⟨_, _, _, _, _, by simp only [Instr.range, Sem.run_bind, run_underlying hu, Result.andThen_ok, Sem.run_pure]; rfl, Ext.app _ _, hrel, .iter (e := ⟨w.heap.size, 0, true, 0, 0⟩) (r.last _) rfl, hk1⟩
    · cases ha with
      | map hmu =>
      rename_i e
      obtain ⟨hb0, ents, hg, hk1', hk2', hk3'⟩ := r.obj i _ hi _ hmu
      have hrel := r.new (o := .miter (some i) clk [] clk) (e := ⟨w.heap.size, 0, true, 0, 0⟩) ((Below.refl _ w).alloc (Nat.le_refl _) (.mapIter (some e.b) clk #[] clk)) (Nat.le_refl _) (by
        refine ⟨r.size, rfl, some e.b, ?_, .inr ⟨i, e, rfl, rfl, Ext.app _ _ _ _ hmu⟩⟩
        show (w.heap.push _)[w.heap.size]? = _
        simp)
      exact ⟨_, _, _, _, _, by simp only [Instr.range, Sem.run_bind, run_underlying hu, Result.andThen_ok, Sem.run_pure, MapKept.run_getObj_map hg]; rfl, Ext.app _ _, hrel, .iter (e := ⟨w.heap.size, 0, true, 0, 0⟩) (r.last _) rfl, hk1⟩
  · exact hk.elim
theorem Zyn {r : Nat} {K : List Nat → Nat → Prop} (hk : Zym h r K) : ∃ s pos, h[r]? = some (.iter s pos) ∧ K s pos := by
  unfold Zym at hk
  split at hk
  · rename_i hi; exact ⟨_, _, hi, hk⟩
  · exact hk.elim
theorem Zpn {r : Nat} {K : Option Nat → Nat → List Nat → Nat → Prop} (hk : Zqg h r K) : ∃ m a b c, h[r]? = some (.miter m a b c) ∧ K m a b c := by
  unfold Zqg at hk
  split at hk
  · rename_i hi; exact ⟨_, _, _, _, hi, hk⟩
  · exact hk.elim
theorem VRs.mem2 {α β : Type} {p p' : α → Zag} {q q' : β → Value} {c : α → Nat} {d : β → Nat} : ∀ {l : List α} {m : List β}, VRs μ (l.map p) (m.map q) → VRs μ (l.map p') (m.map q') → l.map c = m.map d → ∀ y ∈ m, ∃ x ∈ l, VR μ (p x) (q y) ∧ VR μ (p' x) (q' y) ∧ c x = d y
  | [], [], _, _, _, y, hy => by simp at hy
  | [], _ :: _, h, _, _, _, _ => by cases h
  | _ :: _, [], h, _, _, _, _ => by cases h
  | a :: l, b :: m, h, h', hc, y, hy => by
    simp only [List.map_cons] at h h' hc
    cases h with
    | cons h1 h2 =>
    cases h' with
    | cons h1' h2' =>
    simp only [List.cons.injEq] at hc
    rcases List.mem_cons.1 hy with rfl | hy
    · exact ⟨a, by simp, h1, h1', hc.1⟩
    · obtain ⟨x, hx, hr⟩ := VRs.mem2 h2 h2' hc.2 y hy
      exact ⟨x, by simp [hx], hr⟩
theorem Ybt (r : Rel P base w0 μ h w) {a : Zag} {x : Value} {isStr : Bool} {ty : TypeId} (ha : VR μ a x) {K : Zag → Zaa → Prop} (hk : Zyq P ty a isStr h K) : Res P base w0 μ ((Instr.next x isStr ty).run P w) K := by
  unfold Zyq at hk
  split at hk
  · rename_i i
    cases ha with
    | iter hmu ho =>
    rename_i e
    split at hk
    · obtain ⟨s, pos, hi, hk⟩ := Zyn hk
      obtain ⟨hb0, ho2, s', rfl, hg⟩ := r.obj i _ hi _ hmu
      have hlt := (Array.getElem?_eq_some_iff.1 hg).1
      have hget : (getObj e.b).run P w = .ok (.stringIter s' pos) w := by simp [getObj, Sem.run, hg]
      have hset : ∀ o, (setObj e.b o).run P w = .ok () { w with heap := w.heap.setIfInBounds e.b o } := fun o => by simp [setObj, Sem.run, hg]
      by_cases hp : pos < s'.size
      · obtain ⟨hc, hk⟩ := hk.1 (by rw [Zcz]; exact hp)
        have hby : (bytesOf s').getD pos 0 = (s'[pos]'hp).toNat := by
          have hlt' : pos < s'.data.size := hp
          have hq : s'.data[pos]? = some s'[pos] := by rw [Array.getElem?_eq_getElem hlt']; rfl
          simp only [bytesOf, List.getD, List.getElem?_map, Array.getElem?_toList, hq]; rfl
        rw [hby] at hc hk
        have hd := decode_ascii s' pos hp hc
        refine ⟨.tuple #[.bool true, .int .i64 pos, .int .i32 (s'[pos]'hp).toNat], _, μ, _, _, ?_, Ext.refl _, r.over (x := .stringIter s' (pos + 1)) hi rfl hmu hb0 rfl ?_, .tup (.cons (.bool _) (.cons (.int _ _) (.cons (.int _ _) .nil))), hk⟩
        · simp [Instr.next, hget, hp, hd, hset, goInt]
        · exact ⟨hb0, ho2, s', rfl, by simp [hlt]⟩
      · refine ⟨.tuple #[.bool false], w, μ, _, h, ?_, Ext.refl _, r, .tup (.cons (.bool _) .nil), hk.2 (by rw [Zcz]; omega)⟩
        simp [Instr.next, hget, hp]
    · obtain ⟨m, since, seen, last, hi, hk⟩ := Zpn hk
      obtain ⟨hb0, ho2, m', hg, hm⟩ := r.obj i _ hi _ hmu
      have hlt := (Array.getElem?_eq_some_iff.1 hg).1
      rcases hm with ⟨rfl, rfl⟩ | ⟨mi, p, rfl, rfl, hmp⟩
      · refine ⟨.tuple #[.bool false], w, μ, _, h, ?_, Ext.refl _, r, .tup (.cons (.bool _) .nil), hk⟩
        have hget : (getObj e.b).run P w = .ok (.mapIter none since seen.toArray last) w := by simp [getObj, Sem.run, hg]
        simp [Instr.next, hget]
      · obtain ⟨es, clk, hmi, hk⟩ := Zkm hk
        obtain ⟨hb1, ents, hg1, hk1', hk2', hk3'⟩ := r.obj mi _ hmi _ hmp
        obtain ⟨⟨hold, hsl⟩, hover, hstep⟩ := hk
        have hborn : ∀ y ∈ ents.toList, ∃ x ∈ es, VR μ x.1 y.key ∧ VR μ x.2.1 y.val ∧ x.2.2 = y.born := VRs.mem2 (p := fun (x : ME) => x.1) (p' := fun (x : ME) => x.2.1) (q := fun (x : MapEntry) => x.key) (q' := fun (x : MapEntry) => x.val) (c := fun (x : ME) => x.2.2) (d := fun (x : MapEntry) => x.born) hk1' hk2' hk3'
        rcases run_next_at (P := P) w ty e.b p.b since last seen.toArray ents clk hg hg1 (fun y hy => by obtain ⟨x, hx, _, _, hb⟩ := hborn y hy; rw [← hb]; exact hold x hx) hsl with ⟨hz, hr⟩ | ⟨en, hen, w1, hw1, hr⟩
        · refine ⟨_, _, μ, _, h, hr, Ext.refl _, r, .tup (.cons (.bool _) .nil), hover ?_⟩
          intro x hx
          have hmem : x.2.2 ∈ ents.toList.map (·.born) := by rw [← hk3']; exact List.mem_map_of_mem hx
          obtain ⟨y, hy, hyb⟩ := List.mem_map.1 hmem
          have he : leftOf ents seen.toArray = #[] := Array.eq_empty_of_size_eq_zero hz
          unfold leftOf at he
          rw [Array.filter_eq_empty_iff] at he
          have := he y (by simpa using hy)
          rw [← hyb]; simpa using this
        · have hen' : en ∈ ents.toList ∧ en.born ∉ seen := by
            unfold leftOf at hen
            simpa using hen
          obtain ⟨x, hx, hxk, hxv, hxb⟩ := hborn en hen'.1
          have hr1 : Rel P base w0 μ h w1 := by
            rcases hw1 with rfl | rfl
            · exact r
            · exact r.grow ⟨rfl, rfl, rfl, Nat.le_refl _, fun _ _ => rfl⟩
          have hwh : w1.heap = w.heap := by rcases hw1 with rfl | rfl <;> rfl
          have hst := hstep x hx (by rw [hxb]; exact hen'.2)
          obtain ⟨a1, ha1, hst⟩ := Zis hst
          obtain ⟨b1, hb1, hst⟩ := Zis hst
          cases ha1; cases hb1
          refine ⟨_, _, μ, _, _, hr, Ext.refl _, hr1.over (x := .mapIter (some p.b) since (seen.toArray.push en.born) clk) hi rfl hmu hb0 rfl ?_, .tup (.cons (.bool _) (.cons hxk (.cons hxv .nil))), hst⟩
          refine ⟨hb0, ho2, some p.b, by simp [hwh, hlt, hxb], .inr ⟨mi, p, rfl, rfl, hmp⟩⟩
  · exact hk.elim
theorem Ydv (r : Rel P base w0 μ h w) {a : Zag} {x : Value} (ha : VR μ a x) {K : Zag → Prop} {ty : TypeId} (hk : Zrt P ty a h K) : ∃ y v, (Instr.entry x).run P w = .ok y w ∧ VR μ v y ∧ K v := by
  unfold Zrt at hk
  split at hk
  · rename_i i
    cases ha with
    | iter hmu ho =>
    rename_i e
    obtain ⟨m, since, seen, last, hi, hk⟩ := Zpn hk
    unfold xMp at hk
    split at hk
    · rename_i mi
      obtain ⟨es, clk, hmi, ⟨hnd, rfl⟩, x, hx, s0, rfl, hkK⟩ := Zkm hk
      obtain ⟨hb0, ho2, m', hg, hm⟩ := r.obj i _ hi _ hmu
      rcases hm with ⟨h0, _⟩ | ⟨mi', p, h0, rfl, hmp⟩
      · cases h0
      · cases h0
        obtain ⟨hb1, ents, hg1, hk1', hk2', hk3'⟩ := r.obj mi _ hmi _ hmp
        obtain ⟨a1, ha1, hkK⟩ := Zis hkK
        obtain ⟨b1, hb1, hkK⟩ := Zis hkK
        cases ha1; cases hb1
        have hmem : x.2.2 ∈ ents.toList.map (·.born) := by rw [← hk3']; exact List.mem_map_of_mem hx
        obtain ⟨y, hy, hyb⟩ := List.mem_map.1 hmem
        obtain ⟨x', hx', hxk, hxv, hxb⟩ := VRs.mem2 (p := fun (x : ME) => x.1) (p' := fun (x : ME) => x.2.1) (q := fun (x : MapEntry) => x.key) (q' := fun (x : MapEntry) => x.val) (c := fun (x : ME) => x.2.2) (d := fun (x : MapEntry) => x.born) hk1' hk2' hk3' y hy
        have hxx : x' = x := by
          obtain ⟨j, hj⟩ := List.getElem?_of_mem hx
          obtain ⟨j', hj'⟩ := List.getElem?_of_mem hx'
          have e1 : (es.map (·.2.2))[j]? = some x.2.2 := by rw [List.getElem?_map, hj]; rfl
          have e2 : (es.map (·.2.2))[j']? = some x.2.2 := by rw [List.getElem?_map, hj', Option.map_some, hxb, hyb]
          have := (List.getElem?_inj (List.getElem?_eq_some_iff.1 e1).1 hnd).1 (e1.trans e2.symm)
          subst this
          rw [hj] at hj'; cases hj'; rfl
        subst hxx
        have hr := run_entry_at (P := P) w e.b p.b since s0.toArray ents clk y (by rw [← hyb] at hg; simpa using hg) hg1 hy (by rw [← hk3']; exact hnd)
        exact ⟨_, _, hr, .tup (.cons hxk (.cons hxv .nil)), hkK⟩
    · exact hk.elim
  · exact hk.elim
end
end Go.Sim

set_option linter.unusedSimpArgs false
namespace Go.Sim
open Go Go.RowKit

def Zqj (P : Program) (t : TypeId) (h : Zaa) (s : Zag) (K : Zag → Zaa → Prop) : Prop :=
  match P.underlying t with
  | some (.slice e) => (match s with
    | .slice a n _ _ => (n = 0 → K (.tup []) h) ∧ (n ≠ 0 → Zdg (Zre P e) fun z => chk (z.all Zag.leaf = true ∧ 0 < z.length) (Zcb (Zbc h (.ptr a) (reps n z)) fun h' => K (.tup []) h'))
    | _ => False)
  | _ => False
section
variable {P : Program} {base : Nat} {w0 : World} {μ : List Pl} {h : Zaa} {w : World}
theorem Ycu (r : Rel P base w0 μ h w) {i o : Nat} {e : Pl} (hmu : μ[i]? = some e) {vs : List Zag} {ys : List Value} (hvs : VRs μ vs ys) (h1 : ∀ y ∈ ys, y.oneCell' = true) {h' : Zaa} (hst : Zbc h (.ptr (some (i, o))) vs = some h') :
    ∃ w', (storeCells ⟨e.b, e.o + o, none⟩ ys).run P w = .ok () w' ∧ Rel P base w0 μ h' w' := by
  simp only [Zbc] at hst
  · split at hst
    · rename_i et cs hi
      split at hst
      · rename_i hle
        cases hst
        have hobj := r.obj i _ hi e hmu
        obtain ⟨C, el, fr, hg, hcs, hown⟩ := hobj
        simp only [Bool.false_eq_true, if_false] at hown
        obtain ⟨ho1, ho0, rfl, rfl, hn, hcz, hbase⟩ := hown
        have hlen := hvs.length
        have hcl := hcs.length
        have hCl : cs.length ≤ C.size := by simp at hcl; omega
        rw [ho0] at hcs
        simp only [List.drop_zero] at hcs
        have hfit : (e.o + o) + 0 + ys.length ≤ C.size := by rw [← hlen, ho0]; omega
        have hst := run_storeCells_at (P := P) e.b (e.o + o) el ys 0 C w hg hfit h1
        simp only [Nat.add_zero] at hst
        refine ⟨w.setRow e.b (C.toList.take (e.o + o) ++ ys ++ C.toList.drop (e.o + o + ys.length)).toArray, hst, ?_⟩
        refine r.change (o := .cells el cs false) hi rfl hmu ⟨rfl, rfl, rfl, by simp [World.setRow], fun k hk => setRow_other w e.b k _ (by omega)⟩ (fun k hk _ => setRow_other w e.b k _ hk) ?_ (.inl rfl)
        refine ⟨_, el, (0, 0), setRow_heap w e.b C _ el _ hg, ?_, ?_⟩
        · have hpl : (Zbi cs o vs).length = cs.length := by simp [Zbi]; omega
          rw [hpl, ho0]
          simp only [List.drop_zero, Nat.zero_add]
          have := hcs.put hvs o
          have e2 : ((C.toList.take o ++ ys ++ C.toList.drop (o + ys.length)).take cs.length) = ((C.toList.take cs.length).take o ++ ys ++ (C.toList.take cs.length).drop (o + ys.length)) := by
            apply List.ext_getElem?
            intro j
            simp only [List.getElem?_take, List.getElem?_append, List.length_append, List.length_take, List.getElem?_drop, Array.length_toList]
            have := hlen
            by_cases h1 : j < cs.length <;> by_cases h2 : j < o <;> simp [h1, h2] <;> (try omega) <;> (repeat' split) <;> (try omega) <;> (try rfl) <;> (try (congr 1; omega))
          rw [e2]; exact this
        · simp only [Bool.false_eq_true, if_false]
          refine ⟨ho1, ho0, trivial, trivial, ?_, hcz, hbase⟩
          simp only [List.size_toArray, List.length_append, List.length_take, List.length_drop, Array.length_toList] at hfit ⊢
          omega
      · cases hst
    · cases hst
theorem Yee (r : Rel P base w0 μ h w) {t ty : TypeId} {s : Zag} {x : Value} (hs : VR μ s x) {K : Zag → Zaa → Prop} (hk : Zqj P t h s K) :
    Res P base w0 μ ((Builtin.clear_ #[t] ty #[x]).run P w) K := by
  unfold Zqj at hk
  split at hk
  · rename_i e hu
    split at hk
    · rename_i a n c ex
      obtain ⟨k0, k1⟩ := hk
      by_cases hn : n = 0
      · subst hn
        refine ⟨.tuple #[], w, μ, .tup [], h, ?_, Ext.refl _, r, .tup .nil, k0 rfl⟩
        cases hs <;> first | (simp [Builtin.clear_, run_underlying hu]; done) | (rename_i aa; cases aa <;> simp [Builtin.clear_, run_underlying hu]; done) | (rename_i aa bb; cases aa <;> simp [Builtin.clear_, run_underlying hu]; done) | (rename_i aa bb; cases bb <;> simp [Builtin.clear_, run_underlying hu]; done)
      · obtain ⟨z, hz, hk⟩ := Zet (k1 hn)
        replace hk := Zbg hk; obtain ⟨⟨hl, hpos⟩, hk⟩ := hk
        obtain ⟨ii, zv, _, _, hzv, hzr⟩ := Zom (μ := μ) hz
        unfold Zcb at hk
        split at hk
        · rename_i h' hst
          have hsz : 0 < zv.cells.size := by have := hzv.length; simp at this; omega
          have hv := hzv.reps n
          rw [← Zpi n zv.cells hsz] at hv
          cases hs with
          | slice hmu hle1 hle2 he1 he2 =>
            have h1 : ∀ y ∈ (Builtin.zeroCells zv.cells n).toList, y.oneCell' = true := by
              intro y hy
              have hall := hzv.leaf1 hl
              have hy' : y ∈ (List.replicate n zv.cells.toList).flatten := by rw [← Zpi n zv.cells hsz]; exact hy
              obtain ⟨l, hl1, hl2⟩ := List.mem_flatten.1 hy'
              rw [List.mem_replicate] at hl1
              rw [hl1.2] at hl2
              exact hall y hl2
            obtain ⟨w', hr, hrel⟩ := Ycu r hmu (ys := (Builtin.zeroCells zv.cells n).toList) hv h1 hst
            refine ⟨.tuple #[], w', μ, .tup [], h', ?_, Ext.refl _, hrel, .tup .nil, hk⟩
            obtain ⟨m, rfl⟩ : ∃ m, n = m + 1 := ⟨n - 1, by omega⟩
            simp [Builtin.clear_, run_underlying hu, hzr w, hr]
          | _ => first | omega | simp [Zbc] at hst
        · exact hk.elim
    · exact hk.elim
  · exact hk.elim
end
end Go.Sim

set_option linter.unusedSimpArgs false
namespace Go.Sim
open Go Go.RowKit

structure Zae (P : Program) (n : FuncId) (args : List Zag) (h : Zaa) (Q : Zag → Zaa → Prop) : Prop where
  able : ∃ fn, P.funcs[n]? = some fn ∧ fn.body.isSome = true ∧ (fn.name == "runtime.NumGoroutine") = false
  calls : ∀ (base : Nat) (w0 : World) (μ : List Pl) (w : World) (xs : Array Value), Rel P base w0 μ h w → VRs μ args xs.toList →
    Calls P n xs w fun e w' => ∃ x μ' v h', e = .returned x ∧ Ext μ μ' ∧ Rel P base w0 μ' h' w' ∧ VR μ' v x ∧ Q v h'
theorem Zae.mono {P : Program} {n : FuncId} {args : List Zag} {h : Zaa} {Q Q' : Zag → Zaa → Prop} (hc : Zae P n args h Q) (hq : ∀ v h', Q v h' → Q' v h') : Zae P n args h Q' :=
  ⟨hc.1, fun base w0 μ w xs r hx => (hc.2 base w0 μ w xs r hx).mono fun _ _ ⟨x, μ', v, h', a, b, c, d, q⟩ => ⟨x, μ', v, h', a, b, c, d, hq _ _ q⟩⟩

def rts (P : Program) (f : FuncId) : List TypeId := match P.funcs[f]? with | some fn => fn.resultTypes.toList | none => []
def Yhi (P : Program) (f : FuncId) (args : List Zag) (h : Zaa) (K : Zag → Zaa → Prop) : Prop := Zae P f args h fun v h' => Ygk P (rts P f) v fun v => K v h'
def Yjc (v : Zag) (K : FuncId → List Zag → Prop) : Prop := match v with | .fn g caps => K g caps | _ => False
def Yjr (P : Program) (t : TypeId) : List TypeId := match P.underlying t with | some (.tuple ts) => ts.toList | _ => [t]
def Yit (P : Program) (t : TypeId) (v : Zag) (args : List Zag) (h : Zaa) (K : Zag → Zaa → Prop) : Prop := Yjc v fun g caps => Zae P g (args ++ caps) h fun v h' => Ygk P (Yjr P t) v fun v => K v h'
def Ybf (P : Program) (env : Env) (h : Zaa) (o : Oper) (c : Call) (K : Zag → Zaa → Prop) : Prop :=
  match c.callee with
  | .value f => (match f with
    | .func g => Yhi P g (c.args.toList.map (ev env) ++ []) h K
    | f => Yit P o.type (ev env f) (c.args.toList.map (ev env)) h K)
  | .builtin .append => (match c.argTypes.toList with
    | [t, u] => chk (u = t) (match c.args.toList.map (ev env) with | [s, x] => Zcy P t h s x fun v h' => xv .slice (some v) fun v => K v h' | _ => False)
    | _ => False)
  | .builtin .min => (match c.args.toList.map (ev env) with | [x, y] => Ygt x y fun v => K v h | _ => False)
  | .builtin .clear => (match c.argTypes.toList with
    | [t] => (match c.args.toList.map (ev env) with | [x] => Zqj P t h x K | _ => False)
    | _ => False)
  | _ => Znt P env o fun v => K v h
def opA (P : Program) (env : Env) (h : Zaa) (o : Oper) (K : Zag → Zaa → Prop) : Prop :=
  match o.op with
  | .load t a => chk ((P.underlying t).isSome = true) (Zpa P t h (ev env a) fun v => K v h)
  | .store t a x => chk ((P.underlying t).isSome = true) (Zrm P t h (ev env a) (ev env x) fun h' => K .undef h')
  | .alloc t => Yes P t h K
  | .box t x => Yjj t h (ev env x) K
  | .build t ps => Yax P t (parts env ps) fun v => K v h
  | .buildSlice t n ps => Zku P t n (parts env ps) h K
  | .call c => Ybf P env h o c K
  | .makeSlice t l c => Zip P t (ev env l) (ev env c) h K
  | .makeMap t r => Zmh P t (r.map (ev env)) h K
  | .lookup t x i ok => Zof P t h (ev env x) (ev env i) ok fun v => K v h
  | .mapUpdate t m k v => Zio P t h (ev env m) (ev env k) (ev env v) K
  | .range t x => Zrz P t (ev env x) h K
  | .next x st => Zyq P o.type (ev env x) st h K
  | .entry x => Zrt P o.type (ev env x) h fun v => K v h
  | .convert s d x => (match Zyg P s with | true => Ygu P s d h (ev env x) fun v => K v h | false => Znt P env o fun v => K v h)
  | _ => Znt P env o fun v => K v h
def Zml (N : Nat) (env : Env) (d : Option Tmp) (v : Zag) (K : Env → Prop) : Prop := match d with | none => K env | some d => chk (d < N) (K (env.set d v))
def Zjb (P : Program) (N : Nat) (ops : Array Oper) (env : Env) (h : Zaa) (o : Oper) (K : Env → Zaa → Prop) : Prop :=
  match o.guard with
  | none => opA P env h o fun v h' => Zml N env o.dst v fun env' => K env' h'
  | some (j, want) => (match (ops[j]?).bind (·.dst) with
    | some t => (match env.get t with
      | .bool b => bcase b
          (match want with | true => opA P (env.set t (.bool true)) h o fun v h' => Zml N (env.set t (.bool true)) o.dst v fun env' => K env' h' | false => Zml N (env.set t (.bool true)) o.dst (.tup []) fun env' => K env' h)
          (match want with | false => opA P (env.set t (.bool false)) h o fun v h' => Zml N (env.set t (.bool false)) o.dst v fun env' => K env' h' | true => Zml N (env.set t (.bool false)) o.dst (.tup []) fun env' => K env' h)
      | .tup [] => Zml N env o.dst (.tup []) fun env' => K env' h
      | _ => False)
    | none => False)
def Yja (P : Program) (N : Nat) (ops : Array Oper) : List Oper → Env → Zaa → (Env → Zaa → Prop) → Prop
  | [], env, h, K => K env h
  | o :: r, env, h, K => Zjb P N ops env h o fun env' h' => Yja P N ops r env' h' K

section
variable {P : Program} {base N : Nat} {w0 : World} {μ : List Pl} {h : Zaa} {w : World}

structure St (P : Program) (base N : Nat) (w0 : World) (μ : List Pl) (env : Env) (h : Zaa) (a : Act) (w : World) : Prop where
  rel : Rel P base w0 μ h w
  env : Zjd μ env a.tmps
  size : a.tmps.size = N
  defers : a.defers = []

def Yea (P : Program) (base N : Nat) (w0 : World) (μ : List Pl) (K : Env → Zaa → Prop) (a : Act) (w : World) : Prop :=
  ∃ μ' env h, Ext μ μ' ∧ St P base N w0 μ' env h a w ∧ K env h

theorem St.put {env : Env} {a : Act} (s : St P base N w0 μ env h a w) {μ' : List Pl} {h' : Zaa} {w' : World} (he : Ext μ μ') (hr : Rel P base w0 μ' h' w') {v : Zag} {x : Value} (hv : VR μ' v x) {d : Option Tmp} {K : Env → Prop} (hk : Zml N env d v K) :
    ∃ env', St P base N w0 μ' env' h' (a.put d x) w' ∧ K env' := by
  unfold Zml at hk
  cases d with
  | none => exact ⟨env, ⟨hr, s.env.ext he, s.size, s.defers⟩, hk⟩
  | some d =>
    replace hk := Zbg hk
    obtain ⟨hd, hk⟩ := hk
    refine ⟨_, ⟨hr, (s.env.ext he).set (by rw [s.size]; exact hd) hv, ?_, s.defers⟩, hk⟩
    simp [Act.put, s.size]

theorem St.know {env : Env} {a : Act} (s : St P base N w0 μ env h a w) {t : Nat} {v : Zag} (hv : VR μ v (a.tmps.getD t undef)) : St P base N w0 μ (env.set t v) h a w :=
  ⟨s.rel, s.env.know hv, s.size, s.defers⟩

theorem Res.wp {o : Oper} {a : Act} {K : Zag → Zaa → Prop} {next : Act → World → Prop} {Q : Exit → Act → World → Prop} {s : Sem Value}
    (hr : Res P base w0 μ (s.run P w) K) (he : (execOp a.eval o).run P w = (s.run P w).andThen fun x w' => .ok (.value x) w')
    (hn : ∀ x w' μ' v h', Ext μ μ' → Rel P base w0 μ' h' w' → VR μ' v x → K v h' → next (a.put o.dst x) w') : o.wp P a w next Q := by
  obtain ⟨x, w', μ', v, h', hrun, hx, hrel, hv, hk⟩ := hr
  unfold Oper.wp
  rw [he, hrun]
  exact hn x w' μ' v h' hx hrel hv hk

theorem Ygq {env : Env} {a : Act} (s : St P base N w0 μ env h a w) {f : FuncId} {args : List Zag} {xs : Array Value} (hxs : VRs μ args xs.toList) {K : Zag → Zaa → Prop} (hk : Zae P f args h K)
    {o : Oper} (he : (execOp a.eval o).run P w = (callFunc f xs).run P w) {next : Act → World → Prop} {Q : Exit → Act → World → Prop}
    (hn : ∀ x w' μ' v h', Ext μ μ' → Rel P base w0 μ' h' w' → VR μ' v x → K v h' → next (a.put o.dst x) w') : o.wp P a w next Q := by
  obtain ⟨⟨fn, hf, hb, hname⟩, hc⟩ := hk
  have hcall : (callFunc f xs).run P w = .ok (.enter f xs) w := by
    obtain ⟨c, hc⟩ := Option.isSome_iff_exists.1 hb
    have hname' : fn.name ≠ "runtime.NumGoroutine" := by simpa using hname
    simp [callFunc, hf, hc, hname']
  unfold Oper.wp
  rw [he, hcall]
  refine (hc base w0 μ w xs s.rel hxs).mono ?_
  rintro e w' ⟨x, μ', v, h', rfl, hx, hr, hv, hq⟩
  exact hn x w' μ' v h' hx hr hv hq

theorem VRs.single {v : Zag} {xs : Array Value} (h : VRs μ [v] xs.toList) : ∃ x, xs = #[x] ∧ VR μ v x := by
  obtain ⟨l⟩ := xs
  match l, h with
  | [x], .cons a .nil => exact ⟨x, rfl, a⟩
theorem Yfs {env : Env} {a : Act} (s : St P base N w0 μ env h a w) {o : Oper} {K : Zag → Zaa → Prop} (hk : opA P env h o K) {next : Act → World → Prop} {Q : Exit → Act → World → Prop}
    (hn : ∀ x w' μ' v h', Ext μ μ' → Rel P base w0 μ' h' w' → VR μ' v x → K v h' → next (a.put o.dst x) w') : o.wp P a w next Q := by
  have hρ := Yhf s.env
  have pure : Znt P env o (fun v => K v h) → o.wp P a w next Q := fun hk => by
    obtain ⟨x, v, hr, hv, hk⟩ := Ygj hρ hk
    unfold Oper.wp
    rw [hr w]
    exact hn x w μ v h (Ext.refl _) s.rel hv hk
  unfold opA at hk
  split at hk
  · rename_i t p he
    replace hk := Zbg hk
    obtain ⟨hu, hk⟩ := hk
    obtain ⟨y, v, hr, hv, hk⟩ := Ycm s.rel (hρ p) hu hk
    unfold Oper.wp
    simp only [execOp, he, Sem.run_bind, hr, Result.andThen_ok, Sem.run_pure]
    exact hn y w μ v h (Ext.refl _) s.rel hv hk
  · rename_i t p x he
    replace hk := Zbg hk
    obtain ⟨hu, hk⟩ := hk
    obtain ⟨w', h', hr, hrel, hk⟩ := Yec s.rel (hρ p) (hρ x) hu hk
    unfold Oper.wp
    simp only [execOp, he, Sem.run_bind, hr, Result.andThen_ok, Sem.run_pure]
    exact hn undef w' μ .undef h' (Ext.refl _) hrel (.undef _) hk
  · rename_i t he
    exact Res.wp (Ydx s.rel hk) (by simp [execOp, he]) hn
  · rename_i t x he
    exact Res.wp (Yhy s.rel (hρ x) hk) (by simp [execOp, he]) hn
  · rename_i t ps he
    obtain ⟨h1, h2⟩ := Zxf hρ ps
    obtain ⟨x, v, hr, hv, hk⟩ := Ydt h1 h2 hk
    unfold Oper.wp
    simp only [execOp, he, Sem.run_bind, hr w, Result.andThen_ok, Sem.run_pure]
    exact hn x w μ v h (Ext.refl _) s.rel hv hk
  · rename_i t n ps he
    obtain ⟨h1, h2⟩ := Zxf hρ ps
    exact Res.wp (Ztc s.rel h1 h2 hk) (by simp [execOp, he]) hn
  · rename_i c he
    unfold Ybf at hk
    split at hk
    · rename_i f hcal
      have go : ∀ (f : Operand), c.callee = .value f → ∀ (g : FuncId) (caps : List Zag), ev env f = .fn g caps → Zae P g (c.args.toList.map (ev env) ++ caps) h K → o.wp P a w next Q := by
        intro f hcal g caps hev hk
        have hf := hρ f
        rw [hev] at hf
        cases hfv : a.eval f with
        | func fn first cap =>
          rw [hfv] at hf
          cases hf with
          | fn hcaps =>
          refine Ygq s (xs := c.args.map a.eval ++ cap) (by rw [Array.toList_append]; exact (Zoo hρ c.args).append hcaps) hk ?_ hn
          simp [execOp, he, resolve, hcal, hfv, Deferred.ofValue, invoke]
        | _ => rw [hfv] at hf; cases hf
      split at hk
      · rename_i g
        exact go _ hcal g [] rfl (Zae.mono hk fun _ _ hq => Zuv (K := fun v => K v _) hq)
      · unfold Yit Yjc at hk
        split at hk
        · rename_i g caps hev
          exact go _ hcal g caps hev (Zae.mono hk fun _ _ hq => Zuv (K := fun v => K v _) hq)
        · exact hk.elim
    · rename_i hcal
      split at hk
      · rename_i t u hts
        replace hk := Zbg hk
        obtain ⟨rfl, hk⟩ := hk
        split at hk
        · rename_i sv xv hargs
          have hvs := Zoo hρ c.args
          rw [hargs] at hvs
          obtain ⟨x, y, hxy, h1, h2⟩ := hvs.two
          refine Res.wp (Ycd (ty := o.type) s.rel h1 h2 hk) ?_ fun x w' μ' v h' hx hr hv hk => (by obtain ⟨v2, hv2, hk⟩ := Zis hk; cases hv2; exact hn x w' μ' v h' hx hr hv hk)
          have hat : c.argTypes = #[u, u] := by
            apply Array.ext'; simpa using hts
          simp [execOp, he, resolve, hcal, invoke, builtin, hxy, hat]
        · exact hk.elim
      · exact hk.elim
    · rename_i hcal
      split at hk
      · rename_i a b hargs
        have hvs := Zoo hρ c.args
        rw [hargs] at hvs
        obtain ⟨x, y, hxy, h1, h2⟩ := hvs.two
        obtain ⟨v, z, hr, hv, hk⟩ := Yhh (ts := c.argTypes) (t := o.type) h1 h2 hk
        exact Res.wp (s := Builtin.min_ c.argTypes o.type #[x, y]) ⟨z, w, μ, v, h, hr w, Ext.refl _, s.rel, hv, hk⟩ (by simp [execOp, he, resolve, hcal, invoke, builtin, hxy]) hn
      · exact hk.elim
    · rename_i hcal
      split at hk
      · rename_i t hts
        split at hk
        · rename_i x1 hargs
          have hvs := Zoo hρ c.args
          rw [hargs] at hvs
          obtain ⟨x, hxy, h1⟩ := hvs.single
          refine Res.wp (Yee (ty := o.type) s.rel h1 hk) ?_ hn
          have hat : c.argTypes = #[t] := by
            apply Array.ext'; simpa using hts
          simp [execOp, he, resolve, hcal, invoke, builtin, hxy, hat]
        · exact hk.elim
      · exact hk.elim
    · exact pure hk
  · rename_i t l c he
    exact Res.wp (Zth s.rel (hρ l) (hρ c) hk) (by simp [execOp, he]) hn
  · rename_i t m he
    refine Res.wp (Zzs (x := m.map a.eval) s.rel ?_ hk) (by simp [execOp, he]) hn
    cases m with
    | none => exact .inl ⟨rfl, rfl⟩
    | some m => exact .inr ⟨_, _, rfl, rfl, hρ m⟩
  · rename_i t x i ok he
    obtain ⟨z, v, hr, hv, hk⟩ := Yac s.rel (hρ x) (hρ i) hk
    exact Res.wp (s := Instr.lookup t (a.eval x) (a.eval i) ok) ⟨z, w, μ, v, h, hr, Ext.refl _, s.rel, hv, hk⟩ (by simp [execOp, he]) hn
  · rename_i t m k x he
    obtain ⟨w', h', hr, hrel, hk⟩ := Ztu s.rel (hρ m) (hρ k) (hρ x) hk
    unfold Oper.wp
    simp only [execOp, he, Sem.run_bind, hr, Result.andThen_ok, Sem.run_pure]
    exact hn undef w' μ .undef h' (Ext.refl _) hrel (.undef _) hk
  · rename_i t x he
    exact Res.wp (Ydw s.rel (hρ x) hk) (by simp [execOp, he]) hn
  · rename_i x st he
    exact Res.wp (Ybt (ty := o.type) s.rel (hρ x) hk) (by simp [execOp, he]) hn
  · rename_i x he
    obtain ⟨z, v, hr, hv, hk⟩ := Ydv s.rel (hρ x) hk
    exact Res.wp (s := Instr.entry (a.eval x)) ⟨z, w, μ, v, h, hr, Ext.refl _, s.rel, hv, hk⟩ (by simp [execOp, he]) hn
  · rename_i a b x he
    split at hk
    · exact Res.wp (Yfq s.rel (hρ x) hk) (by simp [execOp, he]) hn
    · exact pure hk
  · exact pure hk

theorem Ycf {tmps : Array Value} {t : Nat} {b : Bool} (h : VR μ (.bool b) (tmps.getD t undef)) : tmps[t]? = some (.bool b) := by
  simp only [Array.getD_eq_getD_getElem?] at h
  cases hx : tmps[t]? with
  | none => rw [hx] at h; simp [undef] at h; cases h
  | some x => rw [hx] at h; simp at h; cases h; rfl

theorem Yay {ops : Array Oper} {env : Env} {a : Act} (s : St P base N w0 μ env h a w) {o : Oper} {K : Env → Zaa → Prop} (hk : Zjb P N ops env h o K) {next : Act → World → Prop} {Q : Exit → Act → World → Prop}
    (hn : ∀ a w, Yea P base N w0 μ K a w → next a w) : if Region.wanted o (yielded ops a.tmps) then o.wp P a w next Q else next (a.put o.dst undef) w := by
  have fin : ∀ {env : Env} {v : Zag} {x : Value} {μ' : List Pl} {h' : Zaa} {w' : World}, St P base N w0 μ env h a w → Ext μ μ' → Rel P base w0 μ' h' w' → VR μ' v x → Zml N env o.dst v (fun env' => K env' h') → next (a.put o.dst x) w' := by
    intro env v x μ' h' w' s hx hr hv hk
    obtain ⟨env', s', hk⟩ := s.put hx hr hv hk
    exact hn _ _ ⟨μ', env', h', hx, s', hk⟩
  unfold Zjb at hk
  split at hk
  · rename_i hg
    have : Region.wanted o (yielded ops a.tmps) = true := by simp [Region.wanted, hg]
    rw [if_pos this]
    exact Yfs s hk fun x w' μ' v h' hx hr hv hk => fin s hx hr hv hk
  · rename_i j want hg
    split at hk
    · rename_i t ht
      split at hk
      · rename_i b hb
        have henv := s.env t
        rw [hb] at henv
        have hy : yielded ops a.tmps j = some b := by
          unfold yielded
          rw [ht]; simp only [Option.bind_some, Ycf henv]
        have hwant : Region.wanted o (yielded ops a.tmps) = (b == want) := by simp [Region.wanted, hg, hy]
        rw [hwant]
        have hknow : ∀ c, b = c → St P base N w0 μ (env.set t (.bool c)) h a w := fun c e => by subst e; exact s.know henv
        refine Zyr hk ?_ ?_
        · rintro rfl hk
          have s' := hknow true rfl
          cases want with
          | true => exact Yfs s' hk fun x w' μ' v h' hx hr hv hk => fin s' hx hr hv hk
          | false => exact fin s' (Ext.refl _) s.rel (.tup .nil) hk
        · rintro rfl hk
          have s' := hknow false rfl
          cases want with
          | false => exact Yfs s' hk fun x w' μ' v h' hx hr hv hk => fin s' hx hr hv hk
          | true => exact fin s' (Ext.refl _) s.rel (.tup .nil) hk
      · rename_i hb
        have henv := s.env t
        rw [hb] at henv
        have hy : yielded ops a.tmps j = none := by
          unfold yielded
          rw [ht]; simp only [Option.bind_some]
          have : a.tmps[t]? = none ∨ a.tmps[t]? = some (.tuple #[]) := by
            simp only [Array.getD_eq_getD_getElem?] at henv
            cases hx : a.tmps[t]? with
            | none => exact .inl rfl
            | some x =>
              rw [hx] at henv
              simp only [Option.getD_some] at henv
              cases henv with
              | tup hv => 
                have := hv.length
                rename_i xs
                have : xs = #[] := by apply Array.ext'; exact List.eq_nil_of_length_eq_zero (by simpa using this.symm)
                subst this; exact .inr rfl
          rcases this with h | h <;> rw [h]
        have hwant : Region.wanted o (yielded ops a.tmps) = false := by simp [Region.wanted, hg, hy]
        rw [hwant]
        exact fin s (Ext.refl _) s.rel (.tup .nil) hk
      · exact hk.elim
    · exact hk.elim

theorem Yeo {ops : Array Oper} {Q : Exit → Act → World → Prop} : ∀ (l : List Oper) {μ : List Pl} {h : Zaa} {w : World} {env : Env} {a : Act}, St P base N w0 μ env h a w → ∀ {K : Env → Zaa → Prop}, Yja P N ops l env h K →
    (∀ a w, Yea P base N w0 μ K a w → Q .normal a w) → wpList P ops Q l a w
  | [], μ, h, w, env, a, s, K, hk, hq => hq a w ⟨μ, env, h, Ext.refl _, s, hk⟩
  | o :: r, μ, h, w, env, a, s, K, hk, hq => by
    have hstep := Yay (next := wpList P ops Q r) (Q := Q) s hk (fun a' w' ⟨μ', env', h', hx, s', hk'⟩ => Yeo r s' hk' (fun a w ⟨μ2, env2, h2, hx2, s2, k2⟩ => hq a w ⟨μ2, env2, h2, hx.trans hx2, s2, k2⟩))
    unfold wpList
    split
    · rename_i hw; rw [if_pos hw] at hstep; exact .inl hstep
    · rename_i hw; rw [if_neg hw] at hstep; exact hstep
end
end Go.Sim

set_option linter.unusedSimpArgs false
namespace Go.Sim
open Go Go.RowKit

section
variable {P : Program} {K K' : Zag → Zaa → Prop} {k k' : Zag → Prop}

theorem Zza {o : Option Zag} {K K' : Bool → Prop} (h : Zcv o K) (m : ∀ b, K b → K' b) : Zcv o K' := by
  unfold Zcv at *; split at h <;> first | exact m _ h | exact h.elim
theorem Ybc {q : IntKind} {o : Option Zag} {K K' : Int → Prop} (h : Zgn q o K) (m : ∀ b, K b → K' b) : Zgn q o K' := by
  unfold Zgn at *; split at h <;> first | exact ⟨h.1, m _ h.2⟩ | exact h.elim
theorem Zqb {o : Option Zag} {K K' : List Nat → Prop} (h : Zbs o K) (m : ∀ b, K b → K' b) : Zbs o K' := by
  unfold Zbs at *; split at h <;> first | exact m _ h | exact h.elim
theorem Zzz {o : Option Zag} {K K' : Option (Nat × Nat) → Prop} (h : Znk o K) (m : ∀ b, K b → K' b) : Znk o K' := by
  unfold Znk at *; split at h <;> first | exact m _ h | exact h.elim
theorem Ydp {o : Option Zag} {K K' : Option (Nat × Nat) → Nat → Nat → Bool → Prop} (h : xSl o K) (m : ∀ a b c d, K a b c d → K' a b c d) : xSl o K' := by
  unfold xSl at *; split at h <;> first | exact m _ _ _ _ h | exact h.elim
theorem Yau {o : Option Zag} {K K' : Option Nat → Prop} (h : Yfx o K) (m : ∀ b, K b → K' b) : Yfx o K' := by
  unfold Yfx at *; split at h <;> first | exact m _ h | exact h.elim
theorem Znn {o : Option Zag} (h : Zwt o k) (m : ∀ b, k b → k' b) : Zwt o k' := by
  unfold Zwt at *; split at h <;> first | exact m _ h | exact h.elim
theorem Zsc {cs : List Zag} {K K' : Zag → List Zag → Prop} (h : Zak cs K) (m : ∀ a b, K a b → K' a b) : Zak cs K' := by
  unfold Zak at *; split at h <;> first | exact m _ _ h | exact h.elim
theorem Ztp {cs : List Zag} {K K' : Prop} (h : Zct cs K) (m : K → K') : Zct cs K' := by
  unfold Zct at *; split at h <;> first | exact m h | exact h.elim
theorem Zen {o : Option (List Zag)} {K K' : List Zag → Prop} (h : Zdg o K) (m : ∀ b, K b → K' b) : Zdg o K' := by
  unfold Zdg at *; split at h <;> first | exact m _ h | exact h.elim
theorem Zrj {o : Option Zaa} {K K' : Zaa → Prop} (h : Zcb o K) (m : ∀ b, K b → K' b) : Zcb o K' := by
  unfold Zcb at *; split at h <;> first | exact m _ h | exact h.elim
theorem Ybx {v : Zag} {K K' : List Zag → Prop} (h : Zoc v K) (m : ∀ b, K b → K' b) : Zoc v K' := by
  unfold Zoc at *; split at h <;> first | exact m _ h | exact h.elim
theorem Yab {v : Zag} {K K' : List Zag → Prop} (h : Zys v K) (m : ∀ b, K b → K' b) : Zys v K' := by
  unfold Zys at *; split at h <;> first | exact m _ h | exact h.elim
theorem Zqr {o : Option Field} {K K' : Field → Prop} (h : Zmi o K) (m : ∀ b, K b → K' b) : Zmi o K' := by
  unfold Zmi at *; split at h <;> first | exact m _ h | exact h.elim
theorem Zbt {p : Prop} [Decidable p] {K K' : Prop} (h : chk p K) (m : K → K') : chk p K' := by
  unfold chk at *; split at h <;> first | exact m h | exact h.elim
theorem Ziv {o : Option Zag} {d : Int} {K K' : Int → Prop} (h : Zhc o d K) (m : ∀ b, K b → K' b) : Zhc o d K' := by
  unfold Zhc at *; split at h <;> first | exact m _ h | exact h.elim
theorem Zzg {b : Bool} {A B A' B' : Prop} (h : bcase b A B) (m : A → A') (n : B → B') : bcase b A' B' := by
  unfold bcase at *; split at h <;> first | exact m h | exact n h
theorem Zkw {s : Sh} {o : Option Zag} (h : xv s o k) (m : ∀ v, k v → k' v) : xv s o k' := by
  cases s <;> simp only [xv] at *
  · exact Zza h fun _ => m _
  · exact Ybc h fun _ => m _
  · exact Zqb h fun _ => m _
  · exact Zzz h fun _ => m _
  · exact Ydp h fun _ _ _ _ => m _
  · exact Yau h fun _ => m _
  · exact Znn h m
theorem Zvi : ∀ {ss : List Sh} {cs : List Zag} {K K' : List Zag → Prop}, xs ss cs K → (∀ v, K v → K' v) → xs ss cs K'
  | [], _, _, _, h, m => Ztp h (m _)
  | _ :: _, _, _, _, h, m => Zsc h fun _ _ h => Zkw h fun _ h => Zvi h fun _ => m _
theorem Yaj {t : TypeId} {v : Zag} (h : xt P t v k) (m : ∀ v, k v → k' v) : xt P t v k' := by
  unfold xt at *
  split at h
  · exact Ybx h fun _ h => Zvi h fun _ => m _
  · exact Zkw h m
theorem Zxm : ∀ {ts : List TypeId} {cs : List Zag} {K K' : List Zag → Prop}, xts P ts cs K → (∀ v, K v → K' v) → xts P ts cs K'
  | [], _, _, _, h, m => Ztp h (m _)
  | _ :: _, _, _, _, h, m => Zsc h fun _ _ h => Yaj h fun _ h => Zxm h fun _ => m _
theorem Zui {ts : List TypeId} {v : Zag} (h : Ygk P ts v k) (m : ∀ v, k v → k' v) : Ygk P ts v k' := by
  unfold Ygk at *
  split at h
  · exact m _ h
  · exact Yaj h m
  · exact Yab h fun _ h => Zxm h fun _ => m _
theorem Zyp {t : TypeId} {h : Zaa} {p : Zag} (hh : Zpa P t h p k) (m : ∀ v, k v → k' v) : Zpa P t h p k' := by
  unfold Zpa at *
  split at hh
  · exact Zen hh fun _ h => Zvi h fun _ => m _
  · exact Zkw hh m
theorem Zvj {t : TypeId} {h : Zaa} {p v : Zag} {K K' : Zaa → Prop} (hh : Zrm P t h p v K) (m : ∀ v, K v → K' v) : Zrm P t h p v K' := by
  unfold Zrm at *
  split at hh
  · split at hh
    · exact Zrj hh m
    · exact hh.elim
  · exact hh.elim
theorem Zzj {a b : Option (Nat × Nat)} {K K' : Bool → Prop} (h : Zwq a b K) (m : ∀ b, K b → K' b) : Zwq a b K' := by
  unfold Zwq at *
  split at h
  · exact m _ h
  · split at h
    · exact m _ h
    · exact h.elim
theorem Zmc {a : Option (Nat × Nat)} {K K' : Nat → Nat → Prop} (h : Zbu a K) (m : ∀ b o, K b o → K' b o) : Zbu a K' := by
  obtain ⟨b, o, rfl, h⟩ := Zcm h
  exact m _ _ h
theorem Zxu {t : TypeId} {x y : Zag} {K K' : Bool → Prop} (h : eqA P t x y K) (m : ∀ b, K b → K' b) : eqA P t x y K' := by
  unfold eqA at *
  split at h <;> (try exact h.elim) <;> split at h <;> (try exact h.elim)
  · exact Zbt h (m _)
  · exact m _ h
  · exact Zbt h (m _)
  · exact Zbt h fun h => Zzj h m
  · split at h
    · exact m _ h
    · exact h.elim
  · exact Zbt h fun h => ⟨h.1, m _ h.2⟩
theorem Ybm {op : BinOp} {t : TypeId} {x y : Zag} (h : Yev P op t x y k) (m : ∀ v, k v → k' v) : Yev P op t x y k' := by
  unfold Yev at *
  split at h
  · exact Zxu h fun _ => m _
  · exact Zxu h fun _ => m _
  · split at h
    · split at h
      · split at h <;> first
          | exact h.elim
          | exact Zbt h (m _)
          | exact Zbt h fun h => ⟨h.1, m _ h.2⟩
          | exact ⟨h.1, m _ h.2⟩
      · exact h.elim
    · split at h
      · split at h <;> first
          | exact h.elim
          | exact ⟨h.1, m _ h.2⟩
          | exact m _ h
      · exact h.elim
    · exact h.elim
theorem Zsa {t : TypeId} {cs : List Zag} {off : Nat} (h : Zqw P t cs off k) (m : ∀ v, k v → k' v) : Zqw P t cs off k' := by
  unfold Zqw at *
  split at h
  · exact m _ h
  · exact Zbt h fun h => Znn h m
theorem Ybu {ts : Array TypeId} {xs : List Zag} (h : Ygc P ts xs k) (m : ∀ v, k v → k' v) : Ygc P ts xs k' := by
  unfold Ygc at *
  split at h <;> first | exact h.elim | exact Zbt h (m _)
theorem Zzc {s d : TypeId} {x : Zag} (h : Zvw P s d x k) (m : ∀ v, k v → k' v) : Zvw P s d x k' := by
  unfold Zvw at *
  split at h
  · split at h <;> first | exact h.elim | exact Zbt h (m _)
  · split at h <;> first | exact h.elim | exact Zbt h (m _) | exact Zbt h fun h => ⟨h.1, m _ h.2⟩
  · exact h.elim
theorem Zws {t : TypeId} {x : Zag} {lo hi mx : Option Zag} (h : Zrq P t x lo hi mx k) (m : ∀ v, k v → k' v) : Zrq P t x lo hi mx k' := by
  unfold Zrq at *
  split at h
  · split at h
    · exact Zbt h fun h => Ziv h fun _ h => Ziv h fun _ h => ⟨h.1, m _ h.2⟩
    · exact h.elim
  · split at h
    · refine Zbt h fun h => Zbt h fun h => Ziv h fun _ h => Ziv h fun _ h => Ziv h fun _ h => ⟨h.1, ?_⟩
      have h2 := h.2
      split at h2
      · exact ⟨h2.1, m _ h2.2⟩
      · exact ⟨fun a => m _ (h2.1 a), fun a => m _ (h2.2 a)⟩
    · exact h.elim
  · exact h.elim
theorem Zod {env : Env} {o : Oper} (h : Znt P env o k) (m : ∀ v, k v → k' v) : Znt P env o k' := by
  obtain ⟨dst, op, type, pos, after, guard⟩ := o
  unfold Znt at *
  cases op <;> simp only at h ⊢ <;> (try exact h.elim)
  case move x => exact m _ h
  case assign x => exact m _ h
  case pick c a b =>
    unfold Yar at *
    split at h
    · exact Zzg h (m _) (m _)
    · exact h.elim
  case nilCheck x =>
    unfold Yio at *
    split at h <;> first | exact h.elim | exact m _ h | exact Zmc h fun _ _ => m _
  case fieldAddr t x i =>
    unfold Zkb at *
    split at h
    · exact Zqr h fun _ h => Zbt h fun h => Zbt h fun h => Zmc h fun _ _ => m _
    · exact h.elim
  case field t x i =>
    unfold Zvc at *
    split at h
    · exact Zqr h fun _ h => Zsa h m
    · exact h.elim
  case indexAddr t x i =>
    unfold Zki at *
    split at h
    · split at h
      · split at h <;> first | exact h.elim | exact Zbt h fun h => ⟨h.1, Zmc h.2 fun _ _ => m _⟩
      · split at h <;> first | exact h.elim | exact Zbt h fun h => ⟨h.1, Zmc h.2 fun _ _ => m _⟩
      · exact h.elim
    · exact h.elim
  case index t x i =>
    unfold Ztr at *
    split at h
    · split at h
      · split at h
        · exact ⟨h.1, m _ h.2⟩
        · exact h.elim
      · split at h
        · exact Zbt h fun h => ⟨h.1, Zsa h.2 m⟩
        · exact h.elim
      · exact h.elim
    · exact h.elim
  case slice t x lo hi mx => exact Zws h m
  case binOp op t x y yt => exact Ybm h m
  case unOp op t x =>
    unfold unA at *
    split at h
    · split at h <;> first | exact h.elim | exact m _ h
    · split at h <;> first | exact h.elim | exact m _ h
    · exact h.elim
  case convert s d x => exact Zzc h m
  case extract x i =>
    unfold Zny at *
    split at h
    · exact Znn h m
    · exact h.elim
  case makeFunc fn first caps =>
    cases fn <;> simp only at h ⊢ <;> first | exact h.elim | exact Zbt h (m _)
  case call c =>
    split at h
    · exact Ybu h m
    · exact h.elim
theorem Zpy {h : Zaa} {j : Nat} {e : TypeId} {A B : List Zag → Prop} (hh : Zlj h j e A) (m : ∀ cs, A cs → B cs) : Zlj h j e B := by
  unfold Zlj at *
  split at hh
  · exact ⟨hh.1, m _ hh.2⟩
  · exact hh.elim
theorem Zul {t : TypeId} {h : Zaa} {s x : Zag} (hh : Zcy P t h s x K) (m : ∀ v h, K v h → K' v h) : Zcy P t h s x K' := by
  unfold Zcy at *
  split at hh <;> (try exact hh.elim)
  split at hh <;> (try exact hh.elim)
  split at hh <;> (try exact hh.elim)
  refine Zen hh fun new h => ⟨h.1, ?_⟩
  have h2 := h.2
  split at h2
  · exact ⟨fun a => m _ _ (h2.1 a), fun a => ⟨(h2.2 a).1, m _ _ (h2.2 a).2⟩⟩
  · rcases h2 with ⟨a, b⟩ | ⟨a, b⟩ | ⟨a, b⟩
    · exact .inl ⟨a, Zpy b fun _ h => ⟨h.1, m _ _ h.2⟩⟩
    · exact .inr (.inl ⟨a, Zpy b fun _ h => ⟨h.1, m _ _ h.2⟩⟩)
    · exact .inr (.inr ⟨a, Zen b fun _ => m _ _⟩)
theorem Zpu : ∀ {cs : List Zag} {K K' : List Nat → Prop}, Zly cs K → (∀ s, K s → K' s) → Zly cs K'
  | [], _, _, h, m => m _ h
  | .int k n :: r, _, _, h, m => by
    unfold Zly at *
    exact Zbt h fun h => ⟨h.1, Zpu h.2 fun _ => m _⟩
  | .undef :: _, _, _, h, _ | .bool _ :: _, _, _, h, _ | .str _ :: _, _, _, h, _ | .ptr _ :: _, _, _, h, _ | .slice .. :: _, _, _, h, _ | .map _ :: _, _, _, h, _ | .fn .. :: _, _, _, h, _ | .nilFn :: _, _, _, h, _ | .iter _ :: _, _, _, h, _
  | .agg _ :: _, _, _, h, _ | .tup _ :: _, _, _, h, _ => by unfold Zly at h; exact h.elim
theorem Yal {s d : TypeId} {h : Zaa} {x : Zag} {K K' : Zag → Prop} (hh : Ygu P s d h x K) (m : ∀ v, K v → K' v) : Ygu P s d h x K' := by
  unfold Ygu at *
  split at hh
  · refine Zbt hh fun h => ?_
    split at h
    · exact Zen h fun _ h => Zpu h fun _ => m _
    · exact h.elim
  · exact hh.elim
theorem Ybw {x y : Zag} {K K' : Zag → Prop} (hh : Ygt x y K) (m : ∀ v, K v → K' v) : Ygt x y K' := by
  unfold Ygt at *
  split at hh
  · split at hh
    · exact Zbt hh (m _)
    · exact hh.elim
  · exact hh.elim
theorem Zqa {t : TypeId} {a b : Zag} {h : Zaa} {K K' : Zag → Zaa → Prop} (hh : Zip P t a b h K) (m : ∀ v h, K v h → K' v h) : Zip P t a b h K' := by
  unfold Zip at *
  split at hh
  · refine Zen hh fun _ h => Zbt h fun h => ?_
    unfold Zgn at *
    split at h
    · refine ⟨h.1, ?_⟩
      replace h := h.2
      split at h
      · exact ⟨h.1, h.2.1, m _ _ h.2.2⟩
      · exact h.elim
    · exact h.elim
  · exact hh.elim
theorem Zib {h : Zaa} {m : Option Nat} {K K' : List ME → Nat → Prop} (hh : Ziz h m K) (m' : ∀ a b, K a b → K' a b) : Ziz h m K' := by
  unfold Ziz at *
  split at hh
  · exact m' _ _ hh
  · split at hh
    · exact m' _ _ hh
    · exact hh.elim
theorem Zyh {es : List ME} {s : List Nat} {K K' : Option Zag → Prop} (hh : Zue es s K) (m : ∀ a, K a → K' a) : Zue es s K' := by
  unfold Zue at *; split at hh <;> first | exact m _ hh | exact hh.elim
theorem Ybb {es : List ME} {clk : Nat} {s : List Nat} {v : Zag} {K K' : List ME → Nat → Prop} (hh : Yfu es clk s v K) (m : ∀ a b, K a b → K' a b) : Yfu es clk s v K' := by
  unfold Yfu at *; split at hh <;> first | exact m _ _ hh | exact hh.elim
theorem Zxl {m : Option Nat} {K K' : Nat → Prop} (hh : xMp m K) (mm : ∀ a, K a → K' a) : xMp m K' := by
  unfold xMp at *; split at hh <;> first | exact mm _ hh | exact hh.elim
theorem Zyd {h : Zaa} {r : Nat} {K K' : List Nat → Nat → Prop} (hh : Zym h r K) (m : ∀ a b, K a b → K' a b) : Zym h r K' := by
  unfold Zym at *; split at hh <;> first | exact m _ _ hh | exact hh.elim
theorem Zpj {h : Zaa} {r : Nat} {K K' : Option Nat → Nat → List Nat → Nat → Prop} (hh : Zqg h r K) (m : ∀ a b c d, K a b c d → K' a b c d) : Zqg h r K' := by
  unfold Zqg at *; split at hh <;> first | exact m _ _ _ _ hh | exact hh.elim
theorem Zti {t : TypeId} {h : Zaa} {x i : Zag} {ok : Bool} (hh : Zof P t h x i ok k) (m : ∀ v, k v → k' v) : Zof P t h x i ok k' := by
  unfold Zof at *
  split at hh
  · refine Zbt hh fun h => ?_
    split at h
    · exact Zqb h fun _ h => Znn h fun _ h => Zib h fun _ _ h => Zyh h fun _ h => Zkw h fun _ => m _
    · exact h.elim
  · exact hh.elim
theorem Zpk {t : TypeId} {h : Zaa} {x i v : Zag} (hh : Zio P t h x i v K) (m : ∀ v h, K v h → K' v h) : Zio P t h x i v K' := by
  unfold Zio at *
  split at hh
  · refine Zbt hh fun h => ?_
    split at h
    · exact Zxl h fun _ h => Zqb h fun _ h => Zib h fun _ _ h => Ybb h fun _ _ => m _ _
    · exact h.elim
  · exact hh.elim
theorem Zsu {t : TypeId} {r : Option Zag} {h : Zaa} (hh : Zmh P t r h K) (m : ∀ v h, K v h → K' v h) : Zmh P t r h K' := by
  unfold Zmh at *
  split at hh <;> first | exact m _ _ hh | exact Zbt hh (m _ _) | exact hh.elim
theorem Zwk {t : TypeId} {x : Zag} {h : Zaa} (hh : Zrz P t x h K) (m : ∀ v h, K v h → K' v h) : Zrz P t x h K' := by
  unfold Zrz at *
  split at hh <;> first | exact hh.elim | exact Zbt hh (m _ _) | exact Zbt hh fun h => Zib h fun _ _ => m _ _
theorem Yam {m : Option Nat} {A B A' B' : Prop} (hh : Yim m A B) (p : A → A') (q : B → B') : Yim m A' B' := by
  unfold Yim at *; split at hh <;> first | exact p hh | exact q hh
theorem Zyx {ty : TypeId} {x : Zag} {st : Bool} {h : Zaa} (hh : Zyq P ty x st h K) (m : ∀ v h, K v h → K' v h) : Zyq P ty x st h K' := by
  unfold Zyq at *
  split at hh
  · split at hh
    · exact Zyd hh fun _ _ h => ⟨fun a => ⟨(h.1 a).1, m _ _ (h.1 a).2⟩, fun a => m _ _ (h.2 a)⟩
    · exact Zpj hh fun _ _ _ _ h => Yam h (m _ _) fun h => Zib h fun _ _ h => ⟨h.1, fun a => m _ _ (h.2.1 a), fun e he hn => Zkw (h.2.2 e he hn) fun _ h => Zkw h fun _ => m _ _⟩
  · exact hh.elim
theorem Zwf {ty : TypeId} {x : Zag} {h : Zaa} (hh : Zrt P ty x h k) (m : ∀ v, k v → k' v) : Zrt P ty x h k' := by
  unfold Zrt at *
  split at hh
  · exact Zpj hh fun _ _ _ _ h => Zxl h fun _ h => Zib h fun _ _ h => ⟨h.1, h.2.imp fun _ h => ⟨h.1, h.2.imp fun _ h => ⟨h.1, Zkw h.2 fun _ h => Zkw h fun _ => m _⟩⟩⟩
  · exact hh.elim
theorem Ycy {env : Env} {h : Zaa} {o : Oper} (hh : opA P env h o K) (m : ∀ v h, K v h → K' v h) : opA P env h o K' := by
  obtain ⟨dst, op, type, pos, after, guard⟩ := o
  unfold opA at *
  cases op <;> simp only at hh ⊢
  case load t a => exact Zbt hh fun h => Zyp h fun _ => m _ _
  case store t a x => exact Zbt hh fun h => Zvj h fun _ => m _ _
  case alloc t => exact Zen hh fun _ => m _ _
  case box t x => exact Zen hh fun _ => m _ _
  case build t ps =>
    refine Zen hh fun _ h => ?_
    split at h
    · exact Zbt h fun h => Zen h fun _ => m _ _
    · exact Zbt h fun h => Zen h fun _ => m _ _
    · exact h.elim
  case buildSlice t n ps =>
    unfold Zku at *
    split at hh
    · exact Zen hh fun _ h => Zbt h fun h => Zen h fun _ => m _ _
    · exact hh.elim
  case call c =>
    unfold Ybf at *
    split at hh
    · split at hh
      · exact Zae.mono hh fun _ _ h => Zui h fun _ => m _ _
      · unfold Yit Yjc at *
        split at hh
        · exact Zae.mono hh fun _ _ h => Zui h fun _ => m _ _
        · exact hh.elim
    · split at hh
      · refine Zbt hh fun h => ?_
        split at h
        · exact Zul h fun _ _ h => Zkw h fun _ => m _ _
        · exact h.elim
      · exact hh.elim
    · split at hh
      · exact Ybw hh fun _ => m _ _
      · exact hh.elim
    · split at hh
      · split at hh
        · unfold Zqj at *
          split at hh
          · split at hh
            · refine ⟨fun h0 => m _ _ (hh.1 h0), fun h0 => Zen (hh.2 h0) fun _ h => Zbt h fun h => Zrj h fun _ => m _ _⟩
            · exact hh.elim
          · exact hh.elim
        · exact hh.elim
      · exact hh.elim
    · exact Zod hh fun _ => m _ _
  case makeSlice t l c => exact Zqa hh m
  case makeMap t r => exact Zsu hh m
  case lookup t x i ok => exact Zti hh fun _ => m _ _
  case mapUpdate t mm k v => exact Zpk hh m
  case range t x => exact Zwk hh m
  case next x st => exact Zyx hh m
  case entry x => exact Zwf hh fun _ => m _ _
  case convert s d x =>
    split at hh
    · exact Yal hh fun _ => m _ _
    · exact Zod hh fun _ => m _ _
  all_goals exact Zod hh fun _ => m _ _
end
end Go.Sim
