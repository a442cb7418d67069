/- The operations that do not look at memory: the model's runs. -/
import Derived.Test.YtgiiilhdmfddcaaSimD
import Derived.Laws.Slices
import Derived.Laws.StructEq
import Derived.Laws.Strings
import Derived.Laws.Pointers
import Derived.Laws.Small
import Derived.Sort.Walk0
set_option linter.unusedVariables false
set_option linter.all false
set_option linter.unusedSimpArgs false
namespace Go.Sim
open Go Go.RowKit

theorem bytesOf_length (s : ByteArray) : (bytesOf s).length = s.size := by simp [bytesOf]
theorem bytesOf_append (a b : ByteArray) : bytesOf (a ++ b) = bytesOf a ++ bytesOf b := by simp [bytesOf]
theorem map_toNat_inj : ∀ {a b : List UInt8}, a.map UInt8.toNat = b.map UInt8.toNat → a = b
  | [], [], _ => rfl
  | [], _ :: _, h => by simp at h
  | _ :: _, [], h => by simp at h
  | x :: a, y :: b, h => by
    simp only [List.map_cons, List.cons.injEq] at h
    rw [UInt8.toNat_inj.1 h.1, map_toNat_inj h.2]
theorem bytesOf_eq_iff (a b : ByteArray) : bytesOf a = bytesOf b ↔ a.toList = b.toList := by
  rw [ByteArray.toList_eq, ByteArray.toList_eq]
  exact ⟨map_toNat_inj, fun h => by unfold bytesOf; rw [h]⟩
theorem natLess_bytes : ∀ a b : List UInt8, natLess (a.map UInt8.toNat) (b.map UInt8.toNat) = Op.bytesLess a b
  | [], [] => rfl
  | _ :: _, [] => rfl
  | [], _ :: _ => rfl
  | x :: a, y :: b => by
    simp only [List.map_cons, natLess, Op.bytesLess, natLess_bytes a b]
    congr 1
    congr 1
    rw [Bool.eq_iff_iff]; simp [UInt8.toNat_inj]
theorem natLess_bytesOf (a b : ByteArray) : natLess (bytesOf a) (bytesOf b) = Op.bytesLess a.toList b.toList := by
  rw [ByteArray.toList_eq, ByteArray.toList_eq]; exact natLess_bytes _ _

/-- Whatever the world, the run gives one value, which stands for one that is handed on. -/
def Pure (P : Program) (μ : List Pl) (s : Sem Value) (K : AVal → Prop) : Prop := ∃ x v, (∀ w, s.run P w = .ok x w) ∧ VR μ v x ∧ K v
theorem Pure.mk {P : Program} {μ : List Pl} {s : Sem Value} {K : AVal → Prop} {x : Value} {v : AVal} (h : ∀ w, s.run P w = .ok x w) (hv : VR μ v x) (hk : K v) : Pure P μ s K := ⟨x, v, h, hv, hk⟩

section
variable {P : Program} {μ : List Pl}

theorem run_part_leaf {t : TypeId} {xs : Array Value} {off : Nat} {x : Value} (ha : isAgg P t = false) (hu : (P.underlying t).isSome = true) (hx : xs[off]? = some x) (w : World) : (part t xs off).run P w = .ok x w := by
  simp [part, isAgg_false ha hu, hx]

theorem leafSh_str {t : TypeId} (h : leafSh P t = .str) : P.underlying t = some .string := by
  unfold leafSh at h; split at h <;> simp_all
theorem leafSh_int {t : TypeId} {k : IntKind} (h : leafSh P t = .int k) : P.underlying t = some (.int k) := by
  unfold leafSh at h; split at h <;> simp_all
theorem leafSh_bool {t : TypeId} (h : leafSh P t = .bool) : P.underlying t = some .bool := by
  unfold leafSh at h; split at h <;> simp_all
theorem lEq_run (d : Nat) (w : World) {t : TypeId} {a b : AVal} {x y : Value} {e : Bool} (ha : VR μ a x) (hb : VR μ b y) (h : lEq (leafSh P t) a b = some e) :
    (Op.equalIn (d + 1) t x y).run P w = .ok e w ∧ isAgg P t = false ∧ (P.underlying t).isSome = true := by
  unfold lEq at h
  split at h
  · rename_i hs
    have hu := leafSh_str hs
    split at h
    · split at h
      · cases ha; cases hb; cases h
        refine ⟨?_, by simp [isAgg, hu], by simp [hu]⟩
        rw [run_equalIn_string w d t _ _ hu]
        congr 1
        rw [Bool.eq_iff_iff]; simp [bytesOf_eq_iff]
      · cases h
    · cases h
  · rename_i hs
    have hu := leafSh_int hs
    split at h
    · split at h
      · split at h
        · rename_i hk
          subst hk
          cases ha; cases hb; cases h
          exact ⟨run_equalIn_int w d t _ _ _ _ hu, by simp [isAgg, hu], by simp [hu]⟩
        · cases h
      · cases h
    · cases h
  · rename_i hs
    have hu := leafSh_bool hs
    split at h
    · split at h
      · cases ha; cases hb; cases h
        exact ⟨run_equalIn_bool w d t _ _ hu, by simp [isAgg, hu], by simp [hu]⟩
      · cases h
    · cases h
  · cases h
theorem lsEq_cons {s : Sh} {ss : List Sh} {a b : AVal} {as' bs : List AVal} {e : Bool} (h : lsEq (s :: ss) (a :: as') (b :: bs) = some e) : ∃ e1 e2, lEq s a b = some e1 ∧ lsEq ss as' bs = some e2 ∧ e = (e1 && e2) := by
  unfold lsEq at h
  split at h
  · rename_i h1; cases h1
  · rename_i h1 h2 h3; cases h1; cases h2; cases h3; exact ⟨e, true, h, by simp [lsEq], by simp⟩
  · rename_i h1 h2 h3; cases h1; cases h2; cases h3
    split at h
    · rename_i e1 he1
      split at h
      · rename_i e2 he2; cases h; exact ⟨e1, e2, he1, he2, rfl⟩
      · cases h
    · cases h
  · cases h
theorem flat_run (d : Nat) (w : World) : ∀ (fs : List Field) (k : Nat) (as' bs : List AVal) (xs ys : Array Value) (e : Bool),
    VRs μ as' (xs.toList.drop k) → VRs μ bs (ys.toList.drop k) →
    lsEq ((fs.zipIdx k).map fun p => if p.1.name ≠ "_" ∧ p.1.offset = p.2 then leafSh P p.1.type else .any) as' bs = some e →
    (Op.eqFields (d + 1) xs ys fs).run P w = .ok e w
  | [], k, as', bs, xs, ys, e, ha, hb, he => by
    cases as' with
    | nil => cases bs with
      | nil => simp [lsEq] at he; subst he; simp [Op.eqFields]
      | cons b bs => simp [lsEq] at he
    | cons a as' => simp [lsEq] at he
  | f :: fs, k, as', bs, xs, ys, e, ha, hb, he => by
    cases as' with
    | nil => simp [lsEq] at he
    | cons a as' =>
    cases bs with
    | nil => simp [lsEq] at he
    | cons b bs =>
    obtain ⟨x, hx, hax⟩ := ha.get (j := 0) rfl
    obtain ⟨y, hy, hby⟩ := hb.get (j := 0) rfl
    rw [List.getElem?_drop, Array.getElem?_toList, Nat.add_zero] at hx hy
    have hda : VRs μ as' (xs.toList.drop (k + 1)) := by have := ha.drop 1; simpa [List.drop_drop] using this
    have hdb : VRs μ bs (ys.toList.drop (k + 1)) := by have := hb.drop 1; simpa [List.drop_drop] using this
    simp only [List.zipIdx_cons, List.map_cons] at he
    obtain ⟨e1, e2, he1, he2, rfl⟩ := lsEq_cons he
    have hc : f.name ≠ "_" ∧ f.offset = k := by
      by_cases hc : f.name ≠ "_" ∧ f.offset = k
      · exact hc
      · simp only [if_neg hc] at he1; simp [lEq] at he1
    simp only [if_pos hc] at he1
    obtain ⟨hn, ho⟩ := hc
    obtain ⟨heq, hag, hu⟩ := lEq_run d w hax hby he1
    have hpx := run_part_leaf (P := P) (off := f.offset) hag hu (by rw [ho]; exact hx) w
    have hpy := run_part_leaf (P := P) (off := f.offset) hag hu (by rw [ho]; exact hy) w
    have ih := flat_run d w fs (k + 1) as' bs xs ys e2 hda hdb he2
    cases e1 <;> simp [Op.eqFields, hn, hpx, hpy, heq, ih]
theorem flatSh_eq {t : TypeId} (h : ∀ s ∈ flatSh P t, s ≠ .any) : P.stoodInHeld t = false ∧ P.eqGuardType P.depth t = false ∧ P.underlying t = some (.struct (P.fieldsOf t)) ∧
    flatSh P t = ((P.fieldsOf t).toList.zipIdx 0).map fun p => if p.1.name ≠ "_" ∧ p.1.offset = p.2 then leafSh P p.1.type else .any := by
  unfold flatSh at h ⊢
  split at h
  · exact absurd rfl (h .any (by simp))
  · rename_i hs
    simp only [Bool.or_eq_false_iff] at hs
    split at h
    · rename_i fs hu
      refine ⟨hs.1, hs.2, by simp [Program.fieldsOf, hu], ?_⟩
      simp only [hs.1, hs.2, Bool.or_self, hu, Program.fieldsOf]
      apply List.ext_getElem?
      intro j
      simp only [List.getElem?_map, List.getElem?_zipIdx, Nat.zero_add, Array.getElem?_toList, List.getElem?_range]
      by_cases hj : j < fs.size
      · simp [hj]
      · simp [hj, Array.getElem?_eq_none (Nat.le_of_not_lt hj)]
    · exact absurd rfl (h .any (by simp))
theorem lsEq_noany : ∀ {ss : List Sh} {as' bs : List AVal} {e : Bool}, lsEq ss as' bs = some e → ∀ s ∈ ss, s ≠ .any
  | [], _, _, _, _, s, hs => by simp at hs
  | s :: ss, [], bs, e, h, _, _ => by simp [lsEq] at h
  | s :: ss, a :: as', [], e, h, _, _ => by simp [lsEq] at h
  | s :: ss, a :: as', b :: bs, e, h, q, hq => by
    obtain ⟨e1, e2, h1, h2, _⟩ := lsEq_cons h
    rcases List.mem_cons.1 hq with rfl | hq
    · rintro rfl; simp [lEq] at h1
    · exact lsEq_noany h2 q hq

theorem eq_ok {t : TypeId} {xo yo : Operand} {a b : AVal} {x y : Value} (ha : VR μ a x) (hb : VR μ b y) {K : Bool → Prop} (hk : eqA P t a b K) :
    ∃ e : Bool, (∀ w, (eqGuard .eql t xo yo x y).run P w = .ok () w ∧ (eqGuard .neq t xo yo x y).run P w = .ok () w) ∧ (∀ w, (binOp .eql t x y).run P w = .ok (.bool e) w) ∧ (∀ w, (binOp .neq t x y).run P w = .ok (.bool (!e)) w) ∧ K e := by
  unfold eqA at hk
  split at hk
  · split at hk
    · replace hk := chk_elim hk; obtain ⟨rfl, hk⟩ := hk
      cases ha; cases hb
      exact ⟨_, by simp [eqGuard], by simp [binOp, Op.intCmp], by simp [binOp, Op.intCmp, bne], hk⟩
    · exact hk.elim
  · split at hk
    · cases ha; cases hb
      rename_i s1 s2
      refine ⟨_, by simp [eqGuard], ?_, ?_, hk⟩
      · intro w; simp [binOp, Op.stringOp]; rw [Bool.eq_iff_iff]; simp [bytesOf_eq_iff]
      · intro w; simp [binOp, Op.stringOp]; rw [Bool.eq_iff_iff]; simp [bytesOf_eq_iff]
    · exact hk.elim
  · split at hk
    · replace hk := chk_elim hk; obtain ⟨hu, hk⟩ := hk
      have hu := isBoolT_ok hu
      cases ha; cases hb
      refine ⟨_, by simp [eqGuard], fun w => run_eql_bool w t _ _ hu, ?_, hk⟩
      intro w; simp [binOp, run_equal_bool w t _ _ hu]
    · exact hk.elim
  · split at hk
    · replace hk := chk_elim hk; obtain ⟨hu, hk⟩ := hk
      obtain ⟨e, hu⟩ := isPtrT_ok hu
      have k0 : ∀ (q : Option Addr) (d : Nat) (w : World), (Op.equalIn (d + 1) t (.pointer none) (.pointer q)).run P w = .ok q.isNone w := fun q d w => by simp [Op.equalIn, run_underlying hu]
      have k1 : ∀ (q : Addr) (d : Nat) (w : World), (Op.equalIn (d + 1) t (.pointer (some q)) (.pointer none)).run P w = .ok false w := fun q d w => by simp [Op.equalIn, run_underlying hu]
      unfold ptrEq at hk
      cases ha with
      | ptr0 =>
        cases hb with
        | ptr0 => exact ⟨_, by simp [eqGuard], fun w => by simp only [binOp]; simp [Op.equal, Op.maxDepth, k0 none 9999], fun w => by simp only [binOp]; simp [Op.equal, Op.maxDepth, k0 none 9999], hk⟩
        | ptr hi => exact ⟨_, by simp [eqGuard], fun w => by simp only [binOp]; simp [Op.equal, Op.maxDepth, k0 (some _) 9999], fun w => by simp only [binOp]; simp [Op.equal, Op.maxDepth, k0 (some _) 9999], hk⟩
      | ptr hj =>
        cases hb with
        | ptr0 => exact ⟨_, by simp [eqGuard], fun w => by simp only [binOp]; simp [Op.equal, Op.maxDepth, k1 _ 9999], fun w => by simp only [binOp]; simp [Op.equal, Op.maxDepth, k1 _ 9999], hk⟩
        | ptr hi => exact hk.elim
    · exact hk.elim
  · split at hk
    · split at hk
      · rename_i e he
        cases ha with
        | agg hxs =>
        cases hb with
        | agg hys =>
        obtain ⟨h1, h2, h3, h4⟩ := flatSh_eq (lsEq_noany he)
        rw [h4] at he
        rename_i xs ys
        have hr : ∀ w, (Op.equalIn 10000 t (.agg xs) (.agg ys)).run P w = .ok e w := fun w => by
          rw [run_equalIn_struct w 9999 t xs ys h3 h1]
          exact flat_run 9998 w _ 0 _ _ xs ys e (by simpa using hxs) (by simpa using hys) he
        exact ⟨e, fun w => ⟨run_eqGuard_agg w .eql t xo yo xs ys h2, run_eqGuard_agg w .neq t xo yo xs ys h2⟩, fun w => by rw [run_eql_struct, hr]; rfl, fun w => by rw [run_neq_struct, hr]; rfl, hk⟩
      · exact hk.elim
    · exact hk.elim
  · split at hk
    · replace hk := chk_elim hk; obtain ⟨hu, hn, hk⟩ := hk
      obtain ⟨e, hu⟩ := isSlT_ok hu
      cases hb
      have key : ∀ (q : Option Addr) (n c d : Nat) (w : World), (Op.equalIn (d + 1) t (.slice q n c) (.slice none 0 0)).run P w = .ok q.isNone w := fun q n c d w => by cases q <;> simp [Op.equalIn, run_underlying hu]
      cases ha with
      | slice0 => exact ⟨_, by simp [eqGuard], fun w => by simp only [binOp]; simp [Op.equal, Op.maxDepth, key _ _ _ 9999], fun w => by simp only [binOp]; simp [Op.equal, Op.maxDepth, key _ _ _ 9999], hk⟩
      | sliceE0 => simp at hn
      | sliceE1 => simp at hn
      | slice h1 h2 h3 h4 h5 => exact ⟨_, by simp [eqGuard], fun w => by simp only [binOp]; simp [Op.equal, Op.maxDepth, key _ _ _ 9999], fun w => by simp only [binOp]; simp [Op.equal, Op.maxDepth, key _ _ _ 9999], hk⟩
    · exact hk.elim
  · exact hk.elim
end
end Go.Sim
