/- A part of the proof of a statement of this seat: see the text that holds the theorem. No condition. -/
import Derived.Test.YtgiiilhdmfddcaaPTCVars
import Derived.Test.YtgiiilhdmfddcaaCTy
import Derived.Test.YtgiiilhdmfddcaaCRow
import Derived.Test.YtgiiilhdmfddcaaPTy2
import Derived.Test.YtgiiilhdmfddcaaC4
set_option linter.all false
set_option linter.unusedVariables false
set_option linter.unusedSimpArgs false
set_option maxRecDepth 20000
namespace Go.Sim
open Go Go.RowKit

def one (c : Nat) : List Nat := [c]
theorem vs_L_string : pg.underlying t_L_string = some (.slice t_string) := by kernel_rfl
theorem vs_string : pg.cellsOf t_string = 1 := by kernel_rfl
theorem vk_string : pg.okElem t_string = true := by kernel_rfl
theorem vb_string : pg.bytesOf t_string ≤ 127 := Nat.le_of_ble_eq_true (by kernel_rfl)
theorem vars_ok (s : List Nat) (h : AHeap) : SCall pg n_impl_vars [.str s] h fun v h' => Same h.length h h' ∧ ∃ a n c e, v = .slice a n c e ∧ Row h'.length h' a n (strs ((varsL s).map one)) := by
  apply F_impl_vars.call
  simp only [letH_def]
  have hlist : (h ++ [AObj.cells t_string [] false] ++ [AObj.cells t_string [.str [88], .str [89], .str [90], .str [120], .str [121], .str [122]] false])[h.length + 1]? = some (.cells t_string [.str [88], .str [89], .str [90], .str [120], .str [121], .str [122]] false) := by simp
  have hlen : List.length (h ++ [AObj.cells t_string [] false]) = h.length + 1 := by simp
  rw [hlen]
  refine F_impl_vars.L3ind _ _ _ _ _ _ _ (J := fun (g : Nat) a3 n3 c3 e3 x9 h' => x9 = (g : Int) ∧ g ≤ 6 ∧ Same h.length h h' ∧ h'[h.length + 1]? = some (.cells t_string [.str [88], .str [89], .str [90], .str [120], .str [121], .str [122]] false) ∧ n3 = (((varsN.take g).filter fun v => decide (v ∈ s)).map one).length ∧ Vec t_string h' a3 n3 c3 (strs (((varsN.take g).filter fun v => decide (v ∈ s)).map one)) ∧ ∀ i, a3 = some (i, 0) → h.length ≤ i ∧ i ≠ h.length + 1) (fun g => 6 - g) ?_ 0 _ _ _ _ _ _
    ⟨rfl, by omega, (Same.app (Nat.le_refl _) _).trans (Same.app (by simp) _), hlist, by simp, Vec.mk1 (by simp), fun i hi => by cases hi; omega⟩
  rintro g a3 n3 c3 e3 x9 h' ⟨rfl, hg, hS, hl, rfl, hv, ha⟩ R hR
  unfold F_impl_vars.L3t
  refine bcase_dec (fun hlt => ?_) (fun hge => ?_)
  · have hlt' : g < 6 := by omega
    have hc : ∃ c, varsN[g]? = some c ∧ hCell h' (.ptr (some (h.length + 1, 0 + (g : Int).toNat * 1))) = some (.str [c]) := by
      rw [hCell_of hl, Int.toNat_natCast]
      match g, hlt' with
      | 0, _ | 1, _ | 2, _ | 3, _ | 4, _ | 5, _ => exact ⟨_, rfl, rfl⟩
    obtain ⟨c, hc1, hc2⟩ := hc
    simp only [xSome_some, hc2, xStr_some]
    refine ⟨by omega, lib_contains.mono ?_⟩
    rintro v h2 ⟨rfl, rfl⟩
    simp only [xBool_some]
    have htk : varsN.take (g + 1) = varsN.take g ++ [c] := by
      rw [List.take_succ, hc1]; rfl
    have hbd : (((varsN.take g).filter fun v => decide (v ∈ s)).map one).length ≤ 6 := by
      rw [List.length_map]
      exact Nat.le_trans (List.length_filter_le _ _) (by simp; omega)
    refine bcase_dec (fun hin => ?_) (fun hout => ?_)
    · simp only [letH_def]
      refine hv.push vs_L_string vs_string vk_string vb_string (by simp) rfl (by omega) (fun h4 hl4 hi4 hk4 => ?_)
      simp only [xSl_some]
      apply F_impl_vars.J7i
      rw [wrap_nat (by omega)]
      have hle := hS.le
      refine hR (g + 1) _ _ _ _ _ _ (by omega) ⟨rfl, by omega, ⟨by omega, fun j hj => ?_⟩, ?_, ?_, Vec.mk1 ?_, fun i hi => by cases hi; have := Own.lt hl; omega⟩
      · rw [hk4 j (by omega) fun i hi => by have := (ha i hi).1; omega]; exact hS.eq j hj
      · rw [hk4 _ (Own.lt hl) fun i hi => (ha i hi).2.symm]; exact hl
      · rw [htk, List.filter_append]; simp [hin]
      · rw [hi4, htk, List.filter_append]; simp [hin, strs, one]
    · apply F_impl_vars.J7i
      rw [wrap_nat (by omega)]
      have hf : (varsN.take (g + 1)).filter (fun v => decide (v ∈ s)) = (varsN.take g).filter fun v => decide (v ∈ s) := by rw [htk, List.filter_append]; simp [hout]
      refine hR (g + 1) _ _ _ _ _ _ (by omega) ⟨rfl, by omega, hS, hl, by rw [hf], by rw [hf]; exact hv, ha⟩
  · have : g = 6 := by omega
    subst this
    apply F_impl_vars.A3x0i
    refine ⟨hS, _, _, _, _, rfl, hv.row (by simp)⟩
theorem inter_one (l : List Nat) : ([] : List Nat).intercalate (l.map one) = l := by
  induction l with
  | nil => rfl
  | cons a l ih =>
    cases l with
    | nil => rfl
    | cons b l => simp only [List.map_cons, List.intercalate, List.intersperse_cons_cons, List.flatten_cons] at ih ⊢; rw [ih]; rfl
theorem varsOf_ok (s : List Nat) (h : AHeap) : SCall pg n_impl_VarsOf [.str s] h fun v h' => v = .str (if tyOk s = true then varsL s else []) ∧ Same h.length h h' := by
  apply F_impl_VarsOf.call
  refine (typeValid_ok s h).mono ?_
  rintro v h1 ⟨rfl, s1⟩
  simp only [xBool_some]
  refine bcase_not (fun hb => ?_) (fun hb => ?_)
  · simp [hb]; exact s1
  · refine (vars_ok s h1).mono ?_
    rintro v h2 ⟨s2, a, n, c, e, rfl, hr⟩
    simp only [xSl_some]
    have hl : (varsL s).length ≤ 6 := List.length_filter_le _ _
    have hn : n = (varsL s).length := by have := hr.1; simpa using this.symm
    refine (lib_join hr (by omega) (by rw [inter_one]; omega)).mono ?_
    rintro v h3 ⟨rfl, rfl⟩
    simp only [xStr_some]
    refine ⟨?_, s1.trans (s2.mono s1.le)⟩
    rw [inter_one, if_pos hb]
theorem isGround_ok (s : List Nat) (h : AHeap) : SCall pg n_impl_IsGround [.str s] h fun v h' => v = .bool (tyOk s && decide (varsL s = [])) ∧ Same h.length h h' := by
  apply F_impl_IsGround.call
  refine (typeValid_ok s h).mono ?_
  rintro v h1 ⟨rfl, s1⟩
  simp only [xBool_some]
  refine bcase_intro (fun hb => ?_) (fun hb => ?_)
  · refine (varsOf_ok s h1).mono ?_
    rintro v h2 ⟨rfl, s2⟩
    simp only [xStr_some]
    exact ⟨by simp [hb], s1.trans (s2.mono s1.le)⟩
  · simp [hb]; exact s1
theorem sizeOf_ok (s : List Nat) (h : AHeap) : SCall pg n_impl_SizeOf [.str s] h fun v h' => v = .int .i64 (sizeS s) ∧ Same h.length h h' := by
  apply F_impl_SizeOf.call
  refine (typeValid_ok s h).mono ?_
  rintro v h1 ⟨rfl, s1⟩
  simp only [xBool_some]
  refine bcase_not (fun hb => ?_) (fun hb => ?_)
  · rw [sizeS_none (tyOk_none hb)]; exact ⟨rfl, s1⟩
  · obtain ⟨t, ht⟩ := tyOk_some hb
    obtain ⟨h1', rfl, hl⟩ := ofTxt_some.1 ht
    refine lib_count.mono ?_
    rintro v h2 ⟨rfl, rfl⟩
    simp only [xInt_some]
    refine lib_count.mono ?_
    rintro v h2 ⟨rfl, rfl⟩
    simp only [xInt_some]
    refine lib_count.mono ?_
    rintro v h2 ⟨rfl, rfl⟩
    simp only [xInt_some]
    have c1 := List.count_le_length (a := 40) (l := t.txt)
    have c2 := List.count_le_length (a := 41) (l := t.txt)
    have c3 := List.count_le_length (a := 44) (l := t.txt)
    rw [sizeS_some ht, size_counts h1', IntWalk.i64_in (((t.txt.length : Nat) : Int) - ((t.txt.count 40 : Nat) : Int)) (by omega), IntWalk.i64_in (((t.txt.length : Nat) : Int) - ((t.txt.count 40 : Nat) : Int) - ((t.txt.count 41 : Nat) : Int)) (by omega), IntWalk.i64_in _ (by omega)]
    exact ⟨rfl, s1⟩
end Go.Sim
