/- A part of the proof of a statement of this seat: see the text that holds the theorem. No condition. -/
import Derived.Test.YtgiiilhdmfddcaaPTC4
import Derived.Test.YtgiiilhdmfddcaaC1
import Derived.Test.YtgiiilhdmfddcaaSh
set_option linter.unusedSimpArgs false
set_option linter.all false
/- FormatTexts: the contracts of what the law calls, and the law at the machine's level. -/
set_option linter.unusedVariables false
namespace Go.Sim
open Go Go.RowKit

def tot (l : List (List Nat)) : Nat := (l.map List.length).sum
theorem tot_take {l : List (List Nat)} {g : Nat} (h : g < l.length) : tot (l.take (g + 1)) = tot (l.take g) + l[g].length := by
  unfold tot; rw [List.take_succ_eq_append_getElem h, List.map_append, List.sum_append]; simp
theorem tot_take_le (l : List (List Nat)) (g : Nat) : tot (l.take g) ≤ tot l := by
  conv => rhs; rw [← List.take_append_drop g l]
  unfold tot; rw [List.map_append, List.sum_append]; omega
theorem tot_get {l : List (List Nat)} {g : Nat} (h : g < l.length) : l[g].length ≤ tot l := by
  have := tot_take h; have := tot_take_le l (g + 1); omega

theorem szStrings_ok {h : AHeap} {a : Pt} {n c : Nat} {e : Bool} {l : List (List Nat)} (r : Row h.length h a n (strs l)) (hn : n ≤ 9223372036854775807) (hs : ∀ s ∈ l, s.length ≤ 9223372036854775807) {left : Int} (hl : 0 ≤ left ∧ left ≤ 1048576) :
    SCall pg n_laws_szStringS [.slice a n c e, .int .i64 left] h fun v h' => ∃ x, v = .int .i64 x ∧ h' = h ∧ (0 ≤ x → (n : Int) + tot l + x = left) := by
  have hll : l.length = n := by simpa using r.1
  apply F_laws_szStringS.call
  rw [IntWalk.i64_in _ (by omega)]
  refine bcase_dec (fun hlt => ?_) (fun hge => ?_)
  · exact ⟨_, rfl, rfl, by omega⟩
  · refine F_laws_szStringS.L5ind _ _ _ _ _ (J := fun (g : Nat) x1 x5 h' => x5 = (g : Int) ∧ h' = h ∧ g ≤ n ∧ 0 ≤ x1 ∧ x1 + n + tot (l.take g) = left) (fun g => n - g) ?_ 0 _ 0 h ⟨rfl, rfl, by omega, by omega, by simp [tot]⟩
    rintro g x1 x5 _ ⟨rfl, rfl, hg, h0, ht⟩ R hR
    unfold F_laws_szStringS.L5t
    refine bcase_dec (fun hlt => ?_) (fun hge => ?_)
    · have hlt' : g < n := by omega
      obtain ⟨i, o, hgl, rfl, hi, hc⟩ := r.str hlt'
      have hsl := hs _ (List.getElem_mem hgl)
      simp only [xSome_some, Int.toNat_natCast, Nat.mul_one, hc, xStr_some]
      rw [IntWalk.i64_in _ (by omega)]
      refine ⟨by omega, bcase_dec (fun hneg => ⟨_, rfl, by trivial, by omega⟩) (fun hneg => ?_)⟩
      rw [wrap_succ hlt' (by omega)]
      refine hR (g + 1) _ _ _ (by omega) ⟨rfl, rfl, by omega, by omega, ?_⟩
      rw [tot_take hgl]; omega
    · have : g = n := by omega
      subst this
      rw [List.take_of_length_le (by omega)] at ht
      exact F_laws_szStringS.A5x0i _ _ _ ⟨_, rfl, rfl, by omega⟩

theorem reps_one (n : Nat) (v : AVal) : reps n [v] = List.replicate n v := by
  unfold reps
  induction n with
  | zero => rfl
  | succ n ih => rw [List.replicate_succ, List.flatten_cons, ih, List.replicate_succ]; rfl
theorem toStrings_ok {h : AHeap} {a : Pt} {n c : Nat} {e : Bool} {l : List (List Nat)} (r : Row h.length h a n (strs l)) (hn : n ≤ 1048576) :
    SCall pg n_laws_toStringS [.slice a n c e] h fun v h' => ∃ a' c' e', v = .slice a' n c' e' ∧ Same h.length h h' ∧ Fresh h.length h' a' n t_string (strs l) := by
  have hll : l.length = n := by simpa using r.1
  apply F_laws_toStringS.call
  refine ⟨rfl, rfl, by omega, ?_⟩
  simp only [letH_def, Int.toNat_natCast, reps_one]
  refine F_laws_toStringS.L3ind _ _ _ _ _ _ _ _ _ (J := fun (g : Nat) x4 h' => x4 = (g : Int) ∧ g ≤ n ∧ Same h.length h h' ∧ h'[h.length]? = some (.cells t_string (strs (l.take g ++ List.replicate (n - g) [])) false)) (fun g => n - g) ?_ 0 0 _ ⟨rfl, by omega, Same.app (Nat.le_refl _) _, by simp [strs]⟩
  rintro g x4 h' ⟨rfl, hg, hs, hi⟩ R hR
  unfold F_laws_toStringS.L3t
  refine bcase_dec (fun hlt => ?_) (fun hge => ?_)
  · have hlt' : g < n := by omega
    obtain ⟨i, o, hgl, rfl, hi', hc⟩ := (r.same hs).str hlt'
    simp only [xSome_some, Int.toNat_natCast, Nat.mul_one, hc, xStr_some, Nat.zero_add]
    rw [store_one hi (by simp; omega)]
    simp only [xHeap_some]
    rw [wrap_succ hlt' (by omega)]
    have hset : (strs (l.take g ++ List.replicate (n - g) [])).set g (.str l[g]) = strs (l.take (g + 1) ++ List.replicate (n - (g + 1)) []) := by
      rw [List.take_succ_eq_append_getElem hgl, show n - g = (n - (g + 1)) + 1 by omega, List.replicate_succ]
      simp only [strs, List.map_append, List.map_cons, List.map_nil]
      rw [List.set_append_right _ _ (by simp; omega)]
      simp [Nat.min_eq_left (by omega : g ≤ l.length)]
    rw [hset]
    exact ⟨by omega, by omega, hR (g + 1) _ _ (by omega) ⟨rfl, by omega, hs.trans (Same.set (Nat.le_refl _) _), getElem_set_self' hi⟩⟩
  · have : g = n := by omega
    subst this
    rw [List.take_of_length_le (by omega), Nat.sub_self, List.replicate_zero, List.append_nil] at hi
    exact F_laws_toStringS.A3x0i _ _ _ _ _ _ ⟨_, _, _, rfl, hs, by simpa using hll, .inr ⟨h.length, rfl, Nat.le_refl _, hi⟩⟩

def sp (l : List (List Nat)) : List Nat := [32].intercalate l
theorem inter_snoc (sep : List Nat) : ∀ (l : List (List Nat)) (y : List Nat), l ≠ [] → sep.intercalate (l ++ [y]) = sep.intercalate l ++ sep ++ y
  | [], _, h => absurd rfl h
  | [x], y, _ => by simp [List.intercalate]
  | x :: z :: l, y, _ => by
    have := inter_snoc sep (z :: l) y (by simp)
    simp only [List.intercalate, List.cons_append, List.intersperse_cons_cons, List.flatten_cons, List.append_assoc] at this ⊢
    rw [this]
theorem sp_len : ∀ (l : List (List Nat)), (sp l).length ≤ tot l + l.length
  | [] => by simp [sp, List.intercalate]
  | [x] => by simp [sp, tot, List.intercalate]
  | x :: y :: l => by
    have := sp_len (y :: l)
    simp only [sp, tot, List.intercalate, List.intersperse_cons_cons, List.flatten_cons, List.length_append, List.map_cons, List.sum_cons, List.length_cons, List.length_nil] at this ⊢
    omega
def dash (s : List Nat) : List Nat := if s = [] then [45] else s
theorem l12Text_ok {h : AHeap} {s : List Nat} : SCall pg n_spec_l12Text [.str s] h fun v h' => v = .str (dash s) ∧ h' = h := by
  apply F_spec_l12Text.call
  exact bcase_dec (fun e => ⟨by simp [dash, e], rfl⟩) (fun e => ⟨by simp [dash, e], rfl⟩)
theorem dashed_ok {h : AHeap} {s : List Nat} : SCall pg n_impl_dashed [.str s] h fun v h' => v = .str (dash s) ∧ h' = h := by
  apply F_impl_dashed.call
  exact bcase_dec (fun e => ⟨by simp [dash, e], rfl⟩) (fun e => ⟨by simp [dash, e], rfl⟩)
theorem specTexts_ok {h : AHeap} {a : Pt} {n c : Nat} {e : Bool} {l : List (List Nat)} (r : Row h.length h a n (strs l)) (hn : n + tot l ≤ 1048576) :
    SCall pg n_spec_FormatTexts [.slice a n c e] h fun v h' => v = .str (dash (sp l)) ∧ h' = h := by
  have hll : l.length = n := by simpa using r.1
  apply F_spec_FormatTexts.call
  refine F_spec_FormatTexts.L3ind _ _ _ _ _ _ (J := fun (g : Nat) x3 x8 h' => x8 = (g : Int) ∧ h' = h ∧ g ≤ n ∧ x3 = sp (l.take g)) (fun g => n - g) ?_ 0 _ 0 h ⟨rfl, rfl, by omega, by simp [sp, List.intercalate]⟩
  rintro g x3 x8 _ ⟨rfl, rfl, hg, rfl⟩ R hR
  unfold F_spec_FormatTexts.L3t
  have hb1 := sp_len (l.take g)
  have hb2 := tot_take_le l g
  have hmin : min g l.length = g := Nat.min_eq_left (by omega)
  rw [List.length_take, hmin] at hb1
  refine bcase_dec (fun hlt => ?_) (fun hge => ?_)
  · have hlt' : g < n := by omega
    obtain ⟨i, o, hgl, rfl, hi', hc⟩ := r.str hlt'
    have hb3 := tot_get hgl
    simp only [xSome_some, Int.toNat_natCast, Nat.mul_one, hc, xStr_some]
    refine ⟨by omega, bcase_dec (fun h0 => ?_) (fun h0 => ?_)⟩
    · refine ⟨by simp; omega, F_spec_FormatTexts.J7i _ _ _ _ _ _ _ _ _ _ _ ⟨by simp; omega, F_spec_FormatTexts.J8i _ _ _ _ _ _ _ _ _ _ ?_⟩⟩
      rw [wrap_succ hlt' (by omega)]
      refine hR (g + 1) _ _ _ (by omega) ⟨rfl, rfl, by omega, ?_⟩
      unfold sp
      rw [List.take_succ_eq_append_getElem hgl, inter_snoc _ _ _ (by intro hnil; have := congrArg List.length hnil; rw [List.length_take, hmin] at this; simp at this; omega)]
    · have : g = 0 := by omega
      subst this
      refine F_spec_FormatTexts.J7i _ _ _ _ _ _ _ _ _ _ _ ⟨by simp [sp, List.intercalate]; omega, F_spec_FormatTexts.J8i _ _ _ _ _ _ _ _ _ _ ?_⟩
      rw [wrap_succ hlt' (by omega)]
      refine hR 1 _ _ _ (by omega) ⟨rfl, rfl, by omega, ?_⟩
      unfold sp
      rw [List.take_succ_eq_append_getElem hgl]; simp [List.intercalate]
  · have : g = n := by omega
    subst this
    rw [List.take_of_length_le (by omega)]
    refine F_spec_FormatTexts.A3x0i _ _ _ (l12Text_ok.mono fun v h' ⟨hv, hh⟩ => ?_)
    subst hv; subst hh
    simp
theorem implTexts_ok {h : AHeap} {a : Pt} {n c : Nat} {e : Bool} {l : List (List Nat)} (r : Row h.length h a n (strs l)) (hn : n + tot l ≤ 1048576) :
    SCall pg n_impl_FormatTexts [.slice a n c e] h fun v h' => v = .str (dash (sp l)) ∧ h' = h := by
  have hll : l.length = n := by simpa using r.1
  have hb := sp_len l
  apply F_impl_FormatTexts.call
  refine (lib_join r (by omega) (by unfold sp at hb; omega)).mono fun v h' ⟨hv, hh⟩ => ?_
  subst hv; subst hh
  simp only [xStr_some]
  refine dashed_ok.mono fun v h' ⟨hv, hh⟩ => ?_
  subst hv; subst hh
  simp [sp]
theorem implTexts_big {h : AHeap} {a : Pt} {n c : Nat} {e : Bool} {l : List (List Nat)} (r : Row h.length h a n (strs l)) (hn : l.length + tot l ≤ 100000000) :
    SCall pg n_impl_FormatTexts [.slice a n c e] h fun v h' => v = .str (dash (sp l)) ∧ h' = h := by
  have hll : l.length = n := by simpa using r.1
  have hb := sp_len l
  apply F_impl_FormatTexts.call
  refine (lib_join r (by omega) (by unfold sp at hb; omega)).mono fun v h' ⟨hv, hh⟩ => ?_
  subst hv; subst hh
  simp only [xStr_some]
  refine dashed_ok.mono fun v h' ⟨hv, hh⟩ => ?_
  subst hv; subst hh
  simp [sp]
theorem law4 {h : AHeap} {a : Pt} {n c : Nat} {e : Bool} {l : List (List Nat)} (r : Row h.length h a n (strs l)) (hn : n ≤ 9223372036854775807) (hs : ∀ s ∈ l, s.length ≤ 9223372036854775807) : SCall pg n_laws_FnExactFormatTexts [.slice a n c e] h fun v _ => v = .bool true := by
  have hll : l.length = n := by simpa using r.1
  apply F_laws_FnExactFormatTexts.call
  refine (szStrings_ok r hn hs (by omega)).mono fun v h1 ⟨x, hv, hh, hx⟩ => ?_
  subst hv; subst hh
  simp only [xInt_some]
  refine bcase_dec (fun hlt => by trivial) (fun hge => ?_)
  have hb := hx (by omega)
  refine (toStrings_ok r (by omega)).mono fun v h4 ⟨a5, c7, e8, hv, hs4, hf4⟩ => ?_
  subst hv
  simp only [xSl_some]
  refine (specTexts_ok hf4.row (by omega)).mono fun v h10 ⟨hv, hh⟩ => ?_
  subst hv; subst hh
  simp only [xStr_some]
  have r10 := (r.same hs4).mono hs4.le
  refine (toStrings_ok r10 (by omega)).mono fun v h13 ⟨a14, c16, e17, hv, hs13, hf13⟩ => ?_
  subst hv
  simp only [xSl_some]
  refine (implTexts_ok hf13.row (by omega)).mono fun v h19 ⟨hv, hh⟩ => ?_
  subst hv; subst hh
  simp only [xStr_some, decide_true, Bool.not_true, bcase_false]
  have r19 := (r10.same hs13).mono hs13.le
  refine (toStrings_ok r19 (by omega)).mono fun v h22 ⟨a23, c25, e26, hv, hs22, hf22⟩ => ?_
  subst hv
  simp only [xSl_some]
  refine (eqStrings_ok ((hf13.row.same hs22).mono hs22.le) hf22.row (by omega)).mono fun v h28 ⟨hv, hh⟩ => ?_
  subst hv; subst hh
  simp
end Go.Sim
