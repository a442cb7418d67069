/- A part of the proof of a statement of this seat: see the text that holds the theorem. No condition. -/
import Derived.Test.YtgiiilhdmfddcaaDoorPTC4
import Derived.Test.YtgiiilhdmfddcaaDoorC1
import Derived.Test.YtgiiilhdmfddcaaDoorSh
set_option linter.unusedSimpArgs false
set_option linter.all false
/- FormatTexts: the contracts of what the law calls, and the law at the machine's level. -/
set_option linter.unusedVariables false
namespace Go.Sim
open Go Go.RowKit

def tot (l : List (List Nat)) : Nat := (l.map List.length).sum
theorem tot_take {l : List (List Nat)} {g : Nat} (h : g < l.length) : tot (l.take (g + 1)) = tot (l.take g) + l[g].length := by
  unfold tot; rw [List.take_succ_eq_append_getElem h, List.map_append, List.sum_append]; simp
theorem tot_take_le (l : List (List Nat)) (g : Nat) : tot (l.take g) ≤ tot l := by
  conv => rhs; rw [← List.take_append_drop g l]
  unfold tot; rw [List.map_append, List.sum_append]; omega
theorem tot_get {l : List (List Nat)} {g : Nat} (h : g < l.length) : l[g].length ≤ tot l := by
  have := tot_take h; have := tot_take_le l (g + 1); omega

theorem reps_one (n : Nat) (v : AVal) : reps n [v] = List.replicate n v := by
  unfold reps
  induction n with
  | zero => rfl
  | succ n ih => rw [List.replicate_succ, List.flatten_cons, ih, List.replicate_succ]; rfl
def sp (l : List (List Nat)) : List Nat := [32].intercalate l
theorem inter_snoc (sep : List Nat) : ∀ (l : List (List Nat)) (y : List Nat), l ≠ [] → sep.intercalate (l ++ [y]) = sep.intercalate l ++ sep ++ y
  | [], _, h => absurd rfl h
  | [x], y, _ => by simp [List.intercalate]
  | x :: z :: l, y, _ => by
    have := inter_snoc sep (z :: l) y (by simp)
    simp only [List.intercalate, List.cons_append, List.intersperse_cons_cons, List.flatten_cons, List.append_assoc] at this ⊢
    rw [this]
theorem sp_len : ∀ (l : List (List Nat)), (sp l).length ≤ tot l + l.length
  | [] => by simp [sp, List.intercalate]
  | [x] => by simp [sp, tot, List.intercalate]
  | x :: y :: l => by
    have := sp_len (y :: l)
    simp only [sp, tot, List.intercalate, List.intersperse_cons_cons, List.flatten_cons, List.length_append, List.map_cons, List.sum_cons, List.length_cons, List.length_nil] at this ⊢
    omega
def dash (s : List Nat) : List Nat := if s = [] then [45] else s
theorem l12Text_ok {h : AHeap} {s : List Nat} : SCall pg n_spec_l12Text [.str s] h fun v h' => v = .str (dash s) ∧ h' = h := by
  apply F_spec_l12Text.call
  exact bcase_dec (fun e => ⟨by simp [dash, e], rfl⟩) (fun e => ⟨by simp [dash, e], rfl⟩)
theorem dashed_ok {h : AHeap} {s : List Nat} : SCall pg n_impl_dashed [.str s] h fun v h' => v = .str (dash s) ∧ h' = h := by
  apply F_impl_dashed.call
  exact bcase_dec (fun e => ⟨by simp [dash, e], rfl⟩) (fun e => ⟨by simp [dash, e], rfl⟩)
theorem specTexts_ok {h : AHeap} {a : Pt} {n c : Nat} {e : Bool} {l : List (List Nat)} (r : Row h.length h a n (strs l)) (hn : n + tot l ≤ 1048576) :
    SCall pg n_spec_FormatTexts [.slice a n c e] h fun v h' => v = .str (dash (sp l)) ∧ h' = h := by
  have hll : l.length = n := by simpa using r.1
  apply F_spec_FormatTexts.call
  refine F_spec_FormatTexts.L3ind _ _ _ _ _ _ (J := fun (g : Nat) x3 x8 h' => x8 = (g : Int) ∧ h' = h ∧ g ≤ n ∧ x3 = sp (l.take g)) (fun g => n - g) ?_ 0 _ 0 h ⟨rfl, rfl, by omega, by simp [sp, List.intercalate]⟩
  rintro g x3 x8 _ ⟨rfl, rfl, hg, rfl⟩ R hR
  unfold F_spec_FormatTexts.L3t
  have hb1 := sp_len (l.take g)
  have hb2 := tot_take_le l g
  have hmin : min g l.length = g := Nat.min_eq_left (by omega)
  rw [List.length_take, hmin] at hb1
  refine bcase_dec (fun hlt => ?_) (fun hge => ?_)
  · have hlt' : g < n := by omega
    obtain ⟨i, o, hgl, rfl, hi', hc⟩ := r.str hlt'
    have hb3 := tot_get hgl
    simp only [xSome_some, Int.toNat_natCast, Nat.mul_one, hc, xStr_some]
    refine ⟨by omega, bcase_dec (fun h0 => ?_) (fun h0 => ?_)⟩
    · refine ⟨by simp; omega, F_spec_FormatTexts.J7i _ _ _ _ _ _ _ _ _ _ _ ⟨by simp; omega, F_spec_FormatTexts.J8i _ _ _ _ _ _ _ _ _ _ ?_⟩⟩
      rw [wrap_succ hlt' (by omega)]
      refine hR (g + 1) _ _ _ (by omega) ⟨rfl, rfl, by omega, ?_⟩
      unfold sp
      rw [List.take_succ_eq_append_getElem hgl, inter_snoc _ _ _ (by intro hnil; have := congrArg List.length hnil; rw [List.length_take, hmin] at this; simp at this; omega)]
    · have : g = 0 := by omega
      subst this
      refine F_spec_FormatTexts.J7i _ _ _ _ _ _ _ _ _ _ _ ⟨by simp [sp, List.intercalate]; omega, F_spec_FormatTexts.J8i _ _ _ _ _ _ _ _ _ _ ?_⟩
      rw [wrap_succ hlt' (by omega)]
      refine hR 1 _ _ _ (by omega) ⟨rfl, rfl, by omega, ?_⟩
      unfold sp
      rw [List.take_succ_eq_append_getElem hgl]; simp [List.intercalate]
  · have : g = n := by omega
    subst this
    rw [List.take_of_length_le (by omega)]
    refine F_spec_FormatTexts.A3x0i _ _ _ (l12Text_ok.mono fun v h' ⟨hv, hh⟩ => ?_)
    subst hv; subst hh
    simp
theorem implTexts_ok {h : AHeap} {a : Pt} {n c : Nat} {e : Bool} {l : List (List Nat)} (r : Row h.length h a n (strs l)) (hn : n + tot l ≤ 1048576) :
    SCall pg n_impl_FormatTexts [.slice a n c e] h fun v h' => v = .str (dash (sp l)) ∧ h' = h := by
  have hll : l.length = n := by simpa using r.1
  have hb := sp_len l
  apply F_impl_FormatTexts.call
  refine (lib_join r (by omega) (by unfold sp at hb; omega)).mono fun v h' ⟨hv, hh⟩ => ?_
  subst hv; subst hh
  simp only [xStr_some]
  refine dashed_ok.mono fun v h' ⟨hv, hh⟩ => ?_
  subst hv; subst hh
  simp [sp]
theorem implTexts_big {h : AHeap} {a : Pt} {n c : Nat} {e : Bool} {l : List (List Nat)} (r : Row h.length h a n (strs l)) (hn : l.length + tot l ≤ 100000000) :
    SCall pg n_impl_FormatTexts [.slice a n c e] h fun v h' => v = .str (dash (sp l)) ∧ h' = h := by
  have hll : l.length = n := by simpa using r.1
  have hb := sp_len l
  apply F_impl_FormatTexts.call
  refine (lib_join r (by omega) (by unfold sp at hb; omega)).mono fun v h' ⟨hv, hh⟩ => ?_
  subst hv; subst hh
  simp only [xStr_some]
  refine dashed_ok.mono fun v h' ⟨hv, hh⟩ => ?_
  subst hv; subst hh
  simp [sp]
end Go.Sim
