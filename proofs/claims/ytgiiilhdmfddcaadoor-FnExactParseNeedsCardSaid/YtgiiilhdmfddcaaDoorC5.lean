/- A part of the proof of a statement of this seat: see the text that holds the theorem. No condition. -/
import Derived.Test.YtgiiilhdmfddcaaDoorPTC5
import Derived.Test.YtgiiilhdmfddcaaDoorC4
set_option linter.unusedSimpArgs false
set_option linter.all false
set_option linter.unusedVariables false
namespace Go.Sim
open Go Go.RowKit

theorem eqNeed_ok {h : AHeap} {c t c' t' : List Nat} :
    SCall pg n_laws_eqNeed [.agg [.str c, .str t], .agg [.str c', .str t']] h fun v h' => v = .bool (decide (c = c') && decide (t = t')) ∧ Same h.length h h' := by
  apply F_laws_eqNeed.call
  simp only [letH_def]
  simp [hCell]
  by_cases e1 : c = c' <;> by_cases e2 : t = t' <;> simp [e1, e2] <;> exact Same.app (Nat.le_refl _) _
/-- Pairs of strings in a row. -/
def prs (l : List (List Nat × List Nat)) : List AVal := l.flatMap fun p => [.str p.1, .str p.2]
@[simp] theorem prs_nil : prs [] = [] := rfl
@[simp] theorem prs_cons (p : List Nat × List Nat) (l : List (List Nat × List Nat)) : prs (p :: l) = .str p.1 :: .str p.2 :: prs l := rfl
@[simp] theorem prs_append (a b : List (List Nat × List Nat)) : prs (a ++ b) = prs a ++ prs b := by simp [prs]
theorem prs_length (l : List (List Nat × List Nat)) : (prs l).length = l.length * 2 := by
  induction l with
  | nil => rfl
  | cons p l ih => simp [ih]; omega
theorem prs_drop : ∀ (l : List (List Nat × List Nat)) (k : Nat), (prs l).drop (k * 2) = prs (l.drop k)
  | l, 0 => by simp
  | [], k + 1 => by simp
  | p :: l, k + 1 => by rw [Nat.succ_mul]; simpa using prs_drop l k
theorem Row.pair {b : Nat} {h : AHeap} {a : Pt} {n : Nat} {l : List (List Nat × List Nat)} (r : Row b h a (n * 2) (prs l)) {k : Nat} (hk : k < n) :
    ∃ i o, ∃ hk' : k < l.length, a = some (i, o) ∧ i < b ∧ hRow h (.ptr (some (i, o + k * 2))) 2 = some [.str l[k].1, .str l[k].2] := by
  have hl : l.length = n := by have := r.1; rw [prs_length] at this; omega
  obtain ⟨_, r⟩ := r
  rcases r with h0 | ⟨i, o, t, all, ro, ha, hb, hi, hle, hcs⟩
  · omega
  · refine ⟨i, o, by omega, ha, hb, ?_⟩
    have hd : (all.drop (o + k * 2)).take 2 = [.str l[k].1, .str l[k].2] := by
      have h1 : ((all.drop o).take (n * 2)).drop (k * 2) = prs (l.drop k) := by rw [← hcs, prs_drop]
      rw [List.drop_take, List.drop_drop] at h1
      have h2 : (all.drop (o + k * 2)).take 2 = ((all.drop (o + k * 2)).take (n * 2 - k * 2)).take 2 := by rw [List.take_take, Nat.min_eq_left (by omega)]
      rw [h2, h1, List.drop_eq_getElem_cons (by omega)]
      simp only [prs_cons, List.take_succ_cons, List.take_zero]
    simp only [hRow, hi]
    rw [if_pos (by omega), hd]

def tot2 (l : List (List Nat × List Nat)) : Nat := (l.map fun p => p.1.length + p.2.length).sum
theorem tot2_take {l : List (List Nat × List Nat)} {g : Nat} (h : g < l.length) : tot2 (l.take (g + 1)) = tot2 (l.take g) + (l[g].1.length + l[g].2.length) := by
  unfold tot2; rw [List.take_succ_eq_append_getElem h, List.map_append, List.sum_append]; simp
theorem tot2_take_le (l : List (List Nat × List Nat)) (g : Nat) : tot2 (l.take g) ≤ tot2 l := by
  conv => rhs; rw [← List.take_append_drop g l]
  unfold tot2; rw [List.map_append, List.sum_append]; omega
theorem tot2_get {l : List (List Nat × List Nat)} {g : Nat} (h : g < l.length) : l[g].1.length + l[g].2.length ≤ tot2 l := by
  have := tot2_take h; have := tot2_take_le l (g + 1); omega
end Go.Sim
