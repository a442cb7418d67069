/- A part of the proof of a statement of this seat: see the text that holds the theorem. No condition. -/
import Derived.Test.YtgiiilhdmfddcaaC4
import Derived.Test.YtgiiilhdmfddcaaPT3
import Derived.Test.YtgiiilhdmfddcaaSimU
set_option linter.unusedSimpArgs false
set_option linter.unusedVariables false
namespace Go.Sim
open Go Go.RowKit

theorem szNeed_ok {h : AHeap} {c t : List Nat} {x : Int} (hc : c.length ≤ 9223372036854775807) (ht : t.length ≤ 9223372036854775807) (hx : 0 ≤ x ∧ x ≤ 1048576) :
    SCall pg 32 [.agg [.str c, .str t], .int .i64 x] h fun v h' => ∃ y, v = .int .i64 y ∧ Same h.length h h' ∧ (0 ≤ y → (c.length : Int) + t.length + y = x) := by
  apply F32.call
  simp only [letH_def]
  have s1 : Same h.length h (h ++ [.cells 50 [.str c, .str t] false]) := Same.app (Nat.le_refl _) _
  simp [hCell]
  rw [IntWalk.i64_in _ (by omega)]
  refine bcase_dec (fun hlt => s1) (fun hge => ?_)
  rw [IntWalk.i64_in _ (by omega)]
  exact bcase_dec (fun hlt => s1) (fun hge => ⟨s1, by omega⟩)
theorem need33_ok {h : AHeap} {c t : List Nat} (hb : c.length + t.length ≤ 1048576) :
    SCall pg 33 [.agg [.str c, .str t]] h fun v h' => v = .str (c ++ [32] ++ t) ∧ Same h.length h h' := by
  apply F33.call
  simp only [letH_def]
  have s1 : Same h.length h (h ++ [.cells 51 [.str c, .str t] false]) := Same.app (Nat.le_refl _) _
  simp [hCell]
  exact ⟨by omega, by omega, s1⟩
theorem need35_ok {h : AHeap} {c t : List Nat} (hb : c.length + t.length ≤ 1048576) :
    SCall pg 35 [.agg [.str c, .str t]] h fun v h' => v = .str (c ++ [32] ++ t) ∧ Same h.length h h' := by
  apply F35.call
  simp only [letH_def]
  have s1 : Same h.length h (h ++ [.cells 51 [.str c, .str t] false]) := Same.app (Nat.le_refl _) _
  simp [hCell]
  exact ⟨by omega, by omega, s1⟩
theorem eqNeed_ok {h : AHeap} {c t c' t' : List Nat} :
    SCall pg 36 [.agg [.str c, .str t], .agg [.str c', .str t']] h fun v h' => v = .bool (decide (c = c') && decide (t = t')) ∧ Same h.length h h' := by
  apply F36.call
  simp only [letH_def]
  simp [hCell]
  by_cases e1 : c = c' <;> by_cases e2 : t = t' <;> simp [e1, e2] <;> exact Same.app (Nat.le_refl _) _
theorem toNeed_ok {h : AHeap} {c t : List Nat} :
    SCall pg 34 [.agg [.str c, .str t]] h fun v h' => v = .agg [.str c, .str t] ∧ Same h.length h h' := by
  apply F34.call
  simp only [letH_def]
  simp [hCell, hStore, hRow, putRow, List.getElem?_append, List.getElem?_set]
  exact Same.app (Nat.le_refl _) _

/-- Pairs of strings in a row. -/
def prs (l : List (List Nat × List Nat)) : List AVal := l.flatMap fun p => [.str p.1, .str p.2]
@[simp] theorem prs_nil : prs [] = [] := rfl
@[simp] theorem prs_cons (p : List Nat × List Nat) (l : List (List Nat × List Nat)) : prs (p :: l) = .str p.1 :: .str p.2 :: prs l := rfl
@[simp] theorem prs_append (a b : List (List Nat × List Nat)) : prs (a ++ b) = prs a ++ prs b := by simp [prs]
theorem prs_length (l : List (List Nat × List Nat)) : (prs l).length = l.length * 2 := by
  induction l with
  | nil => rfl
  | cons p l ih => simp [ih]; omega
theorem prs_drop : ∀ (l : List (List Nat × List Nat)) (k : Nat), (prs l).drop (k * 2) = prs (l.drop k)
  | l, 0 => by simp
  | [], k + 1 => by simp
  | p :: l, k + 1 => by rw [Nat.succ_mul]; simpa using prs_drop l k
theorem Row.pair {b : Nat} {h : AHeap} {a : Pt} {n : Nat} {l : List (List Nat × List Nat)} (r : Row b h a (n * 2) (prs l)) {k : Nat} (hk : k < n) :
    ∃ i o, ∃ hk' : k < l.length, a = some (i, o) ∧ i < b ∧ hRow h (.ptr (some (i, o + k * 2))) 2 = some [.str l[k].1, .str l[k].2] := by
  have hl : l.length = n := by have := r.1; rw [prs_length] at this; omega
  obtain ⟨_, r⟩ := r
  rcases r with h0 | ⟨i, o, t, all, ro, ha, hb, hi, hle, hcs⟩
  · omega
  · refine ⟨i, o, by omega, ha, hb, ?_⟩
    have hd : (all.drop (o + k * 2)).take 2 = [.str l[k].1, .str l[k].2] := by
      have h1 : ((all.drop o).take (n * 2)).drop (k * 2) = prs (l.drop k) := by rw [← hcs, prs_drop]
      rw [List.drop_take, List.drop_drop] at h1
      have h2 : (all.drop (o + k * 2)).take 2 = ((all.drop (o + k * 2)).take (n * 2 - k * 2)).take 2 := by rw [List.take_take, Nat.min_eq_left (by omega)]
      rw [h2, h1, List.drop_eq_getElem_cons (by omega)]
      simp only [prs_cons, List.take_succ_cons, List.take_zero]
    simp only [hRow, hi]
    rw [if_pos (by omega), hd]

def tot2 (l : List (List Nat × List Nat)) : Nat := (l.map fun p => p.1.length + p.2.length).sum
theorem tot2_take {l : List (List Nat × List Nat)} {g : Nat} (h : g < l.length) : tot2 (l.take (g + 1)) = tot2 (l.take g) + (l[g].1.length + l[g].2.length) := by
  unfold tot2; rw [List.take_succ_eq_append_getElem h, List.map_append, List.sum_append]; simp
theorem tot2_take_le (l : List (List Nat × List Nat)) (g : Nat) : tot2 (l.take g) ≤ tot2 l := by
  conv => rhs; rw [← List.take_append_drop g l]
  unfold tot2; rw [List.map_append, List.sum_append]; omega
theorem tot2_get {l : List (List Nat × List Nat)} {g : Nat} (h : g < l.length) : l[g].1.length + l[g].2.length ≤ tot2 l := by
  have := tot2_take h; have := tot2_take_le l (g + 1); omega
theorem szNeeds_ok {h : AHeap} {a : Pt} {n c : Nat} {e : Bool} {l : List (List Nat × List Nat)} (r : Row h.length h a (n * 2) (prs l)) (hs : ∀ p ∈ l, p.1.length ≤ 9223372036854775807 ∧ p.2.length ≤ 9223372036854775807) (hn : n ≤ 9223372036854775807) {left : Int} (hl : 0 ≤ left ∧ left ≤ 1048576) :
    SCall pg 16 [.slice a n c e, .int .i64 left] h fun v h' => ∃ x, v = .int .i64 x ∧ Same h.length h h' ∧ (0 ≤ x → (n : Int) + tot2 l + x = left) := by
  have hll : l.length = n := by have := r.1; rw [prs_length] at this; omega
  apply F16.call
  rw [IntWalk.i64_in _ (by omega)]
  refine bcase_dec (fun hlt => ?_) (fun hge => ?_)
  · exact ⟨_, rfl, Same.refl _ _, by omega⟩
  · refine F16.L5ind _ _ _ _ _ (J := fun (g : Nat) x1 x5 h' => x5 = (g : Int) ∧ Same h.length h h' ∧ g ≤ n ∧ 0 ≤ x1 ∧ x1 + n + tot2 (l.take g) = left) (fun g => n - g) ?_ 0 _ 0 h ⟨rfl, Same.refl _ _, by omega, by omega, by simp [tot2]⟩
    rintro g x1 x5 h' ⟨rfl, hS, hg, h0, ht⟩ R hR
    unfold F16.L5t
    refine bcase_dec (fun hlt => ?_) (fun hge => ?_)
    · have hlt' : g < n := by omega
      obtain ⟨i, o, hgl, rfl, hi, hc⟩ := (r.same hS).pair hlt'
      have hsl := hs _ (List.getElem_mem hgl)
      simp only [xSome_some, Int.toNat_natCast, hc, xRow_some, xCons_cons, xNil_nil, xStr_some]
      refine ⟨by omega, (szNeed_ok hsl.1 hsl.2 (by omega)).mono fun v h1 ⟨y, hv, hs1, hy⟩ => ?_⟩
      subst hv
      simp only [xInt_some]
      have hS1 := hS.trans (hs1.mono hS.le)
      refine bcase_dec (fun hneg => ⟨_, rfl, hS1, by omega⟩) (fun hneg => ?_)
      rw [wrap_succ hlt' (by omega)]
      have hyy := hy (by omega)
      refine hR (g + 1) _ _ _ (by omega) ⟨rfl, hS1, by omega, by omega, ?_⟩
      rw [tot2_take hgl]; omega
    · have : g = n := by omega
      subst this
      rw [List.take_of_length_le (by omega)] at ht
      exact F16.A5x0i _ _ _ ⟨_, rfl, hS, by omega⟩
end Go.Sim
