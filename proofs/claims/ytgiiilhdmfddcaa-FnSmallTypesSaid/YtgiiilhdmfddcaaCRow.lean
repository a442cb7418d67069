/- A part of the proof of a statement of this seat: see the text that holds the theorem. No condition. -/
import Derived.Test.YtgiiilhdmfddcaaCVec
set_option linter.all false
set_option linter.unusedVariables false
set_option linter.unusedSimpArgs false
namespace Go.Sim
open Go Go.RowKit

section
variable {α : Type} (enc : α → List AVal)
/-- The cells of a list's elements, one after the other. -/
def flat (l : List α) : List AVal := l.flatMap enc
@[simp] theorem flat_nil : flat enc [] = [] := rfl
@[simp] theorem flat_cons (x : α) (l : List α) : flat enc (x :: l) = enc x ++ flat enc l := rfl
@[simp] theorem flat_append (a b : List α) : flat enc (a ++ b) = flat enc a ++ flat enc b := by simp [flat]
variable {enc} {w : Nat}
theorem flat_length (hw : ∀ x, (enc x).length = w) (l : List α) : (flat enc l).length = l.length * w := by
  induction l with
  | nil => simp
  | cons x l ih => rw [flat_cons, List.length_append, hw, ih, List.length_cons, Nat.succ_mul]; omega
theorem flat_dp (hw : ∀ x, (enc x).length = w) : ∀ (l : List α) (k : Nat), (flat enc l).drop (k * w) = flat enc (l.drop k)
  | l, 0 => by simp
  | [], k + 1 => by simp
  | x :: l, k + 1 => by
    have h1 : (enc x ++ flat enc l).drop w = flat enc l := by rw [← hw x, List.drop_left]
    rw [flat_cons, List.drop_succ_cons, ← flat_dp hw l k, Nat.succ_mul, Nat.add_comm, ← List.drop_drop, h1]
theorem flat_tk (hw : ∀ x, (enc x).length = w) : ∀ (l : List α) (k : Nat), (flat enc l).take (k * w) = flat enc (l.take k)
  | l, 0 => by simp
  | [], k + 1 => by simp
  | x :: l, k + 1 => by
    have h1 : ∀ m, (enc x ++ flat enc l).take (w + m) = enc x ++ (flat enc l).take m := fun m => by rw [← hw x, List.take_length_add_append]
    rw [flat_cons, List.take_succ_cons, flat_cons, ← flat_tk hw l k, Nat.succ_mul, Nat.add_comm, h1]
/-- The element k of a row. -/
theorem Row.el (hw : ∀ x, (enc x).length = w) {b : Nat} {h : AHeap} {a : Pt} {n : Nat} {l : List α} (r : Row b h a (n * w) (flat enc l)) (hl : l.length = n) {k : Nat} (hk : k < n) (hw0 : w ≠ 0) :
    ∃ i o, ∃ hk' : k < l.length, a = some (i, o) ∧ i < b ∧ hRow h (.ptr (some (i, o + k * w))) w = some (enc l[k]) ∧ ∀ j, j < w → hCell h (.ptr (some (i, o + k * w + j))) = (enc l[k])[j]? := by
  obtain ⟨_, r⟩ := r
  have hnw : k * w + w ≤ n * w := by rw [← Nat.succ_mul]; exact Nat.mul_le_mul_right _ hk
  rcases r with h0 | ⟨i, o, t, all, ro, ha, hb, hi, hle, hcs⟩
  · omega
  · have hd : (all.drop (o + k * w)).take w = enc l[k] := by
      have h1 : ((all.drop o).take (n * w)).drop (k * w) = flat enc (l.drop k) := by rw [← hcs, flat_dp hw]
      rw [List.drop_take, List.drop_drop] at h1
      have h2 : (all.drop (o + k * w)).take w = ((all.drop (o + k * w)).take (n * w - k * w)).take w := by rw [List.take_take, Nat.min_eq_left (by omega)]
      rw [h2, h1, List.drop_eq_getElem_cons (by omega), flat_cons, List.take_append_of_le_length (by rw [hw]; omega), List.take_of_length_le (by rw [hw]; omega)]
    refine ⟨i, o, by omega, ha, hb, ?_, fun j hj => ?_⟩
    · simp only [hRow, hi]
      rw [if_pos (by omega), hd]
    · simp only [hCell, hi]
      rw [← hd, List.getElem?_take, if_pos hj, List.getElem?_drop]
theorem Row.el1 (hw : ∀ x, (enc x).length = 1) {b : Nat} {h : AHeap} {a : Pt} {n : Nat} {l : List α} (r : Row b h a n (flat enc l)) {k : Nat} (hk : k < n) :
    ∃ i o, ∃ hk' : k < l.length, a = some (i, o) ∧ i < b ∧ hCell h (.ptr (some (i, o + k * 1))) = (enc l[k])[0]? := by
  have hl : l.length = n := by have := r.1; rw [flat_length hw] at this; omega
  obtain ⟨i, o, hk', ha, hb, _, hc⟩ := Row.el hw (n := n) (by simpa using r) hl hk (by omega)
  exact ⟨i, o, hk', ha, hb, by simpa using hc 0 (by omega)⟩
/-- Storing the element k into a row that is filled from the front. -/
theorem flat_put (hw : ∀ x, (enc x).length = w) {l : List α} {k n : Nat} {z : List AVal} (hl : l.length = n) (hk : k < n) (hk' : k < l.length) (hz : z.length = w) :
    putRow (flat enc (l.take k) ++ reps (n - k) z) (k * w) (enc l[k]) = flat enc (l.take (k + 1)) ++ reps (n - (k + 1)) z := by
  have h1 : (flat enc (l.take k)).length = k * w := by rw [flat_length hw, List.length_take, Nat.min_eq_left (by omega)]
  have h2 : reps (n - k) z = z ++ reps (n - (k + 1)) z := by
    rw [show n - k = (n - (k + 1)) + 1 by omega]; simp [reps, List.replicate_succ]
  unfold putRow
  rw [List.take_append_of_le_length (by omega), List.take_of_length_le (by omega), List.take_succ_eq_append_getElem hk', flat_append, flat_cons, flat_nil, List.append_nil, hw, h2, List.append_assoc, List.append_assoc]
  congr 2
  rw [← h1, ← hz, List.drop_append, List.drop_of_length_le (by omega)]
  simp
theorem flat_take_len (hw : ∀ x, (enc x).length = w) {l : List α} {k n : Nat} {z : List AVal} (hl : l.length = n) (hk : k ≤ n) (hz : z.length = w) : (flat enc (l.take k) ++ reps (n - k) z).length = n * w := by
  have h1 : (reps (n - k) z).length = (n - k) * w := by
    unfold reps; rw [List.length_flatten]; simp [hz]
  rw [List.length_append, flat_length hw, h1, List.length_take, Nat.min_eq_left (by omega), ← Nat.add_mul]; congr 1; omega
end
def eS (s : List Nat) : List AVal := [.str s]
def eI (n : Int) : List AVal := [.int .i64 n]
def eP (p : List Nat × List Nat) : List AVal := [.str p.1, .str p.2]
def eG (p : Int × List Nat) : List AVal := [.int .i64 p.1, .str p.2]
theorem flat_eS (l : List (List Nat)) : flat eS l = strs l := by induction l <;> simp_all [eS, strs]
theorem eS_len (x : List Nat) : (eS x).length = 1 := rfl
theorem eI_len (x : Int) : (eI x).length = 1 := rfl
theorem eP_len (x : List Nat × List Nat) : (eP x).length = 2 := rfl
theorem eG_len (x : Int × List Nat) : (eG x).length = 2 := rfl
theorem flat_leaf {α : Type} {enc : α → List AVal} (he : ∀ x, (enc x).all AVal.leaf = true) (l : List α) : (flat enc l).all AVal.leaf = true := by
  induction l with
  | nil => rfl
  | cons x l ih => rw [flat_cons, List.all_append, he, ih]; rfl
theorem wrap_nat {k : Nat} (hn : k + 1 ≤ 9223372036854775807) : IntKind.wrap .i64 ((k : Int) + 1) = ((k + 1 : Nat) : Int) := by rw [IntWalk.i64_in _ (by omega)]; omega
end Go.Sim
