/- A part of the proof of a statement of this seat: see the text that holds the theorem. No condition. -/
import Derived.Test.YtgiiilhdmfddcaaDoorPTy
set_option linter.unusedVariables false
set_option linter.all false
set_option linter.unusedSimpArgs false
namespace Go.Sim

/-- The pieces of a text between the bytes c. -/
def splitN (c : Nat) : List Nat → List (List Nat)
  | [] => [[]]
  | b :: s => if b = c then [] :: splitN c s else match splitN c s with | p :: r => (b :: p) :: r | [] => [[b]]
theorem splitN_ne (c : Nat) (s : List Nat) : splitN c s ≠ [] := by
  cases s with
  | nil => simp [splitN]
  | cons b s => simp only [splitN]; split
                · simp
                · split <;> simp
theorem splitN_none {c : Nat} : ∀ {s : List Nat}, c ∉ s → splitN c s = [s]
  | [], _ => rfl
  | b :: s, h => by
    simp only [List.mem_cons, not_or] at h
    simp only [splitN, if_neg (fun e => h.1 e.symm : ¬ b = c), splitN_none h.2]
theorem splitN_cut {c : Nat} : ∀ {a r : List Nat}, c ∉ a → splitN c (a ++ c :: r) = a :: splitN c r
  | [], r, _ => by simp [splitN]
  | b :: a, r, h => by
    simp only [List.mem_cons, not_or] at h
    simp only [List.cons_append, splitN, if_neg (fun e => h.1 e.symm : ¬ b = c), splitN_cut h.2]
theorem splitN_length (c : Nat) : ∀ s : List Nat, (splitN c s).length = s.count c + 1
  | [] => rfl
  | b :: s => by
    have ih := splitN_length c s
    simp only [splitN, List.count_cons]
    by_cases h : b = c
    · simp [h, ih]
    · simp only [if_neg h]
      cases hs : splitN c s with
      | nil => exact absurd hs (splitN_ne c s)
      | cons p r => rw [hs] at ih; simp [h] at ih ⊢; exact ih
theorem splitN_mem {c : Nat} : ∀ {s p : List Nat}, p ∈ splitN c s → p.length ≤ s.length
  | [], p, h => by simp [splitN] at h; simp [h]
  | b :: s, p, h => by
    simp only [splitN] at h
    by_cases hb : b = c
    · simp only [hb, if_true] at h
      rcases List.mem_cons.1 h with rfl | h
      · simp
      · have := splitN_mem h; simp; omega
    · simp only [if_neg hb] at h
      cases hs : splitN c s with
      | nil => exact absurd hs (splitN_ne c s)
      | cons q r =>
        rw [hs] at h
        rcases List.mem_cons.1 h with rfl | h
        · have := splitN_mem (c := c) (s := s) (p := q) (by rw [hs]; simp); simp; omega
        · have := splitN_mem (c := c) (s := s) (p := p) (by rw [hs]; simp [h]); simp; omega
/-- The need of a text. -/
noncomputable def needP (s : List Nat) : Option (List Nat × List Nat) :=
  match s with
  | c :: d :: t => if d = 32 ∧ (65 ≤ c ∧ c ≤ 84) ∧ tyOk t = true then some ([c], t) else none
  | _ => none
/-- The needs of a text, and whether it is one of needs. -/
noncomputable def needsP (s : List Nat) : List (List Nat × List Nat) × Bool :=
  if s = [45] then ([], true) else match (splitN 38 s).mapM needP with | some l => (l, true) | none => ([], false)
theorem mapM_snoc {α β : Type} (f : α → Option β) (l : List α) (x : α) : (l ++ [x]).mapM f = (l.mapM f).bind fun ys => (f x).map fun y => ys ++ [y] := by
  induction l with
  | nil => simp; cases f x <;> rfl
  | cons a l ih =>
    simp only [List.cons_append, List.mapM_cons, ih]
    cases f a with
    | none => rfl
    | some y => simp; cases l.mapM f with
      | none => rfl
      | some ys => simp; cases f x <;> simp
theorem mapM_none_of {α β : Type} (f : α → Option β) {l : List α} {k : Nat} (h : (l.take k).mapM f = none) : l.mapM f = none := by
  induction l generalizing k with
  | nil => simpa using h
  | cons a l ih =>
    cases k with
    | zero => simp at h
    | succ k =>
      simp only [List.take_succ_cons, List.mapM_cons] at h ⊢
      cases hf : f a with
      | none => rfl
      | some y =>
        rw [hf] at h
        simp at h ⊢
        cases hl : l.mapM f with
        | none => simp
        | some ys =>
          cases ht : (l.take k).mapM f with
          | none => rw [ih ht] at hl; cases hl
          | some zs => rw [ht] at h; simp at h
theorem needP_len {s : List Nat} {p : List Nat × List Nat} (h : needP s = some p) : p.1.length = 1 ∧ p.2.length ≤ 60 ∧ tyOk p.2 = true := by
  unfold needP at h
  split at h
  · split at h
    · rename_i hc
      cases h; exact ⟨rfl, tyOk_len hc.2.2, hc.2.2⟩
    · cases h
  · cases h
end Go.Sim
