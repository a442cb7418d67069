/- A part of the proof of a statement of this seat: see the text that holds the theorem. No condition. -/
import Derived.Test.YtgiiilhdmfddcaaPTy
set_option linter.unusedVariables false
set_option linter.all false
set_option linter.unusedSimpArgs false
namespace Go.Sim

/-- The variables that stand in a text, in order. -/
def varsN : List Nat := [88, 89, 90, 120, 121, 122]
def varsL (s : List Nat) : List Nat := varsN.filter fun v => decide (v ∈ s)
theorem varsN_var (c : Nat) : c ∈ varsN ↔ isVarN c = true := by simp [varsN, isVarN]; omega
/-- The size of a text's type, or -1. -/
noncomputable def sizeS (s : List Nat) : Int := match ofTxt s with | some t => t.size | none => -1
theorem filter_counts (s : List Nat) : (s.filter fun c => !isMark c).length + s.count 40 + s.count 41 + s.count 44 = s.length := by
  induction s with
  | nil => rfl
  | cons c s ih =>
    simp only [List.count_cons, List.length_cons, List.filter_cons]
    by_cases h1 : c = 40
    · subst h1; rw [show isMark 40 = true from rfl]; simp; omega
    · by_cases h2 : c = 41
      · subst h2; rw [show isMark 41 = true from rfl]; simp; omega
      · by_cases h3 : c = 44
        · subst h3; rw [show isMark 44 = true from rfl]; simp; omega
        · have : isMark c = false := by simp [isMark, h1, h2, h3]
          rw [this]; simp [h1, h2, h3]; omega
theorem size_counts {t : Ty} (h : t.ok = true) : (t.size : Int) = (t.txt.length : Int) - (t.txt.count 40 : Nat) - (t.txt.count 41 : Nat) - (t.txt.count 44 : Nat) := by
  have h1 := filter_counts t.txt
  rw [Ty.txt_filter h, Ty.letters_len] at h1
  omega
theorem sizeS_some {s : List Nat} {t : Ty} (h : ofTxt s = some t) : sizeS s = t.size := by unfold sizeS; rw [h]
theorem sizeS_none {s : List Nat} (h : ofTxt s = none) : sizeS s = -1 := by unfold sizeS; rw [h]
theorem tyOk_some {s : List Nat} (h : tyOk s = true) : ∃ t, ofTxt s = some t := Option.isSome_iff_exists.1 h
theorem tyOk_none {s : List Nat} (h : tyOk s = false) : ofTxt s = none := by
  cases ho : ofTxt s with
  | none => rfl
  | some t => simp [tyOk, ho] at h
theorem tyOk_of {s : List Nat} {t : Ty} (h : ofTxt s = some t) : tyOk s = true := by simp [tyOk, h]
end Go.Sim
