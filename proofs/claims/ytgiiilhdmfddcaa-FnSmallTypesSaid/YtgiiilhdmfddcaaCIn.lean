/- A part of the proof of a statement of this seat: see the text that holds the theorem. No condition. -/
import Derived.Test.YtgiiilhdmfddcaaPTCIn
import Derived.Test.YtgiiilhdmfddcaaCRow
set_option linter.all false
set_option linter.unusedVariables false
set_option linter.unusedSimpArgs false
set_option maxRecDepth 20000
namespace Go.Sim
open Go Go.RowKit
theorem inTexts_ok {h : AHeap} {a0 a1 : Pt} {n0 n1 c0 c1 : Nat} {e0 e1 : Bool} {l0 l1 : List (List Nat)} (r0 : Row h.length h a0 n0 (strs l0)) (r1 : Row h.length h a1 n1 (strs l1)) (hn : n0 ≤ 4611686018427387904) :
    SCall pg n_laws_inTexts [.slice a0 n0 c0 e0, .slice a1 n1 c1 e1] h fun v h' => v = .bool (decide (l0 = l1)) ∧ h' = h := by
  have h0 : l0.length = n0 := by have := r0.1; simpa using this
  have h1 : l1.length = n1 := by have := r1.1; simpa using this
  rw [← flat_eS] at r0 r1
  apply F_laws_inTexts.call
  have hm : (if ((n1 : Nat) : Int) < ((n0 : Nat) : Int) then ((n1 : Nat) : Int) else ((n0 : Nat) : Int)) = ((min n0 n1 : Nat) : Int) := by split <;> omega
  rw [hm]
  refine F_laws_inTexts.L2ind _ _ _ _ _ _ _ _ _ _ (J := fun (g : Nat) x11 h' => x11 = (g : Int) ∧ g ≤ min n0 n1 ∧ h' = h ∧ l0.take g = l1.take g) (fun g => min n0 n1 - g) ?_ 0 _ _ ⟨rfl, by omega, rfl, by simp⟩
  rintro g x5 h' ⟨rfl, hg, rfl, ht⟩ R hR
  unfold F_laws_inTexts.L2t
  refine bcase_dec (fun hlt => ?_) (fun hge => ?_)
  · obtain ⟨i, o, hgl, rfl, hi, hc⟩ := Row.el1 eS_len r0 (k := g) (by omega)
    obtain ⟨i', o', hgl', rfl, hi', hc'⟩ := Row.el1 eS_len r1 (k := g) (by omega)
    simp only [xSome_some, Int.toNat_natCast, hc, hc', eS, List.getElem?_cons_zero, xStr_some]
    refine ⟨by omega, by omega, by trivial, bcase_ndec (fun hne => ?_) (fun he => ?_)⟩
    · have : l0 ≠ l1 := fun e => by subst e; exact hne rfl
      simp [this]
    · rw [wrap_nat (by omega)]
      refine hR (g + 1) _ _ (by omega) ⟨rfl, by omega, rfl, ?_⟩
      rw [List.take_succ_eq_append_getElem hgl, List.take_succ_eq_append_getElem hgl', ht, he]
  · apply F_laws_inTexts.A2x0i
    refine ⟨?_, rfl⟩
    congr 1
    by_cases hnn : n0 = n1
    · subst hnn
      rw [List.take_of_length_le (by omega), List.take_of_length_le (by omega)] at ht
      simp [ht]
    · have : l0 ≠ l1 := fun e => by subst e; omega
      simp [this]; omega
end Go.Sim
