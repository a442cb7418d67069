/- What is proved: the law FnExactFormatNeeds returns true for every input, and its argument reads as it did. No condition beyond the statement's own. -/
import Derived.Test.YtgiiilhdmfddcaaC7
import Derived.Test.YtgiiilhdmfddcaaSimU
import Derived.Test.YtgiiilhdmfddcaaRows
import Derived.ProofKit
import Derived.OpenShut
import Derived.ShutString
import Derived.ChangeOld
import Derived.SizedLaws
set_option linter.unusedSimpArgs false
namespace Go.Proofs.Ytgiiilhdmfddcaa.fnExactFormatNeeds
open Go.ChangeShapes Go.WideShapes Go.ChangeAt Go.RowKit
set_option linter.unusedVariables false
theorem own : ownKnob Try.prog.godebug = none := by kernel_rfl
set_option maxRecDepth 100000 in
theorem lifted (os : Os) (started : os.Started) (H : Type) (enc : TypeId × Value → H) :
    ReturnsInHanded {} Try.checked os 5 .any (Rows.fnExactFormatNeedsSpec.pre6 enc Try.prog Try.f5 Rows.fnExactFormatNeedsRow.domain false) (Rows.fnExactFormatNeedsSpec.post enc Try.prog Try.f5 false true false false) := by
  refine returnsInHanded_of_change_sized (C := Try.checked) own started (by kernel_rfl) Try.func5
    (ChangeSpec.witness6 (enc := enc) (C := Try.checked) false ⟨#[], #[.slice none 0 0], []⟩ 8 (by kernel_rfl) (by kernel_rfl) (by kernel_rfl) (by kernel_rfl)) ?_
  intro W base args ds gs before hval0 hW hcnd hsz0 _
  have hval : ∀ (j : Nat) t v, Try.f5.params[j]? = some t → args[j]? = some v → Value.okWide Try.prog W .any base t v := hval0
  have hW' := hW
  obtain ⟨p, q, hA0, hV, rfl, hfz, hnd⟩ := hW
  have hA : DataW.TrodAll enc Try.prog W 0 (fun _ => true) true Try.f5.params.toList args.toList ds p := hA0
  rw [Try.params5] at hA hval
  have hA' := hA
  obtain ⟨v0, vs0, d0, ds0, p0, q0, hargs, rfl, rfl, h0, r0⟩ := trodAll_cons hA
  obtain ⟨rfl, rfl, rfl⟩ := trodAll_nil r0
  obtain rfl : args = #[v0] := by cases args; simp_all
  obtain ⟨rfl, rfl⟩ := trodVars_none hV
  obtain ⟨b0, len, cap, rfl⟩ := okWide_slice Try.underlying31 (hval 0 31 v0 rfl rfl)
  obtain ⟨fuel, hf⟩ := h0
  obtain ⟨_, μ, h, _, _, rel, vs, d, hv, hd⟩ := Go.Sim.imp (base := W.heap.size) (w0 := W) (Nat.le_refl _) (fun _ => rfl) 3 fuel (show Go.Sim.okT Try.prog 3 31 = true by kernel_rfl) hf [] [] ⟨Below.refl _ _, rfl, by simp, by simp, Nat.le_refl _⟩
  obtain ⟨a, n, c, ex, l, rfl, hrow, hn, hs⟩ := Go.Sim.rd_prs (f := 0) Try.underlying31 Try.underlying50 Try.underlying9 Try.underlying9 (by kernel_rfl) hd
  refine ((Go.Sim.law5 hrow hn hs).calls W.heap.size W μ W #[.slice b0 len cap] rel hv).mono ?_
  rintro e W' ⟨x, μ', v, h', rfl, _, hr, hvr, rfl⟩
  cases hvr
  have bel := hr.below
  exact ⟨_, rfl, _, _, _, [], _, [], hW', trodAll_mk1 (shut_bool Try.underlying4 _), Go.Sim.trodAll_below (by kernel_rfl) bel (by simp; exact ⟨by kernel_rfl, show 32 ≤ Try.prog.types.size from Nat.le_of_ble_eq_true (by kernel_rfl)⟩) hA', rfl, bel.frame _, fun h => by cases h⟩
theorem over : Rows.fnExactFormatNeedsRow.holds Try.pinned (OpenSpec.ofChange Rows.fnExactFormatNeedsSpec) :=
  OpenClaim.holds_of_wide 5 Try.f5 rfl rfl rfl rfl rfl rfl rfl ⟨rfl, rfl, rfl, rfl, rfl⟩ rfl rfl rfl rfl rfl (by kernel_rfl) Try.func5 (by kernel_rfl)
    (of_decide_eq_true (by kernel_rfl)) (by unfold Func.isWrapper; first | (rw [if_pos (by decide +kernel)]; kernel_rfl) | (rw [if_neg (by decide +kernel)]; exact ⟨rfl, rfl⟩))
    (fun os started H enc _ => lifted os started H enc)
theorem proved : Rows.FnExactFormatNeedsSaid := over
#print axioms proved
end Go.Proofs.Ytgiiilhdmfddcaa.fnExactFormatNeeds
namespace Go.Proofs.Ytgiiilhdmfddcaa
/-- The row, under a short name, for the claim. -/
theorem fnExactFormatNeeds_holds : Rows.FnExactFormatNeedsSaid := fnExactFormatNeeds.proved
end Go.Proofs.Ytgiiilhdmfddcaa
