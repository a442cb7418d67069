/- What is proved: the law FnExactOverlapsOf returns true for every input, and its arguments read as they did. No condition beyond the statement's own. -/
import Derived.Test.YtdglddliggejdaaCRd2
import Derived.Test.YtdglddliggejdaaSimX
import Derived.Test.YtdglddliggejdaaRows
import Derived.ProofKit
import Derived.OpenShut
import Derived.ShutString
import Derived.ChangeOld
import Derived.SizedLaws
set_option linter.unusedVariables false
set_option linter.unusedSimpArgs false
set_option linter.all false
set_option linter.unusedVariables false
namespace Go.Proofs.Ytdglddliggejdaa.fnExactOverlapsOf
open Go.ChangeShapes Go.WideShapes Go.ChangeAt Go.RowKit
theorem own : ownKnob Try.prog.godebug = none := by kernel_rfl
theorem small : ∀ t ∈ Try.f4.params.toList, Try.prog.readableRec t = true ∧ t < Try.prog.types.size := by
  intro t ht
  rw [Try.params4] at ht
  have ht2 : t ∈ ([25] : List TypeId) := ht
  simp only [List.mem_cons, List.not_mem_nil, or_false] at ht2
  subst ht2
  exact ⟨by kernel_rfl, show 25 + 1 ≤ Try.prog.types.size from Nat.le_of_ble_eq_true (by kernel_rfl)⟩
set_option maxRecDepth 100000 in
theorem lifted (os : Os) (started : os.Started) (H : Type) (enc : TypeId × Value → H) :
    ReturnsInHanded {} Try.checked os 4 .any (Rows.fnExactOverlapsOfSpec.pre6 enc Try.prog Try.f4 Rows.fnExactOverlapsOfRow.domain false) (Rows.fnExactOverlapsOfSpec.post enc Try.prog Try.f4 false true false false) := by
  refine returnsInHanded_of_change_sized (C := Try.checked) own started (by kernel_rfl) Try.func4
    (ChangeSpec.witness6 (enc := enc) (C := Try.checked) false ⟨#[], #[.agg #[.slice none 0 0, .slice none 0 0]], []⟩ 8 (by kernel_rfl) (by kernel_rfl) (by kernel_rfl) (by kernel_rfl)) ?_
  intro W base args ds gs before hval0 hW hcnd hsz0 _
  have hval : ∀ (j : Nat) t v, Try.f4.params[j]? = some t → args[j]? = some v → Value.okWide Try.prog W .any base t v := hval0
  have hW' := hW
  obtain ⟨p, q, hA0, hV, rfl, hfz, hnd⟩ := hW
  have hA : DataW.TrodAll enc Try.prog W 0 (fun _ => true) true Try.f4.params.toList args.toList ds p := hA0
  rw [Try.params4] at hA hval
  have hA' := hA
  obtain ⟨v0, vs0, d0, ds0, p0, q0, hargs0, rfl, rfl, t0, r0⟩ := trodAll_cons hA
  obtain ⟨rfl, rfl, rfl⟩ := trodAll_nil r0
  obtain rfl : args = #[v0] := by cases args; simp_all
  obtain ⟨rfl, rfl⟩ := trodVars_none hV
  obtain ⟨cs0, rfl, _⟩ := okWide_struct Try.underlying25 (hval 0 25 v0 rfl rfl)
  obtain ⟨fuel0, hf0⟩ := t0
  obtain ⟨_, μ0, h0, ext0, same0, rel0, vs0, d0, hv0, hd0⟩ := Go.Sim.imp (base := W.heap.size) (w0 := W) (Nat.le_refl _) (fun _ => rfl) 6 fuel0 (show Go.Sim.okT Try.prog 6 25 = true by kernel_rfl) hf0 [] [] ⟨Below.refl _ _, rfl, by simp, by simp, Nat.le_refl _⟩
  obtain ⟨a0, n0, c0, ex0, a1, n1, c1, ex1, w, rfl, hw, hwb⟩ := Go.Sim.rd_world (f := 0) Try.underlying25 rfl rfl Try.underlying22 Try.underlying131 Try.underlying9 Try.underlying9 (by kernel_rfl)
    Try.underlying23 (by kernel_rfl) Try.underlying136 rfl rfl Try.underlying133 Try.underlying9 Try.underlying9 (by kernel_rfl) Try.underlying134 hd0
  have hv0' : Go.Sim.VRs μ0 [.slice a0 n0 c0 ex0, .slice a1 n1 c1 ex1] cs0.toList := hv0
  have hle : n0 ≤ c0 ∧ n1 ≤ c1 := by
    have hq := hv0'
    generalize cs0.toList = l at hq
    cases hq with | cons x y => cases y with | cons z t => exact ⟨x.slice_le, z.slice_le⟩
  have hvs : Go.Sim.VRs μ0 [.agg [.slice a0 n0 c0 ex0, .slice a1 n1 c1 ex1]] [Value.agg cs0] := .cons (.agg hv0') .nil
  refine ((Go.Sim.lawOverlapsOf (hw hle.1 hle.2) hwb).calls W.heap.size W μ0 W #[Value.agg cs0] rel0 hvs).mono ?_
  rintro e W' ⟨x, μ', v, h', rfl, _, hr, hvr, rfl⟩
  cases hvr
  have bel := hr.below
  exact ⟨_, rfl, _, _, _, [], _, [], hW', trodAll_mk1 (shut_bool Try.underlying4 _), Go.Sim.trodAll_below (by kernel_rfl) bel small hA', rfl, bel.frame _, fun h => by cases h⟩
theorem over : Rows.fnExactOverlapsOfRow.holds Try.pinned (OpenSpec.ofChange Rows.fnExactOverlapsOfSpec) :=
  OpenClaim.holds_of_wide 4 Try.f4 rfl rfl rfl rfl rfl rfl rfl ⟨rfl, rfl, rfl, rfl, rfl⟩ rfl rfl rfl rfl rfl (by kernel_rfl) Try.func4 (by kernel_rfl)
    (of_decide_eq_true (by kernel_rfl)) (by unfold Func.isWrapper; first | (rw [if_pos (by decide +kernel)]; kernel_rfl) | (rw [if_neg (by decide +kernel)]; exact ⟨rfl, rfl⟩))
    (fun os started H enc _ => lifted os started H enc)
theorem proved : Rows.FnExactOverlapsOfSaid := over
#print axioms proved
end Go.Proofs.Ytdglddliggejdaa.fnExactOverlapsOf
namespace Go.Proofs.Ytdglddliggejdaa
/-- The row, under a short name, for the claim. -/
theorem fnExactOverlapsOf_holds : Rows.FnExactOverlapsOfSaid := fnExactOverlapsOf.proved
end Go.Proofs.Ytdglddliggejdaa
