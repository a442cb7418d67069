/- What is proved: the law FnExactWithInstance returns true for every input, and its arguments read as they did. No condition beyond the statement's own. -/
import Derived.Test.YtflfcofeedjblaaCRd2
import Derived.Test.YtflfcofeedjblaaSimX
import Derived.Test.YtflfcofeedjblaaRows
import Derived.ProofKit
import Derived.OpenShut
import Derived.ShutString
import Derived.ChangeOld
import Derived.SizedLaws
set_option linter.unusedVariables false
set_option linter.unusedSimpArgs false
set_option linter.all false
set_option linter.unusedVariables false
namespace Go.Proofs.Ytflfcofeedjblaa.fnExactWithInstance
open Go.ChangeShapes Go.WideShapes Go.ChangeAt Go.RowKit
theorem own : ownKnob Try.prog.godebug = none := by kernel_rfl
theorem small : ∀ t ∈ Try.f3.params.toList, Try.prog.readableRec t = true ∧ t < Try.prog.types.size := by
  intro t ht
  rw [Try.params3] at ht
  have ht2 : t ∈ ([25, 30] : List TypeId) := ht
  simp only [List.mem_cons, List.not_mem_nil, or_false] at ht2
  rcases ht2 with rfl | rfl
  · exact ⟨by kernel_rfl, show 25 + 1 ≤ Try.prog.types.size from Nat.le_of_ble_eq_true (by kernel_rfl)⟩
  · exact ⟨by kernel_rfl, show 30 + 1 ≤ Try.prog.types.size from Nat.le_of_ble_eq_true (by kernel_rfl)⟩
set_option maxRecDepth 100000 in
theorem lifted (os : Os) (started : os.Started) (H : Type) (enc : TypeId × Value → H) :
    ReturnsInHanded {} Try.checked os 3 .any (Rows.fnExactWithInstanceSpec.pre6 enc Try.prog Try.f3 Rows.fnExactWithInstanceRow.domain false) (Rows.fnExactWithInstanceSpec.post enc Try.prog Try.f3 false true false false) := by
  refine returnsInHanded_of_change_sized (C := Try.checked) own started (by kernel_rfl) Try.func3
    (ChangeSpec.witness6 (enc := enc) (C := Try.checked) false ⟨#[], #[.agg #[.slice none 0 0, .slice none 0 0], .agg #[.string ⟨#[]⟩, .string ⟨#[]⟩, .slice none 0 0]], []⟩ 8 (by kernel_rfl) (by kernel_rfl) (by kernel_rfl) (by kernel_rfl)) ?_
  intro W base args ds gs before hval0 hW hcnd hsz0 _
  have hval : ∀ (j : Nat) t v, Try.f3.params[j]? = some t → args[j]? = some v → Value.okWide Try.prog W .any base t v := hval0
  have hW' := hW
  obtain ⟨p, q, hA0, hV, rfl, hfz, hnd⟩ := hW
  have hA : DataW.TrodAll enc Try.prog W 0 (fun _ => true) true Try.f3.params.toList args.toList ds p := hA0
  rw [Try.params3] at hA hval
  have hA' := hA
  obtain ⟨v0, vs0, d0, ds0, p0, q0, hargs0, rfl, rfl, t0, r0⟩ := trodAll_cons hA
  obtain ⟨v1, vs1, d1, ds1, p1, q1, hargs1, rfl, rfl, t1, r1⟩ := trodAll_cons r0
  subst hargs1
  obtain ⟨rfl, rfl, rfl⟩ := trodAll_nil r1
  obtain rfl : args = #[v0, v1] := by cases args; simp_all
  obtain ⟨rfl, rfl⟩ := trodVars_none hV
  obtain ⟨cs0, rfl, _⟩ := okWide_struct Try.underlying25 (hval 0 25 v0 rfl rfl)
  obtain ⟨cs1, rfl, _⟩ := okWide_struct Try.underlying30 (hval 1 30 v1 rfl rfl)
  obtain ⟨fuel0, hf0⟩ := t0
  obtain ⟨_, μ0, h0, ext0, same0, rel0, vs0, d0, hv0, hd0⟩ := Go.Sim.imp (base := W.heap.size) (w0 := W) (Nat.le_refl _) (fun _ => rfl) 6 fuel0 (show Go.Sim.okT Try.prog 6 25 = true by kernel_rfl) hf0 [] [] ⟨Below.refl _ _, rfl, by simp, by simp, Nat.le_refl _⟩
  obtain ⟨fuel1, hf1⟩ := t1
  obtain ⟨_, μ1, h1, ext1, same1, rel1, vs1, d1, hv1, hd1⟩ := Go.Sim.imp (base := W.heap.size) (w0 := W) (Nat.le_refl _) (fun _ => rfl) 4 fuel1 (show Go.Sim.okT Try.prog 4 30 = true by kernel_rfl) hf1 μ0 h0 rel0
  have hd0_1 := Go.Sim.rd_same same1 _ hd0
  obtain ⟨a0, n0, c0, ex0, a1, n1, c1, ex1, w, rfl, hw, hwb⟩ := Go.Sim.rd_world (f := 0) Try.underlying25 rfl rfl Try.underlying22 Try.underlying70 Try.underlying9 Try.underlying9 (by kernel_rfl)
    Try.underlying23 (by kernel_rfl) Try.underlying30 rfl rfl Try.underlying27 Try.underlying9 Try.underlying9 (by kernel_rfl) Try.underlying28 hd0_1
  obtain ⟨x1, rfl, hib⟩ := Go.Sim.rd_inst (f := 0) Try.underlying30 rfl rfl Try.underlying27 Try.underlying9 Try.underlying9 (by kernel_rfl) Try.underlying28 hd1
  obtain ⟨i1, hi1, hp1, hn1, hl1⟩ := hib
  have hv0' : Go.Sim.VRs μ1 [.slice a0 n0 c0 ex0, .slice a1 n1 c1 ex1] cs0.toList := (hv0).ext ext1
  have hvn1 : Go.Sim.VRs μ1 (Go.Sim.eN x1) cs1.toList := hv1
  have hle : n0 ≤ c0 ∧ n1 ≤ c1 := by
    have hq := hv0'
    generalize cs0.toList = l at hq
    cases hq with | cons x y => cases y with | cons z t => exact ⟨x.slice_le, z.slice_le⟩
  have hvs : Go.Sim.VRs μ1 [.agg [.slice a0 n0 c0 ex0, .slice a1 n1 c1 ex1], .agg (Go.Sim.eN x1)] [Value.agg cs0, Value.agg cs1] := .cons (.agg hv0') (.cons (.agg hvn1) .nil)
  refine ((Go.Sim.lawWithInstance (hw hle.1 hle.2) hwb hi1 hp1 hn1 hl1).calls W.heap.size W μ1 W #[Value.agg cs0, Value.agg cs1] rel1 hvs).mono ?_
  rintro e W' ⟨x, μ', v, h', rfl, _, hr, hvr, rfl⟩
  cases hvr
  have bel := hr.below
  exact ⟨_, rfl, _, _, _, [], _, [], hW', trodAll_mk1 (shut_bool Try.underlying4 _), Go.Sim.trodAll_below (by kernel_rfl) bel small hA', rfl, bel.frame _, fun h => by cases h⟩
theorem over : Rows.fnExactWithInstanceRow.holds Try.pinned (OpenSpec.ofChange Rows.fnExactWithInstanceSpec) :=
  OpenClaim.holds_of_wide 3 Try.f3 rfl rfl rfl rfl rfl rfl rfl ⟨rfl, rfl, rfl, rfl, rfl⟩ rfl rfl rfl rfl rfl (by kernel_rfl) Try.func3 (by kernel_rfl)
    (of_decide_eq_true (by kernel_rfl)) (by unfold Func.isWrapper; first | (rw [if_pos (by decide +kernel)]; kernel_rfl) | (rw [if_neg (by decide +kernel)]; exact ⟨rfl, rfl⟩))
    (fun os started H enc _ => lifted os started H enc)
theorem proved : Rows.FnExactWithInstanceSaid := over
#print axioms proved
end Go.Proofs.Ytflfcofeedjblaa.fnExactWithInstance
namespace Go.Proofs.Ytflfcofeedjblaa
/-- The row, under a short name, for the claim. -/
theorem fnExactWithInstance_holds : Rows.FnExactWithInstanceSaid := fnExactWithInstance.proved
end Go.Proofs.Ytflfcofeedjblaa
