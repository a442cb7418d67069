/- What is proved: the law FnExactIsOrdered returns true for every input, and its arguments read as they did. No condition beyond the statement's own. -/
import Derived.Test.YtdglddliggejdaaGreatCRd2
import Derived.Test.YtdglddliggejdaaGreatSimW
import Derived.Test.YtdglddliggejdaaGreatRows
import Derived.ProofKit
import Derived.OpenShut
import Derived.ShutString
import Derived.ChangeOld
import Derived.SizedLaws
set_option linter.unusedVariables false
set_option linter.unusedSimpArgs false
set_option linter.all false
set_option linter.unusedVariables false
namespace Go.Proofs.YtdglddliggejdaaGreat.fnExactIsOrdered
open Go.ChangeShapes Go.WideShapes Go.ChangeAt Go.RowKit
theorem own : ownKnob Tryz.prog.godebug = none := by kernel_rfl
theorem small : ∀ t ∈ Tryz.f4.params.toList, Tryz.prog.readableRec t = true ∧ t < Tryz.prog.types.size := by
  intro t ht
  rw [Tryz.params4] at ht
  have ht2 : t ∈ ([41] : List TypeId) := ht
  simp only [List.mem_cons, List.not_mem_nil, or_false] at ht2
  subst ht2
  exact ⟨by kernel_rfl, show 41 + 1 ≤ Tryz.prog.types.size from Nat.le_of_ble_eq_true (by kernel_rfl)⟩
set_option maxRecDepth 100000 in
theorem lifted (os : Os) (started : os.Started) (H : Type) (enc : TypeId × Value → H) :
    ReturnsInHanded {} Tryz.checked os 4 .any (Rows.fnExactIsOrderedSpec.pre6 enc Tryz.prog Tryz.f4 Rows.fnExactIsOrderedRow.domain false) (Rows.fnExactIsOrderedSpec.post enc Tryz.prog Tryz.f4 false true false false) := by
  refine returnsInHanded_of_change_sized (C := Tryz.checked) own started (by kernel_rfl) Tryz.func4
    (ChangeSpec.witness6 (enc := enc) (C := Tryz.checked) false ⟨#[], #[.agg #[.slice none 0 0, .slice none 0 0]], []⟩ 8 (by kernel_rfl) (by kernel_rfl) (by kernel_rfl) (by kernel_rfl)) ?_
  intro W base args ds gs before hval0 hW hcnd hsz0 _
  have hval : ∀ (j : Nat) t v, Tryz.f4.params[j]? = some t → args[j]? = some v → Value.okWide Tryz.prog W .any base t v := hval0
  have hW' := hW
  obtain ⟨p, q, hA0, hV, rfl, hfz, hnd⟩ := hW
  have hA : DataW.TrodAll enc Tryz.prog W 0 (fun _ => true) true Tryz.f4.params.toList args.toList ds p := hA0
  rw [Tryz.params4] at hA hval
  have hA' := hA
  obtain ⟨v0, vs0, d0, ds0, p0, q0, hargs0, rfl, rfl, t0, r0⟩ := trodAll_cons hA
  obtain ⟨rfl, rfl, rfl⟩ := trodAll_nil r0
  obtain rfl : args = #[v0] := by cases args; simp_all
  obtain ⟨rfl, rfl⟩ := trodVars_none hV
  obtain ⟨cs0, rfl, _⟩ := okWide_struct Tryz.underlying41 (hval 0 41 v0 rfl rfl)
  obtain ⟨fuel0, hf0⟩ := t0
  obtain ⟨_, μ0, h0, ext0, same0, rel0, vs0, d0, hv0, hd0⟩ := Go.Sim.imp (base := W.heap.size) (w0 := W) (Nat.le_refl _) (fun _ => rfl) 6 fuel0 (show Go.Sim.okT Tryz.prog 6 41 = true by kernel_rfl) hf0 [] [] ⟨Below.refl _ _, rfl, by simp, by simp, Nat.le_refl _⟩
  obtain ⟨a0, n0, c0, ex0, a1, n1, c1, ex1, w, rfl, hw, hwb⟩ := Go.Sim.rd_world (f := 0) Tryz.underlying41 rfl rfl Tryz.underlying38 Tryz.underlying137 Tryz.underlying9 Tryz.underlying9 (by kernel_rfl)
    Tryz.underlying39 (by kernel_rfl) Tryz.underlying142 rfl rfl Tryz.underlying139 Tryz.underlying9 Tryz.underlying9 (by kernel_rfl) Tryz.underlying140 hd0
  have hv0' : Go.Sim.VRs μ0 [.slice a0 n0 c0 ex0, .slice a1 n1 c1 ex1] cs0.toList := hv0
  have hle : n0 ≤ c0 ∧ n1 ≤ c1 := by
    have hq := hv0'
    generalize cs0.toList = l at hq
    cases hq with | cons x y => cases y with | cons z t => exact ⟨x.slice_le, z.slice_le⟩
  have hvs : Go.Sim.VRs μ0 [.agg [.slice a0 n0 c0 ex0, .slice a1 n1 c1 ex1]] [Value.agg cs0] := .cons (.agg hv0') .nil
  refine ((Go.Sim.lawIsOrdered (hw hle.1 hle.2) hwb).calls W.heap.size W μ0 W #[Value.agg cs0] rel0 hvs).mono ?_
  rintro e W' ⟨x, μ', v, h', rfl, _, hr, hvr, rfl⟩
  cases hvr
  have bel := hr.below
  exact ⟨_, rfl, _, _, _, [], _, [], hW', trodAll_mk1 (shut_bool Tryz.underlying4 _), Go.Sim.trodAll_below (by kernel_rfl) bel small hA', rfl, bel.frame _, fun h => by cases h⟩
theorem over : Rows.fnExactIsOrderedRow.holds Tryz.pinned (OpenSpec.ofChange Rows.fnExactIsOrderedSpec) :=
  OpenClaim.holds_of_wide 4 Tryz.f4 rfl rfl rfl rfl rfl rfl rfl ⟨rfl, rfl, rfl, rfl, rfl⟩ rfl rfl rfl rfl rfl (by kernel_rfl) Tryz.func4 (by kernel_rfl)
    (of_decide_eq_true (by kernel_rfl)) (by unfold Func.isWrapper; first | (rw [if_pos (by decide +kernel)]; kernel_rfl) | (rw [if_neg (by decide +kernel)]; exact ⟨rfl, rfl⟩))
    (fun os started H enc _ => lifted os started H enc)
theorem proved : Rows.FnExactIsOrderedSaid := over
#print axioms proved
end Go.Proofs.YtdglddliggejdaaGreat.fnExactIsOrdered
namespace Go.Proofs.YtdglddliggejdaaGreat
/-- The row, under a short name, for the claim. -/
theorem fnExactIsOrdered_holds : Rows.FnExactIsOrderedSaid := fnExactIsOrdered.proved
end Go.Proofs.YtdglddliggejdaaGreat
