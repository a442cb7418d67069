/- What is proved: the law FnExactAllGivens returns true for every input, and its arguments read as they did. No condition beyond the statement's own. -/
import Derived.Test.YtcdpjjhnhiaapaaCLawA
import Derived.Test.YtcdpjjhnhiaapaaSimW
import Derived.Test.YtcdpjjhnhiaapaaRows
import Derived.ProofKit
import Derived.OpenShut
import Derived.ShutString
import Derived.ChangeOld
import Derived.SizedLaws
set_option linter.unusedVariables false
set_option linter.unusedSimpArgs false
set_option linter.all false
set_option linter.unusedVariables false
namespace Go.Proofs.Ytcdpjjhnhiaapaa.fnExactAllGivens
open Go.ChangeShapes Go.WideShapes Go.ChangeAt Go.RowKit
theorem own : ownKnob Try.prog.godebug = none := by kernel_rfl
theorem small : ∀ t ∈ Try.f8.params.toList, Try.prog.readableRec t = true ∧ t < Try.prog.types.size := by
  intro t ht
  rw [Try.params8] at ht
  rcases (by simpa using ht : t = 25 ∨ t = 26) with rfl | rfl
  · exact ⟨by kernel_rfl, show 25 + 1 ≤ Try.prog.types.size from Nat.le_of_ble_eq_true (by kernel_rfl)⟩
  · exact ⟨by kernel_rfl, show 26 + 1 ≤ Try.prog.types.size from Nat.le_of_ble_eq_true (by kernel_rfl)⟩
set_option maxRecDepth 100000 in
theorem lifted (os : Os) (started : os.Started) (H : Type) (enc : TypeId × Value → H) :
    ReturnsInHanded {} Try.checked os 8 .any (Rows.fnExactAllGivensSpec.pre6 enc Try.prog Try.f8 Rows.fnExactAllGivensRow.domain false) (Rows.fnExactAllGivensSpec.post enc Try.prog Try.f8 false true false false) := by
  refine returnsInHanded_of_change_sized (C := Try.checked) own started (by kernel_rfl) Try.func8
    (ChangeSpec.witness6 (enc := enc) (C := Try.checked) false ⟨#[], #[.agg #[.slice none 0 0, .slice none 0 0], .slice none 0 0], []⟩ 8 (by kernel_rfl) (by kernel_rfl) (by kernel_rfl) (by kernel_rfl)) ?_
  intro W base args ds gs before hval0 hW hcnd hsz0 _
  have hval : ∀ (j : Nat) t v, Try.f8.params[j]? = some t → args[j]? = some v → Value.okWide Try.prog W .any base t v := hval0
  have hW' := hW
  obtain ⟨p, q, hA0, hV, rfl, hfz, hnd⟩ := hW
  have hA : DataW.TrodAll enc Try.prog W 0 (fun _ => true) true Try.f8.params.toList args.toList ds p := hA0
  rw [Try.params8] at hA hval
  have hA' := hA
  obtain ⟨v0, vs0, d0, ds0, p0, q0, hargs, rfl, rfl, h0, r0⟩ := trodAll_cons hA
  obtain ⟨v1, vs1, d1, ds1, p1, q1, hargs1, rfl, rfl, h1, r1⟩ := trodAll_cons r0
  obtain ⟨rfl, rfl, rfl⟩ := trodAll_nil r1
  obtain rfl : args = #[v0, v1] := by cases args; simp_all
  obtain ⟨rfl, rfl⟩ := trodVars_none hV
  obtain ⟨cs0, rfl, _⟩ := okWide_struct Try.underlying25 (hval 0 25 v0 rfl rfl)
  obtain ⟨b1, len1, cap1, rfl⟩ := okWide_slice Try.underlying26 (hval 1 26 v1 rfl rfl)
  obtain ⟨fuel0, hf0⟩ := h0
  obtain ⟨fuel1, hf1⟩ := h1
  obtain ⟨_, μ0, h0, _, same0, rel0, vs0, d0, hv0, hd0⟩ := Go.Sim.imp (base := W.heap.size) (w0 := W) (Nat.le_refl _) (fun _ => rfl) 6 fuel0 (show Go.Sim.okT Try.prog 6 25 = true by kernel_rfl) hf0 [] [] ⟨Below.refl _ _, rfl, by simp, by simp, Nat.le_refl _⟩
  obtain ⟨_, μ1, h1, ext1, same1, rel1, vs1, d1, hv1, hd1⟩ := Go.Sim.imp (base := W.heap.size) (w0 := W) (Nat.le_refl _) (fun _ => rfl) 3 fuel1 (show Go.Sim.okT Try.prog 3 26 = true by kernel_rfl) hf1 μ0 h0 rel0
  have hd0' := Go.Sim.rd_same same1 _ hd0
  obtain ⟨a0, n0, c0, ex0, a1, n1, c1, ex1, w, rfl, hw, hwb⟩ := Go.Sim.rd_world (f := 0) Try.underlying25 rfl rfl Try.underlying22 Try.underlying131 Try.underlying9 Try.underlying9 (by kernel_rfl)
    Try.underlying23 (by kernel_rfl) Try.underlying45 rfl rfl Try.underlying43 Try.underlying9 Try.underlying9 (by kernel_rfl) Try.underlying26 hd0'
  obtain ⟨a2, n2, c2, ex2, l2, rfl, hrow2, hn2, _, hb2⟩ := Go.Sim.rd_pairs (f := 0) Try.underlying26 Try.underlying43 Try.underlying9 Try.underlying9 (by kernel_rfl) hd1
  have hv0' : Go.Sim.VRs μ1 [.slice a0 n0 c0 ex0, .slice a1 n1 c1 ex1] cs0.toList := hv0.ext ext1
  have hle : n0 ≤ c0 ∧ n1 ≤ c1 := by
    have hq := hv0'
    generalize cs0.toList = l at hq
    cases hq with | cons x y => cases y with | cons z t => exact ⟨x.slice_le, z.slice_le⟩
  have hvs : Go.Sim.VRs μ1 [.agg [.slice a0 n0 c0 ex0, .slice a1 n1 c1 ex1], .slice a2 n2 c2 ex2] [Value.agg cs0, Value.slice b1 len1 cap1] := by
    cases hv1 with | cons z t => exact .cons (.agg hv0') (.cons z .nil)
  refine ((Go.Sim.lawAllG (hw hle.1 hle.2) hwb hrow2 hn2 (fun p hp => ⟨(hb2 p hp).1, (hb2 p hp).2.1⟩)).calls W.heap.size W μ1 W #[.agg cs0, .slice b1 len1 cap1] rel1 hvs).mono ?_
  rintro e W' ⟨x, μ', v, h', rfl, _, hr, hvr, rfl⟩
  cases hvr
  have bel := hr.below
  exact ⟨_, rfl, _, _, _, [], _, [], hW', trodAll_mk1 (shut_bool Try.underlying4 _), Go.Sim.trodAll_below (by kernel_rfl) bel small hA', rfl, bel.frame _, fun h => by cases h⟩
theorem over : Rows.fnExactAllGivensRow.holds Try.pinned (OpenSpec.ofChange Rows.fnExactAllGivensSpec) :=
  OpenClaim.holds_of_wide 8 Try.f8 rfl rfl rfl rfl rfl rfl rfl ⟨rfl, rfl, rfl, rfl, rfl⟩ rfl rfl rfl rfl rfl (by kernel_rfl) Try.func8 (by kernel_rfl)
    (of_decide_eq_true (by kernel_rfl)) (by unfold Func.isWrapper; first | (rw [if_pos (by decide +kernel)]; kernel_rfl) | (rw [if_neg (by decide +kernel)]; exact ⟨rfl, rfl⟩))
    (fun os started H enc _ => lifted os started H enc)
theorem proved : Rows.FnExactAllGivensSaid := over
#print axioms proved
end Go.Proofs.Ytcdpjjhnhiaapaa.fnExactAllGivens
namespace Go.Proofs.Ytcdpjjhnhiaapaa
/-- The row, under a short name, for the claim. -/
theorem fnExactAllGivens_holds : Rows.FnExactAllGivensSaid := fnExactAllGivens.proved
end Go.Proofs.Ytcdpjjhnhiaapaa
