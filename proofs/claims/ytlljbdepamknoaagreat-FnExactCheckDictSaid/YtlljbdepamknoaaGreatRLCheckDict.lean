/- What is proved: the law FnExactCheckDict returns true for every input, and its arguments read as they did. No condition beyond the statement's own. -/
import Derived.Test.YtlljbdepamknoaaGreatCRd2
import Derived.Test.YtlljbdepamknoaaGreatSimX
import Derived.Test.YtlljbdepamknoaaGreatRows
import Derived.ProofKit
import Derived.OpenShut
import Derived.ShutString
import Derived.ChangeOld
import Derived.SizedLaws
set_option linter.unusedVariables false
set_option linter.unusedSimpArgs false
set_option linter.all false
set_option linter.unusedVariables false
namespace Go.Proofs.YtlljbdepamknoaaGreat.fnExactCheckDict
open Go.ChangeShapes Go.WideShapes Go.ChangeAt Go.RowKit
theorem own : ownKnob Tryz.prog.godebug = none := by kernel_rfl
theorem small : ∀ t ∈ Tryz.f3.params.toList, Tryz.prog.readableRec t = true ∧ t < Tryz.prog.types.size := by
  intro t ht
  rw [Tryz.params3] at ht
  have ht2 : t ∈ ([25, 27, 9] : List TypeId) := ht
  simp only [List.mem_cons, List.not_mem_nil, or_false] at ht2
  rcases ht2 with rfl | rfl | rfl
  · exact ⟨by kernel_rfl, show 25 + 1 ≤ Tryz.prog.types.size from Nat.le_of_ble_eq_true (by kernel_rfl)⟩
  · exact ⟨by kernel_rfl, show 27 + 1 ≤ Tryz.prog.types.size from Nat.le_of_ble_eq_true (by kernel_rfl)⟩
  · exact ⟨by kernel_rfl, show 9 + 1 ≤ Tryz.prog.types.size from Nat.le_of_ble_eq_true (by kernel_rfl)⟩
set_option maxRecDepth 100000 in
theorem lifted (os : Os) (started : os.Started) (H : Type) (enc : TypeId × Value → H) :
    ReturnsInHanded {} Tryz.checked os 3 .any (Rows.fnExactCheckDictSpec.pre6 enc Tryz.prog Tryz.f3 Rows.fnExactCheckDictRow.domain false) (Rows.fnExactCheckDictSpec.post enc Tryz.prog Tryz.f3 false true false false) := by
  refine returnsInHanded_of_change_sized (C := Tryz.checked) own started (by kernel_rfl) Tryz.func3
    (ChangeSpec.witness6 (enc := enc) (C := Tryz.checked) false ⟨#[], #[.agg #[.slice none 0 0, .slice none 0 0], .agg #[.string ⟨#[]⟩, .string ⟨#[]⟩], .string ⟨#[]⟩], []⟩ 8 (by kernel_rfl) (by kernel_rfl) (by kernel_rfl) (by kernel_rfl)) ?_
  intro W base args ds gs before hval0 hW hcnd hsz0 _
  have hval : ∀ (j : Nat) t v, Tryz.f3.params[j]? = some t → args[j]? = some v → Value.okWide Tryz.prog W .any base t v := hval0
  have hW' := hW
  obtain ⟨p, q, hA0, hV, rfl, hfz, hnd⟩ := hW
  have hA : DataW.TrodAll enc Tryz.prog W 0 (fun _ => true) true Tryz.f3.params.toList args.toList ds p := hA0
  rw [Tryz.params3] at hA hval
  have hA' := hA
  obtain ⟨v0, vs0, d0, ds0, p0, q0, hargs0, rfl, rfl, t0, r0⟩ := trodAll_cons hA
  obtain ⟨v1, vs1, d1, ds1, p1, q1, hargs1, rfl, rfl, t1, r1⟩ := trodAll_cons r0
  subst hargs1
  obtain ⟨v2, vs2, d2, ds2, p2, q2, hargs2, rfl, rfl, t2, r2⟩ := trodAll_cons r1
  subst hargs2
  obtain ⟨rfl, rfl, rfl⟩ := trodAll_nil r2
  obtain rfl : args = #[v0, v1, v2] := by cases args; simp_all
  obtain ⟨rfl, rfl⟩ := trodVars_none hV
  obtain ⟨cs0, rfl, _⟩ := okWide_struct Tryz.underlying25 (hval 0 25 v0 rfl rfl)
  obtain ⟨cs1, rfl, _⟩ := okWide_struct Tryz.underlying27 (hval 1 27 v1 rfl rfl)
  obtain ⟨b2, rfl⟩ := okWide_string Tryz.underlying9 (hval 2 9 v2 rfl rfl)
  obtain ⟨fuel0, hf0⟩ := t0
  obtain ⟨_, μ0, h0, ext0, same0, rel0, vs0, d0, hv0, hd0⟩ := Go.Sim.imp (base := W.heap.size) (w0 := W) (Nat.le_refl _) (fun _ => rfl) 6 fuel0 (show Go.Sim.okT Tryz.prog 6 25 = true by kernel_rfl) hf0 [] [] ⟨Below.refl _ _, rfl, by simp, by simp, Nat.le_refl _⟩
  obtain ⟨fuel1, hf1⟩ := t1
  obtain ⟨_, μ1, h1, ext1, same1, rel1, vs1, d1, hv1, hd1⟩ := Go.Sim.imp (base := W.heap.size) (w0 := W) (Nat.le_refl _) (fun _ => rfl) 2 fuel1 (show Go.Sim.okT Tryz.prog 2 27 = true by kernel_rfl) hf1 μ0 h0 rel0
  obtain ⟨fuel2, hf2⟩ := t2
  obtain ⟨_, μ2, h2, ext2, same2, rel2, vs2, d2, hv2, hd2⟩ := Go.Sim.imp (base := W.heap.size) (w0 := W) (Nat.le_refl _) (fun _ => rfl) 1 fuel2 (show Go.Sim.okT Tryz.prog 1 9 = true by kernel_rfl) hf2 μ1 h1 rel1
  have hd0_1 := Go.Sim.rd_same same1 _ hd0
  have hd0_2 := Go.Sim.rd_same same2 _ hd0_1
  obtain ⟨a0, n0, c0, ex0, a1, n1, c1, ex1, w, rfl, hw, hwb⟩ := Go.Sim.rd_world (f := 0) Tryz.underlying25 rfl rfl Tryz.underlying22 Tryz.underlying122 Tryz.underlying9 Tryz.underlying9 (by kernel_rfl)
    Tryz.underlying23 (by kernel_rfl) Tryz.underlying125 rfl rfl Tryz.underlying27 Tryz.underlying9 Tryz.underlying9 (by kernel_rfl) Tryz.underlying40 hd0_2
  obtain ⟨nd1, rfl, hbg1⟩ := Go.Sim.rd_pair (f := 0) Tryz.underlying27 Tryz.underlying9 Tryz.underlying9 hd1
  obtain ⟨st2, rfl, hbg2, hby2⟩ := Go.Sim.rd_strC (f := 0) Tryz.underlying9 hd2
  have hv0' : Go.Sim.VRs μ2 [.slice a0 n0 c0 ex0, .slice a1 n1 c1 ex1] cs0.toList := ((hv0).ext ext1).ext ext2
  have hle : n0 ≤ c0 ∧ n1 ≤ c1 := by
    have hq := hv0'
    generalize cs0.toList = l at hq
    cases hq with | cons x y => cases y with | cons z t => exact ⟨x.slice_le, z.slice_le⟩
  have hvn1 : Go.Sim.VRs μ2 [.str nd1.1, .str nd1.2] cs1.toList := (hv1).ext ext2
  have hvn2 : Go.Sim.VR μ2 (.str st2) (.string b2) := by
    have hq : Go.Sim.VRs μ2 [.str st2] [.string b2] := hv2
    cases hq with | cons x y => exact x
  have hvs : Go.Sim.VRs μ2 [.agg [.slice a0 n0 c0 ex0, .slice a1 n1 c1 ex1], .agg [.str nd1.1, .str nd1.2], .str st2] [Value.agg cs0, Value.agg cs1, Value.string b2] := .cons (.agg hv0') (.cons (.agg hvn1) (.cons hvn2 .nil))
  refine ((Go.Sim.lawCheckDict (hw hle.1 hle.2) hwb hbg1 hbg2 hby2).calls W.heap.size W μ2 W #[Value.agg cs0, Value.agg cs1, Value.string b2] rel2 hvs).mono ?_
  rintro e W' ⟨x, μ', v, h', rfl, _, hr, hvr, rfl⟩
  cases hvr
  have bel := hr.below
  exact ⟨_, rfl, _, _, _, [], _, [], hW', trodAll_mk1 (shut_bool Tryz.underlying4 _), Go.Sim.trodAll_below (by kernel_rfl) bel small hA', rfl, bel.frame _, fun h => by cases h⟩
theorem over : Rows.fnExactCheckDictRow.holds Tryz.pinned (OpenSpec.ofChange Rows.fnExactCheckDictSpec) :=
  OpenClaim.holds_of_wide 3 Tryz.f3 rfl rfl rfl rfl rfl rfl rfl ⟨rfl, rfl, rfl, rfl, rfl⟩ rfl rfl rfl rfl rfl (by kernel_rfl) Tryz.func3 (by kernel_rfl)
    (of_decide_eq_true (by kernel_rfl)) (by unfold Func.isWrapper; first | (rw [if_pos (by decide +kernel)]; kernel_rfl) | (rw [if_neg (by decide +kernel)]; exact ⟨rfl, rfl⟩))
    (fun os started H enc _ => lifted os started H enc)
theorem proved : Rows.FnExactCheckDictSaid := over
#print axioms proved
end Go.Proofs.YtlljbdepamknoaaGreat.fnExactCheckDict
namespace Go.Proofs.YtlljbdepamknoaaGreat
/-- The row, under a short name, for the claim. -/
theorem fnExactCheckDict_holds : Rows.FnExactCheckDictSaid := fnExactCheckDict.proved
end Go.Proofs.YtlljbdepamknoaaGreat
