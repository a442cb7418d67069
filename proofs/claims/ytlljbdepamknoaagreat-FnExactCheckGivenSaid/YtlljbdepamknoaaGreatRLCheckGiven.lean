/- What is proved: the law FnExactCheckGiven returns true for every input, and its arguments read as they did. No condition beyond the statement's own. -/
import Derived.Test.YtlljbdepamknoaaGreatCRd2
import Derived.Test.YtlljbdepamknoaaGreatSimX
import Derived.Test.YtlljbdepamknoaaGreatRows
import Derived.ProofKit
import Derived.OpenShut
import Derived.ShutString
import Derived.ChangeOld
import Derived.SizedLaws
set_option linter.unusedVariables false
set_option linter.unusedSimpArgs false
set_option linter.all false
set_option linter.unusedVariables false
namespace Go.Proofs.YtlljbdepamknoaaGreat.fnExactCheckGiven
open Go.ChangeShapes Go.WideShapes Go.ChangeAt Go.RowKit
theorem own : ownKnob Tryz.prog.godebug = none := by kernel_rfl
theorem small : ∀ t ∈ Tryz.f4.params.toList, Tryz.prog.readableRec t = true ∧ t < Tryz.prog.types.size := by
  intro t ht
  rw [Tryz.params4] at ht
  have ht2 : t ∈ ([25, 40, 27, 9] : List TypeId) := ht
  simp only [List.mem_cons, List.not_mem_nil, or_false] at ht2
  rcases ht2 with rfl | rfl | rfl | rfl
  · exact ⟨by kernel_rfl, show 25 + 1 ≤ Tryz.prog.types.size from Nat.le_of_ble_eq_true (by kernel_rfl)⟩
  · exact ⟨by kernel_rfl, show 40 + 1 ≤ Tryz.prog.types.size from Nat.le_of_ble_eq_true (by kernel_rfl)⟩
  · exact ⟨by kernel_rfl, show 27 + 1 ≤ Tryz.prog.types.size from Nat.le_of_ble_eq_true (by kernel_rfl)⟩
  · exact ⟨by kernel_rfl, show 9 + 1 ≤ Tryz.prog.types.size from Nat.le_of_ble_eq_true (by kernel_rfl)⟩
set_option maxRecDepth 100000 in
theorem lifted (os : Os) (started : os.Started) (H : Type) (enc : TypeId × Value → H) :
    ReturnsInHanded {} Tryz.checked os 4 .any (Rows.fnExactCheckGivenSpec.pre6 enc Tryz.prog Tryz.f4 Rows.fnExactCheckGivenRow.domain false) (Rows.fnExactCheckGivenSpec.post enc Tryz.prog Tryz.f4 false true false false) := by
  refine returnsInHanded_of_change_sized (C := Tryz.checked) own started (by kernel_rfl) Tryz.func4
    (ChangeSpec.witness6 (enc := enc) (C := Tryz.checked) false ⟨#[], #[.agg #[.slice none 0 0, .slice none 0 0], .slice none 0 0, .agg #[.string ⟨#[]⟩, .string ⟨#[]⟩], .string ⟨#[]⟩], []⟩ 8 (by kernel_rfl) (by kernel_rfl) (by kernel_rfl) (by kernel_rfl)) ?_
  intro W base args ds gs before hval0 hW hcnd hsz0 _
  have hval : ∀ (j : Nat) t v, Tryz.f4.params[j]? = some t → args[j]? = some v → Value.okWide Tryz.prog W .any base t v := hval0
  have hW' := hW
  obtain ⟨p, q, hA0, hV, rfl, hfz, hnd⟩ := hW
  have hA : DataW.TrodAll enc Tryz.prog W 0 (fun _ => true) true Tryz.f4.params.toList args.toList ds p := hA0
  rw [Tryz.params4] at hA hval
  have hA' := hA
  obtain ⟨v0, vs0, d0, ds0, p0, q0, hargs0, rfl, rfl, t0, r0⟩ := trodAll_cons hA
  obtain ⟨v1, vs1, d1, ds1, p1, q1, hargs1, rfl, rfl, t1, r1⟩ := trodAll_cons r0
  subst hargs1
  obtain ⟨v2, vs2, d2, ds2, p2, q2, hargs2, rfl, rfl, t2, r2⟩ := trodAll_cons r1
  subst hargs2
  obtain ⟨v3, vs3, d3, ds3, p3, q3, hargs3, rfl, rfl, t3, r3⟩ := trodAll_cons r2
  subst hargs3
  obtain ⟨rfl, rfl, rfl⟩ := trodAll_nil r3
  obtain rfl : args = #[v0, v1, v2, v3] := by cases args; simp_all
  obtain ⟨rfl, rfl⟩ := trodVars_none hV
  obtain ⟨cs0, rfl, _⟩ := okWide_struct Tryz.underlying25 (hval 0 25 v0 rfl rfl)
  obtain ⟨bs1, len1, cap1, rfl⟩ := okWide_slice Tryz.underlying40 (hval 1 40 v1 rfl rfl)
  obtain ⟨cs2, rfl, _⟩ := okWide_struct Tryz.underlying27 (hval 2 27 v2 rfl rfl)
  obtain ⟨b3, rfl⟩ := okWide_string Tryz.underlying9 (hval 3 9 v3 rfl rfl)
  obtain ⟨fuel0, hf0⟩ := t0
  obtain ⟨_, μ0, h0, ext0, same0, rel0, vs0, d0, hv0, hd0⟩ := Go.Sim.imp (base := W.heap.size) (w0 := W) (Nat.le_refl _) (fun _ => rfl) 6 fuel0 (show Go.Sim.okT Tryz.prog 6 25 = true by kernel_rfl) hf0 [] [] ⟨Below.refl _ _, rfl, by simp, by simp, Nat.le_refl _⟩
  obtain ⟨fuel1, hf1⟩ := t1
  obtain ⟨_, μ1, h1, ext1, same1, rel1, vs1, d1, hv1, hd1⟩ := Go.Sim.imp (base := W.heap.size) (w0 := W) (Nat.le_refl _) (fun _ => rfl) 3 fuel1 (show Go.Sim.okT Tryz.prog 3 40 = true by kernel_rfl) hf1 μ0 h0 rel0
  obtain ⟨fuel2, hf2⟩ := t2
  obtain ⟨_, μ2, h2, ext2, same2, rel2, vs2, d2, hv2, hd2⟩ := Go.Sim.imp (base := W.heap.size) (w0 := W) (Nat.le_refl _) (fun _ => rfl) 2 fuel2 (show Go.Sim.okT Tryz.prog 2 27 = true by kernel_rfl) hf2 μ1 h1 rel1
  obtain ⟨fuel3, hf3⟩ := t3
  obtain ⟨_, μ3, h3, ext3, same3, rel3, vs3, d3, hv3, hd3⟩ := Go.Sim.imp (base := W.heap.size) (w0 := W) (Nat.le_refl _) (fun _ => rfl) 1 fuel3 (show Go.Sim.okT Tryz.prog 1 9 = true by kernel_rfl) hf3 μ2 h2 rel2
  have hd0_1 := Go.Sim.rd_same same1 _ hd0
  have hd1_2 := Go.Sim.rd_same same2 _ hd1
  have hd0_2 := Go.Sim.rd_same same2 _ hd0_1
  have hd1_3 := Go.Sim.rd_same same3 _ hd1_2
  have hd0_3 := Go.Sim.rd_same same3 _ hd0_2
  obtain ⟨a0, n0, c0, ex0, a1, n1, c1, ex1, w, rfl, hw, hwb⟩ := Go.Sim.rd_world (f := 0) Tryz.underlying25 rfl rfl Tryz.underlying22 Tryz.underlying122 Tryz.underlying9 Tryz.underlying9 (by kernel_rfl)
    Tryz.underlying23 (by kernel_rfl) Tryz.underlying125 rfl rfl Tryz.underlying27 Tryz.underlying9 Tryz.underlying9 (by kernel_rfl) Tryz.underlying40 hd0_3
  obtain ⟨ag1, ng1, cg1, eg1, gl1, rfl, hrg1, hng1, _, hbg1⟩ := Go.Sim.rd_pairs (f := 0) Tryz.underlying40 Tryz.underlying27 Tryz.underlying9 Tryz.underlying9 (by kernel_rfl) hd1_3
  obtain ⟨nd2, rfl, hbg2⟩ := Go.Sim.rd_pair (f := 0) Tryz.underlying27 Tryz.underlying9 Tryz.underlying9 hd2
  obtain ⟨st3, rfl, hbg3, hby3⟩ := Go.Sim.rd_strC (f := 0) Tryz.underlying9 hd3
  have hv0' : Go.Sim.VRs μ3 [.slice a0 n0 c0 ex0, .slice a1 n1 c1 ex1] cs0.toList := (((hv0).ext ext1).ext ext2).ext ext3
  have hle : n0 ≤ c0 ∧ n1 ≤ c1 := by
    have hq := hv0'
    generalize cs0.toList = l at hq
    cases hq with | cons x y => cases y with | cons z t => exact ⟨x.slice_le, z.slice_le⟩
  have hvn1 : Go.Sim.VR μ3 (.slice ag1 ng1 cg1 eg1) (.slice bs1 len1 cap1) := by
    have hq : Go.Sim.VRs μ3 [.slice ag1 ng1 cg1 eg1] [.slice bs1 len1 cap1] := ((hv1).ext ext2).ext ext3
    cases hq with | cons x y => exact x
  have hvn2 : Go.Sim.VRs μ3 [.str nd2.1, .str nd2.2] cs2.toList := (hv2).ext ext3
  have hvn3 : Go.Sim.VR μ3 (.str st3) (.string b3) := by
    have hq : Go.Sim.VRs μ3 [.str st3] [.string b3] := hv3
    cases hq with | cons x y => exact x
  have hvs : Go.Sim.VRs μ3 [.agg [.slice a0 n0 c0 ex0, .slice a1 n1 c1 ex1], .slice ag1 ng1 cg1 eg1, .agg [.str nd2.1, .str nd2.2], .str st3] [Value.agg cs0, Value.slice bs1 len1 cap1, Value.agg cs2, Value.string b3] := .cons (.agg hv0') (.cons hvn1 (.cons (.agg hvn2) (.cons hvn3 .nil)))
  refine ((Go.Sim.lawCheckGiven (hw hle.1 hle.2) hwb hrg1 hng1 (fun p hp => ⟨(hbg1 p hp).1, (hbg1 p hp).2.1⟩) hbg2 hbg3 hby3).calls W.heap.size W μ3 W #[Value.agg cs0, Value.slice bs1 len1 cap1, Value.agg cs2, Value.string b3] rel3 hvs).mono ?_
  rintro e W' ⟨x, μ', v, h', rfl, _, hr, hvr, rfl⟩
  cases hvr
  have bel := hr.below
  exact ⟨_, rfl, _, _, _, [], _, [], hW', trodAll_mk1 (shut_bool Tryz.underlying4 _), Go.Sim.trodAll_below (by kernel_rfl) bel small hA', rfl, bel.frame _, fun h => by cases h⟩
theorem over : Rows.fnExactCheckGivenRow.holds Tryz.pinned (OpenSpec.ofChange Rows.fnExactCheckGivenSpec) :=
  OpenClaim.holds_of_wide 4 Tryz.f4 rfl rfl rfl rfl rfl rfl rfl ⟨rfl, rfl, rfl, rfl, rfl⟩ rfl rfl rfl rfl rfl (by kernel_rfl) Tryz.func4 (by kernel_rfl)
    (of_decide_eq_true (by kernel_rfl)) (by unfold Func.isWrapper; first | (rw [if_pos (by decide +kernel)]; kernel_rfl) | (rw [if_neg (by decide +kernel)]; exact ⟨rfl, rfl⟩))
    (fun os started H enc _ => lifted os started H enc)
theorem proved : Rows.FnExactCheckGivenSaid := over
#print axioms proved
end Go.Proofs.YtlljbdepamknoaaGreat.fnExactCheckGiven
namespace Go.Proofs.YtlljbdepamknoaaGreat
/-- The row, under a short name, for the claim. -/
theorem fnExactCheckGiven_holds : Rows.FnExactCheckGivenSaid := fnExactCheckGiven.proved
end Go.Proofs.YtlljbdepamknoaaGreat
