/- What is proved: the law FnCandidates returns true for every input, and its arguments read as they did. No condition beyond the statement's own. -/
import Derived.Test.YtdglddliggejdaaGreatCBytes
import Derived.Test.YtdglddliggejdaaGreatSimW
import Derived.Test.YtdglddliggejdaaGreatRows
import Derived.ProofKit
import Derived.OpenShut
import Derived.ShutString
import Derived.ChangeOld
import Derived.SizedLaws
set_option linter.unusedVariables false
set_option linter.unusedSimpArgs false
set_option linter.all false
set_option linter.unusedVariables false
namespace Go.Proofs.YtdglddliggejdaaGreat.fnCandidates
open Go.ChangeShapes Go.WideShapes Go.ChangeAt Go.RowKit
theorem own : ownKnob Tryz.prog.godebug = none := by kernel_rfl
theorem small : ∀ t ∈ Tryz.f5.params.toList, Tryz.prog.readableRec t = true ∧ t < Tryz.prog.types.size := by
  intro t ht
  rw [Tryz.params5] at ht
  obtain rfl : t = 22 := by simpa using ht
  exact ⟨by kernel_rfl, show 22 + 1 ≤ Tryz.prog.types.size from Nat.le_of_ble_eq_true (by kernel_rfl)⟩
set_option maxRecDepth 100000 in
theorem lifted (os : Os) (started : os.Started) (H : Type) (enc : TypeId × Value → H) :
    ReturnsInHanded {} Tryz.checked os 5 .any (Rows.fnCandidatesSpec.pre6 enc Tryz.prog Tryz.f5 Rows.fnCandidatesRow.domain false) (Rows.fnCandidatesSpec.post enc Tryz.prog Tryz.f5 false true false false) := by
  refine returnsInHanded_of_change_sized (C := Tryz.checked) own started (by kernel_rfl) Tryz.func5
    (ChangeSpec.witness6 (enc := enc) (C := Tryz.checked) false ⟨#[], #[.slice none 0 0], []⟩ 8 (by kernel_rfl) (by kernel_rfl) (by kernel_rfl) (by kernel_rfl)) ?_
  intro W base args ds gs before hval0 hW hcnd hsz0 _
  have hval : ∀ (j : Nat) t v, Tryz.f5.params[j]? = some t → args[j]? = some v → Value.okWide Tryz.prog W .any base t v := hval0
  have hW' := hW
  obtain ⟨p, q, hA0, hV, rfl, hfz, hnd⟩ := hW
  have hA : DataW.TrodAll enc Tryz.prog W 0 (fun _ => true) true Tryz.f5.params.toList args.toList ds p := hA0
  rw [Tryz.params5] at hA hval
  have hA' := hA
  obtain ⟨v0, vs0, d0, ds0, p0, q0, hargs0, rfl, rfl, t0, r0⟩ := trodAll_cons hA
  obtain ⟨rfl, rfl, rfl⟩ := trodAll_nil r0
  obtain rfl : args = #[v0] := by cases args; simp_all
  obtain ⟨rfl, rfl⟩ := trodVars_none hV
  obtain ⟨b0, len0, cap0, rfl⟩ := okWide_slice Tryz.underlying22 (hval 0 22 v0 rfl rfl)
  obtain ⟨fuel0, hf0⟩ := t0
  obtain ⟨_, μ0, h0, ext0, same0, rel0, vs0, d0, hv0, hd0⟩ := Go.Sim.imp (base := W.heap.size) (w0 := W) (Nat.le_refl _) (fun _ => rfl) 2 fuel0 (show Go.Sim.okT Tryz.prog 2 22 = true by kernel_rfl) hf0 [] [] ⟨Below.refl _ _, rfl, by simp, by simp, Nat.le_refl _⟩
  obtain ⟨a0, n0, c0, ex0, l0, rfl, hrow0, hb0⟩ := Go.Sim.rd_bytes (f := 0) Tryz.underlying22 Tryz.underlying5 (by kernel_rfl) hd0
  have hvs : Go.Sim.VRs μ0 [.slice a0 n0 c0 ex0] [Value.slice b0 len0 cap0] := by
    exact hv0
  have le0 : n0 ≤ c0 := by cases hv0 with | cons x y => exact x.slice_le
  refine ((Go.Sim.lawFCand hrow0 hb0 le0).calls W.heap.size W μ0 W #[.slice b0 len0 cap0] rel0 hvs).mono ?_
  rintro e W' ⟨x, μ', v, h', rfl, _, hr, hvr, rfl⟩
  cases hvr
  have bel := hr.below
  exact ⟨_, rfl, _, _, _, [], _, [], hW', trodAll_mk1 (shut_bool Tryz.underlying4 _), Go.Sim.trodAll_below (by kernel_rfl) bel small hA', rfl, bel.frame _, fun h => by cases h⟩
theorem fact0 : (Rows.fnCandidatesRow.inPlace == Tryz.pinned.checked.prog.inPlace 5) = true := by kernel_rfl
theorem fact1 : (Rows.fnCandidatesRow.unfollowed == Tryz.pinned.checked.prog.unfollowed 5) = true := by kernel_rfl
theorem fact2 : (Rows.fnCandidatesRow.recurses == Tryz.pinned.checked.prog.recurses 5) = true := by kernel_rfl
theorem fact3 : (Rows.fnCandidatesRow.named == Tryz.pinned.checked.prog.varsNamed 5) = true := by kernel_rfl
theorem band {a b : Bool} (ha : a = true) (hb : b = true) : (a && b) = true := by rw [ha, hb]; rfl
theorem facts : joinedFacts Tryz.pinned.checked.prog 5 Tryz.f5 (OpenSpec.ofChange Rows.fnCandidatesSpec).bare Rows.fnCandidatesRow = true := by
  unfold joinedFacts
  exact (band (band (band (band (band (band (band (band (band (band (band (band (band (band (band (band (band (band (band (band (band (band (band (by kernel_rfl) fact0) fact1) fact2) fact3) (by kernel_rfl)) (by kernel_rfl)) (by kernel_rfl)) (by kernel_rfl)) (by kernel_rfl)) (by kernel_rfl)) (by kernel_rfl)) (by kernel_rfl)) (by kernel_rfl)) (by kernel_rfl)) (by kernel_rfl)) (by kernel_rfl)) (by kernel_rfl)) (by kernel_rfl)) (by kernel_rfl)) (by kernel_rfl)) (by kernel_rfl)) (by kernel_rfl)) (by kernel_rfl))
theorem over : Rows.fnCandidatesRow.holds Tryz.pinned (OpenSpec.ofChange Rows.fnCandidatesSpec) :=
  OpenClaim.holds_of_wide 5 Tryz.f5 rfl rfl rfl rfl rfl rfl rfl ⟨rfl, rfl, rfl, rfl, rfl⟩ rfl rfl rfl rfl rfl (by kernel_rfl) Tryz.func5 facts
    (of_decide_eq_true (by kernel_rfl)) (by unfold Func.isWrapper; first | (rw [if_pos (by decide +kernel)]; kernel_rfl) | (rw [if_neg (by decide +kernel)]; exact ⟨rfl, rfl⟩))
    (fun os started H enc _ => lifted os started H enc)
theorem proved : Rows.FnCandidatesSaid := over
#print axioms proved
end Go.Proofs.YtdglddliggejdaaGreat.fnCandidates
namespace Go.Proofs.YtdglddliggejdaaGreat
/-- The row, under a short name, for the claim. -/
theorem fnCandidates_holds : Rows.FnCandidatesSaid := fnCandidates.proved
end Go.Proofs.YtdglddliggejdaaGreat
