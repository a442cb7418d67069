/- What is proved: the law FnExactUnifyTypes returns true for every input, and its arguments read as they did. No condition beyond the statement's own. -/
import Derived.Test.YtdglddliggejdaaCLUnify
import Derived.Test.YtdglddliggejdaaSimX
import Derived.Test.YtdglddliggejdaaRows
import Derived.ProofKit
import Derived.OpenShut
import Derived.ShutString
import Derived.ChangeOld
import Derived.SizedLaws
set_option linter.unusedVariables false
set_option linter.unusedSimpArgs false
set_option linter.all false
set_option linter.unusedVariables false
namespace Go.Proofs.Ytdglddliggejdaa.fnExactUnifyTypes
open Go.ChangeShapes Go.WideShapes Go.ChangeAt Go.RowKit
theorem own : ownKnob Try.prog.godebug = none := by kernel_rfl
theorem small : ∀ t ∈ Try.f5.params.toList, Try.prog.readableRec t = true ∧ t < Try.prog.types.size := by
  intro t ht
  rw [Try.params5] at ht
  obtain rfl : t = 9 := by simpa using ht
  exact ⟨by kernel_rfl, show 9 + 1 ≤ Try.prog.types.size from Nat.le_of_ble_eq_true (by kernel_rfl)⟩
set_option maxRecDepth 100000 in
theorem lifted (os : Os) (started : os.Started) (H : Type) (enc : TypeId × Value → H) :
    ReturnsInHanded {} Try.checked os 5 .any (Rows.fnExactUnifyTypesSpec.pre6 enc Try.prog Try.f5 Rows.fnExactUnifyTypesRow.domain false) (Rows.fnExactUnifyTypesSpec.post enc Try.prog Try.f5 false true false false) := by
  refine returnsInHanded_of_change_sized (C := Try.checked) own started (by kernel_rfl) Try.func5
    (ChangeSpec.witness6 (enc := enc) (C := Try.checked) false ⟨#[], #[.string ⟨#[]⟩, .string ⟨#[]⟩], []⟩ 8 (by kernel_rfl) (by kernel_rfl) (by kernel_rfl) (by kernel_rfl)) ?_
  intro W base args ds gs before hval0 hW hcnd hsz0 _
  have hval : ∀ (j : Nat) t v, Try.f5.params[j]? = some t → args[j]? = some v → Value.okWide Try.prog W .any base t v := hval0
  have hW' := hW
  obtain ⟨p, q, hA0, hV, rfl, hfz, hnd⟩ := hW
  have hA : DataW.TrodAll enc Try.prog W 0 (fun _ => true) true Try.f5.params.toList args.toList ds p := hA0
  rw [Try.params5] at hA hval
  have hA' := hA
  obtain ⟨v0, vs0, d0, ds0, p0, q0, hargs0, rfl, rfl, t0, r0⟩ := trodAll_cons hA
  obtain ⟨v1, vs1, d1, ds1, p1, q1, hargs1, rfl, rfl, t1, r1⟩ := trodAll_cons r0
  subst hargs1
  obtain ⟨rfl, rfl, rfl⟩ := trodAll_nil r1
  obtain rfl : args = #[v0, v1] := by cases args; simp_all
  obtain ⟨rfl, rfl⟩ := trodVars_none hV
  obtain ⟨b0, rfl⟩ := okWide_string Try.underlying9 (hval 0 9 v0 rfl rfl)
  obtain ⟨fuel0, hf0⟩ := t0
  obtain ⟨b1, rfl⟩ := okWide_string Try.underlying9 (hval 1 9 v1 rfl rfl)
  obtain ⟨fuel1, hf1⟩ := t1
  obtain ⟨_, μ0, h0, ext0, same0, rel0, vs0, d0, hv0, hd0⟩ := Go.Sim.imp (base := W.heap.size) (w0 := W) (Nat.le_refl _) (fun _ => rfl) 1 fuel0 (show Go.Sim.okT Try.prog 1 9 = true by kernel_rfl) hf0 [] [] ⟨Below.refl _ _, rfl, by simp, by simp, Nat.le_refl _⟩
  obtain ⟨_, μ1, h1, ext1, same1, rel1, vs1, d1, hv1, hd1⟩ := Go.Sim.imp (base := W.heap.size) (w0 := W) (Nat.le_refl _) (fun _ => rfl) 1 fuel1 (show Go.Sim.okT Try.prog 1 9 = true by kernel_rfl) hf1 μ0 h0 rel0
  have hd0 := Go.Sim.rd_same same1 _ hd0
  obtain ⟨s0, rfl, hb0⟩ := Go.Sim.rd_str (f := 0) Try.underlying9 hd0
  obtain ⟨s1, rfl, hb1⟩ := Go.Sim.rd_str (f := 0) Try.underlying9 hd1
  have hv0 := hv0.ext ext1
  have hvs : Go.Sim.VRs μ1 [.str s0, .str s1] [Value.string b0, Value.string b1] := by
    cases hv0 with | cons x y => cases hv1 with | cons z t => exact .cons x (.cons z .nil)
  refine ((Go.Sim.lawUnifyTypes hb0 hb1).calls W.heap.size W μ1 W #[.string b0, .string b1] rel1 hvs).mono ?_
  rintro e W' ⟨x, μ', v, h', rfl, _, hr, hvr, rfl⟩
  cases hvr
  have bel := hr.below
  exact ⟨_, rfl, _, _, _, [], _, [], hW', trodAll_mk1 (shut_bool Try.underlying4 _), Go.Sim.trodAll_below (by kernel_rfl) bel small hA', rfl, bel.frame _, fun h => by cases h⟩
theorem fact0 : (Rows.fnExactUnifyTypesRow.inPlace == Try.pinned.checked.prog.inPlace 5) = true := by kernel_rfl
theorem fact1 : (Rows.fnExactUnifyTypesRow.unfollowed == Try.pinned.checked.prog.unfollowed 5) = true := by kernel_rfl
theorem fact2 : (Rows.fnExactUnifyTypesRow.recurses == Try.pinned.checked.prog.recurses 5) = true := by kernel_rfl
theorem fact3 : (Rows.fnExactUnifyTypesRow.named == Try.pinned.checked.prog.varsNamed 5) = true := by kernel_rfl
theorem band {a b : Bool} (ha : a = true) (hb : b = true) : (a && b) = true := by rw [ha, hb]; rfl
theorem facts : joinedFacts Try.pinned.checked.prog 5 Try.f5 (OpenSpec.ofChange Rows.fnExactUnifyTypesSpec).bare Rows.fnExactUnifyTypesRow = true := by
  unfold joinedFacts
  exact (band (band (band (band (band (band (band (band (band (band (band (band (band (band (band (band (band (band (band (band (band (band (band (by kernel_rfl) fact0) fact1) fact2) fact3) (by kernel_rfl)) (by kernel_rfl)) (by kernel_rfl)) (by kernel_rfl)) (by kernel_rfl)) (by kernel_rfl)) (by kernel_rfl)) (by kernel_rfl)) (by kernel_rfl)) (by kernel_rfl)) (by kernel_rfl)) (by kernel_rfl)) (by kernel_rfl)) (by kernel_rfl)) (by kernel_rfl)) (by kernel_rfl)) (by kernel_rfl)) (by kernel_rfl)) (by kernel_rfl))
theorem over : Rows.fnExactUnifyTypesRow.holds Try.pinned (OpenSpec.ofChange Rows.fnExactUnifyTypesSpec) :=
  OpenClaim.holds_of_wide 5 Try.f5 rfl rfl rfl rfl rfl rfl rfl ⟨rfl, rfl, rfl, rfl, rfl⟩ rfl rfl rfl rfl rfl (by kernel_rfl) Try.func5 facts
    (of_decide_eq_true (by kernel_rfl)) (by unfold Func.isWrapper; first | (rw [if_pos (by decide +kernel)]; kernel_rfl) | (rw [if_neg (by decide +kernel)]; exact ⟨rfl, rfl⟩))
    (fun os started H enc _ => lifted os started H enc)
theorem proved : Rows.FnExactUnifyTypesSaid := over
#print axioms proved
end Go.Proofs.Ytdglddliggejdaa.fnExactUnifyTypes
namespace Go.Proofs.Ytdglddliggejdaa
/-- The row, under a short name, for the claim. -/
theorem fnExactUnifyTypes_holds : Rows.FnExactUnifyTypesSaid := fnExactUnifyTypes.proved
end Go.Proofs.Ytdglddliggejdaa
