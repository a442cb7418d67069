/- What is proved: the law FnExactRedundantOf returns true for every input, and its arguments read as they did. No condition beyond the statement's own. -/
import Derived.Test.YtlljbdepamknoaaGreatDoorCRd2
import Derived.Test.YtlljbdepamknoaaGreatDoorSimX
import Derived.Test.YtlljbdepamknoaaGreatDoorCards
import Derived.Test.YtlljbdepamknoaaGreatDoorTie
import Derived.WalkKit
import Derived.ProofKit
import Derived.OpenShut
import Derived.ShutString
import Derived.ChangeOld
import Derived.SizedLaws
import Derived.Deep.DeepHandedRow
import Derived.Lib.LaidTab
set_option linter.unusedVariables false
set_option linter.unusedSimpArgs false
set_option linter.all false
set_option linter.unusedVariables false
namespace Go.Proofs.YtlljbdepamknoaaGreatDoor.fnExactRedundantOf
open Go.ChangeShapes Go.WideShapes Go.ChangeAt Go.RowKit
theorem own : ownKnob Tryz.prog.godebug = none := by kernel_rfl
theorem small : ∀ t ∈ Tryz.f5.params.toList, Tryz.prog.readableRec t = true ∧ t < Tryz.prog.types.size := by
  intro t ht
  rw [Tryz.params5] at ht
  have ht2 : t ∈ ([25] : List TypeId) := ht
  simp only [List.mem_cons, List.not_mem_nil, or_false] at ht2
  subst ht2
  exact ⟨by kernel_rfl, show 25 + 1 ≤ Tryz.prog.types.size from Nat.le_of_ble_eq_true (by kernel_rfl)⟩
set_option maxRecDepth 100000 in
theorem contract (H : Type) (enc : TypeId × Value → H) (W : World) (base : Nat) (args : Array Value) (ds gs : List (DataW H)) (before : List MemPlace)
    (hval : ∀ (j : Nat) t v, Tryz.f5.params[j]? = some t → args[j]? = some v → Value.okWide Tryz.prog W .any base t v)
    (hW : DataW.Whole enc Tryz.prog Tryz.f5.params.toList Rows.fnExactRedundantOfSpec.vars false W args.toList ds gs before) (hL : laidMetH Tryz.prog Rows.fnExactRedundantOfRow.laid W) :
    Calls Tryz.prog 5 args W fun e W' => ∃ v, e = .returned v ∧ Rows.fnExactRedundantOfSpec.post enc Tryz.prog Tryz.f5 false true false false W args v W' := by
  have hW' := hW
  obtain ⟨p, q, hA0, hV, rfl, hfz, hnd⟩ := hW
  have hA : DataW.TrodAll enc Tryz.prog W 0 (fun _ => true) true Tryz.f5.params.toList args.toList ds p := hA0
  rw [Tryz.params5] at hA hval
  have hA' := hA
  obtain ⟨v0, vs0, d0, ds0, p0, q0, hargs0, rfl, rfl, t0, r0⟩ := trodAll_cons hA
  obtain ⟨rfl, rfl, rfl⟩ := trodAll_nil r0
  obtain rfl : args = #[v0] := by cases args; simp_all
  obtain ⟨rfl, rfl⟩ := trodVars_none hV
  obtain ⟨cs0, rfl, _⟩ := okWide_struct Tryz.underlying25 (hval 0 25 v0 rfl rfl)
  obtain ⟨fuel0, hf0⟩ := t0
  obtain ⟨_, μ0, h0, ext0, same0, rel0, vs0, d0, hv0, hd0⟩ := Go.Sim.imp (base := W.heap.size) (w0 := W) (Nat.le_refl _) (fun _ => rfl) 6 fuel0 (show Go.Sim.okT Tryz.prog 6 25 = true by kernel_rfl) hf0 [] [] ⟨Below.refl _ _, rfl, by simp, by simp, Nat.le_refl _⟩
  obtain ⟨a0, n0, c0, ex0, a1, n1, c1, ex1, w, rfl, hw, hwb⟩ := Go.Sim.rd_world (f := 0) Tryz.underlying25 rfl rfl Tryz.underlying22 Tryz.underlying89 Tryz.underlying9 Tryz.underlying9 (by kernel_rfl)
    Tryz.underlying23 (by kernel_rfl) Tryz.underlying93 rfl rfl Tryz.underlying27 Tryz.underlying9 Tryz.underlying9 (by kernel_rfl) Tryz.underlying91 hd0
  have hv0' : Go.Sim.VRs μ0 [.slice a0 n0 c0 ex0, .slice a1 n1 c1 ex1] cs0.toList := hv0
  have hle : n0 ≤ c0 ∧ n1 ≤ c1 := by
    have hq := hv0'
    generalize cs0.toList = l at hq
    cases hq with | cons x y => cases y with | cons z t => exact ⟨x.slice_le, z.slice_le⟩
  have hvs : Go.Sim.VRs μ0 [.agg [.slice a0 n0 c0 ex0, .slice a1 n1 c1 ex1]] [Value.agg cs0] := .cons (.agg hv0') .nil
  refine ((Go.Sim.lawRedundantOf (hw hle.1 hle.2) hwb).calls W.heap.size W μ0 W #[Value.agg cs0] rel0 hvs).mono ?_
  rintro e W' ⟨x, μ', v, h', rfl, _, hr, hvr, rfl⟩
  cases hvr
  have bel := hr.below
  exact ⟨_, rfl, _, _, _, [], _, [], hW', trodAll_mk1 (shut_bool Tryz.underlying4 _), Go.Sim.trodAll_below (by kernel_rfl) bel small hA', rfl, bel.frame _, fun h => by cases h⟩
def val1 : DataW Unit → List Value | .lit (.int k z) => [.int k z] | _ => []
def val2 : DataW Unit → List Value | .agg l => l.flatMap val1 | d => val1 d
def val3 : DataW Unit → List Value | .agg l => l.flatMap val2 | d => val2 d
def put (d : DataW Unit) : Obj → Obj | .cells _ t f => .cells (val3 d).toArray t f | o => o
/-- A world for the witness: the listed tables are laid. -/
noncomputable def laidWorld (os : Os) : World :=
  { World.holding Tryz.prog os ⟨#[], #[], []⟩ with heap := (((World.holding Tryz.prog os ⟨#[], #[], []⟩).heap.modify 2 (put Rows.laid_math_bits_deBruijn32tab)).modify 3 (put Rows.laid_math_bits_deBruijn64tab)).modify 1 (put Rows.laid_internal_strconv_uint64pow10) }
theorem laid_met (os : Os) : laidMet Tryz.prog Rows.fnExactRedundantOfRow.laid ((laidWorld os).forCall (fun _ _ => 0) ⟨#[], #[.agg #[.slice none 0 0, .slice none 0 0]], []⟩).memory :=
  laidMet_of_run' 8 (by kernel_rfl) (by kernel_rfl)
theorem reads (os : Os) {H : Type} (enc : TypeId × Value → H) : ∃ places, DataW.whole enc Tryz.prog ((laidWorld os).forCall (fun _ _ => 0) ⟨#[], #[.agg #[.slice none 0 0, .slice none 0 0]], []⟩).memory Tryz.f5.params.toList Rows.fnExactRedundantOfSpec.vars false #[Value.agg #[.slice none 0 0, .slice none 0 0]].toList 8 = some ([.agg [.nil, .nil]], [], places) :=
  ⟨[], by kernel_rfl⟩
set_option maxRecDepth 100000 in
theorem lifted (os : Os) (started : os.Started) (H : Type) (enc : TypeId × Value → H) (F : Stop.Interp) :
    ReturnsInHanded {} Tryz.checked os 5 .any ((OpenSpec.ofChange Rows.fnExactRedundantOfSpec).preRow enc Tryz.prog Tryz.f5 Rows.fnExactRedundantOfRow.domain false Rows.fnExactRedundantOfRow.laid) (((OpenSpec.ofChange Rows.fnExactRedundantOfSpec).at F).post enc Tryz.prog Tryz.f5 false true false false) := by
  obtain ⟨places, hx⟩ := reads os enc
  refine returnsInHanded_of_row (C := Tryz.checked) (s := OpenSpec.ofChange Rows.fnExactRedundantOfSpec) own started (by kernel_rfl) Tryz.func5
    (witness_row_at (enc := enc) (C := Tryz.checked) false (laidWorld os) #[.agg #[.slice none 0 0, .slice none 0 0]] rfl (by kernel_rfl) (by kernel_rfl) (by kernel_rfl)
      (OpenSpec.preRow_of_cond 8 hx (by kernel_rfl) (fun k hk => by cases hk) (by kernel_rfl) (laid_met os))) ?_
  intro W base args ds gs before hval hW _ _ _ hL _ _
  exact contract H enc W base args ds gs before hval hW hL
theorem fact0 : (Rows.fnExactRedundantOfRow.inPlace == Tryz.pinned.checked.prog.inPlace 5) = true := by kernel_rfl
theorem fact1 : (Rows.fnExactRedundantOfRow.unfollowed == Tryz.pinned.checked.prog.unfollowed 5) = true := by kernel_rfl
theorem fact2 : (Rows.fnExactRedundantOfRow.recurses == Tryz.pinned.checked.prog.recurses 5) = true := by kernel_rfl
theorem fact3 : (Rows.fnExactRedundantOfRow.named == Tryz.pinned.checked.prog.varsNamed 5) = true := by kernel_rfl
theorem band {a b : Bool} (ha : a = true) (hb : b = true) : (a && b) = true := by rw [ha, hb]; rfl
theorem facts : joinedFacts Tryz.pinned.checked.prog 5 Tryz.f5 (OpenSpec.ofChange Rows.fnExactRedundantOfSpec).bare Rows.fnExactRedundantOfRow = true := by
  unfold joinedFacts
  exact (band (band (band (band (band (band (band (band (band (band (band (band (band (band (band (band (band (band (band (band (band (band (band (by kernel_rfl) fact0) fact1) fact2) fact3) (by kernel_rfl)) (by kernel_rfl)) (by kernel_rfl)) (by kernel_rfl)) (by kernel_rfl)) (by kernel_rfl)) (by kernel_rfl)) (by kernel_rfl)) (by kernel_rfl)) (by kernel_rfl)) (by kernel_rfl)) (by kernel_rfl)) (by kernel_rfl)) (by kernel_rfl)) (by kernel_rfl)) (by kernel_rfl)) (by kernel_rfl)) (by kernel_rfl)) (by kernel_rfl))
theorem said : Rows.FnExactRedundantOfSaid :=
  OpenClaim.holds_of_cond 5 Tryz.f5 rfl rfl rfl rfl rfl rfl rfl ⟨rfl, rfl, rfl, rfl, rfl⟩ rfl rfl rfl rfl rfl (by kernel_rfl) Tryz.func5 facts
    (of_decide_eq_true (by kernel_rfl)) (by unfold Func.isWrapper; first | (rw [if_pos (by decide +kernel)]; kernel_rfl) | (rw [if_neg (by decide +kernel)]; exact ⟨rfl, rfl⟩))
    (fun os started H enc _ F => by rw [OpenClaim.pre_eq_preRow]; exact lifted os started H enc F)
theorem plain (f : FuncId) (fn : Func) (hf : Tryz.pinned.checked.prog.funcNamed "loop.example/instancesearch/laws.FnExactRedundantOf" = some f) (hfn : Tryz.pinned.checked.prog.funcs[f]? = some fn) :
    false = Tryz.pinned.checked.prog.looks [] ∧ ∀ (j : Nat) t, fn.params[j]? = some t → Tryz.pinned.checked.prog.wantsStandIn t = false := by
  obtain rfl : f = 5 := Option.some.inj ((show Tryz.prog.funcNamed "loop.example/instancesearch/laws.FnExactRedundantOf" = some 5 by kernel_rfl).symm.trans hf) |>.symm
  obtain rfl : fn = Tryz.f5 := (Option.some.inj (Tryz.func5.symm.trans hfn)).symm
  refine ⟨by kernel_rfl, fun j t ht => ?_⟩
  rw [Tryz.params5] at ht
  have ht2 : t ∈ ([25] : List TypeId) := Array.mem_toList_iff.2 (Array.mem_of_getElem? ht)
  simp only [List.mem_cons, List.not_mem_nil, or_false] at ht2
  subst ht2
  exact (show Tryz.prog.wantsStandIn 25 = false by kernel_rfl)
theorem card : Rows.FnExactRedundantOfCardSaid :=
  Claim7.holds_tied_plain_at .later [] _ _ _ _ said (fun _ h => by cases h) (by kernel_rfl) (fun _ h => by cases h) fnExactRedundantOf_row_tie rfl ⟨rfl, rfl⟩ (by kernel_rfl) rfl plain (by kernel_rfl)
#print axioms card
end Go.Proofs.YtlljbdepamknoaaGreatDoor.fnExactRedundantOf
namespace Go.Proofs.YtlljbdepamknoaaGreatDoor
/-- The card, under a short name, for the claim. -/
theorem fnExactRedundantOf_holds : Rows.FnExactRedundantOfCardSaid := fnExactRedundantOf.card
end Go.Proofs.YtlljbdepamknoaaGreatDoor
