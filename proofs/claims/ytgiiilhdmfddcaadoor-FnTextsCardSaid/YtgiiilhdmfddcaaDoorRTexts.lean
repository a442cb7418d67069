/- What is proved: the law FnTexts returns true for every input, and its arguments read as they did. No condition beyond the statement's own. -/
import Derived.Test.YtgiiilhdmfddcaaDoorCTexts
import Derived.Test.YtgiiilhdmfddcaaDoorSimU
import Derived.Test.YtgiiilhdmfddcaaDoorCards
import Derived.Test.YtgiiilhdmfddcaaDoorTie
import Derived.WalkKit
import Derived.ProofKit
import Derived.OpenShut
import Derived.ShutString
import Derived.ChangeOld
import Derived.Deep.DeepHandedRow
import Derived.Lib.LaidTab
set_option linter.unusedSimpArgs false
set_option linter.all false
set_option linter.unusedVariables false
namespace Go.Proofs.YtgiiilhdmfddcaaDoor.fnTexts
open Go.ChangeShapes Go.WideShapes Go.ChangeAt Go.RowKit
theorem own : ownKnob Tryd.prog.godebug = none := by kernel_rfl
theorem gTab : Tryd.prog.globalNamed "internal/strconv.uint64pow10" = some 0 := by kernel_rfl
theorem gTabType : (Tryd.prog.globals[0]?).map (·.type) = some 113 := by kernel_rfl
theorem cellsA : Tryd.prog.cellsOf 113 = 20 := by kernel_rfl
theorem cellsE : Tryd.prog.cellsOf 94 = 1 := by kernel_rfl
theorem tab_of_vars {W : World} {r : List (String × DataW Unit)} {ps : List MemPlace} (h : DataW.LaidVars Tryd.prog W (("internal/strconv.uint64pow10", Rows.laid_internal_strconv_uint64pow10) :: r) ps) : Lib.TabIs Tryd.prog W "internal/strconv.uint64pow10" .u64 Lib.pow10Tab := by
  obtain ⟨g', t', cs, fuel, p, q, hg', ht', hvar, hd, _, _⟩ := h
  obtain rfl := Option.some.inj (gTab.symm.trans hg')
  obtain rfl := Option.some.inj (gTabType.symm.trans ht')
  have hd' : DataW.trod (fun _ => ()) Tryd.prog W 0 (fun _ => true) false fuel 113 cs.toList = some (Lib.tabData .u64 Lib.pow10Tab, p) := hd
  have := Lib.cells_of_tab Tryd.underlying113 Tryd.underlying94 cellsE cellsA hd'
  unfold Lib.TabIs
  rw [hvar, ← this]
theorem table {W : World} (h : laidMetH Tryd.prog Rows.fnTextsRow.laid W) : Lib.TabIs Tryd.prog W "internal/strconv.uint64pow10" .u64 Lib.pow10Tab := by
  obtain ⟨ps, ⟨g1, t1, c1, f1, p1, q1, _, _, _, _, ⟨g2, t2, c2, f2, p2, q2, _, _, _, _, hv, _⟩, _⟩, _⟩ := (show laidMet Tryd.prog Rows.fnTextsRow.laid W from h)
  exact tab_of_vars hv
theorem tab_below {W w : World} (h : Lib.TabIs Tryd.prog W "internal/strconv.uint64pow10" .u64 Lib.pow10Tab) (hb : Below W.heap.size W w) : Lib.TabIs Tryd.prog w "internal/strconv.uint64pow10" .u64 Lib.pow10Tab := by
  unfold Lib.TabIs World.var? at h ⊢
  rw [gTab] at h ⊢
  simp only [Option.bind_some] at h ⊢
  have hlt : 0 < W.heap.size := by
    rcases Nat.lt_or_ge 0 W.heap.size with h' | h'
    · exact h'
    · rw [Array.getElem?_eq_none h'] at h; cases h
  rw [hb.block _ hlt]
  exact h
theorem small : ∀ t ∈ Tryd.f5.params.toList, Tryd.prog.readableRec t = true ∧ t < Tryd.prog.types.size := by
  intro t ht
  rw [Tryd.params5] at ht
  obtain rfl : t = 34 := by simpa using ht
  exact ⟨by kernel_rfl, show 34 + 1 ≤ Tryd.prog.types.size from Nat.le_of_ble_eq_true (by kernel_rfl)⟩
set_option maxRecDepth 100000 in
theorem contract (H : Type) (enc : TypeId × Value → H) (W : World) (base : Nat) (args : Array Value) (ds gs : List (DataW H)) (before : List MemPlace)
    (hval : ∀ (j : Nat) t v, Tryd.f5.params[j]? = some t → args[j]? = some v → Value.okWide Tryd.prog W .any base t v)
    (hW : DataW.Whole enc Tryd.prog Tryd.f5.params.toList Rows.fnTextsSpec.vars false W args.toList ds gs before) (hL : laidMetH Tryd.prog Rows.fnTextsRow.laid W) :
    Calls Tryd.prog 5 args W fun e W' => ∃ v, e = .returned v ∧ Rows.fnTextsSpec.post enc Tryd.prog Tryd.f5 false true false false W args v W' := by
  have hW' := hW
  obtain ⟨p, q, hA0, hV, rfl, hfz, hnd⟩ := hW
  have hA : DataW.TrodAll enc Tryd.prog W 0 (fun _ => true) true Tryd.f5.params.toList args.toList ds p := hA0
  rw [Tryd.params5] at hA hval
  have hA' := hA
  obtain ⟨v0, vs0, d0, ds0, p0, q0, hargs, rfl, rfl, h0, r0⟩ := trodAll_cons hA
  obtain ⟨v1, vs1, d1, ds1, p1, q1, hargs1, rfl, rfl, h1, r1⟩ := trodAll_cons r0
  obtain ⟨rfl, rfl, rfl⟩ := trodAll_nil r1
  obtain rfl : args = #[v0, v1] := by cases args; simp_all
  obtain ⟨rfl, rfl⟩ := trodVars_none hV
  obtain ⟨b0, len0, cap0, rfl⟩ := okWide_slice Tryd.underlying34 (hval 0 34 v0 rfl rfl)
  obtain ⟨b1, len1, cap1, rfl⟩ := okWide_slice Tryd.underlying34 (hval 1 34 v1 rfl rfl)
  obtain ⟨fuel0, hf0⟩ := h0
  obtain ⟨fuel1, hf1⟩ := h1
  have start : Go.Sim.Rel Tryd.prog W.heap.size W [⟨0, 0, false, 0, 0⟩] [Go.Sim.tabAmb Tryd.prog] W := by
    refine ⟨Below.refl _ _, rfl, ?_, ?_, Nat.le_refl _⟩
    · intro i o hi e he
      cases i with
      | zero => simp at hi; subst hi; exact fun w hb => tab_below (table hL) hb
      | succ i => simp at hi
    · intro i j oi oj ei ej hij hi hj
      have := (List.getElem?_eq_some_iff.1 hi).1
      have := (List.getElem?_eq_some_iff.1 hj).1
      simp at *; omega
  obtain ⟨_, μ0, h0, _, same0, rel0, vs0, d0, hv0, hd0⟩ := Go.Sim.imp (base := W.heap.size) (w0 := W) (Nat.le_refl _) (fun _ => rfl) 2 fuel0 (show Go.Sim.okT Tryd.prog 2 34 = true by kernel_rfl) hf0 [⟨0, 0, false, 0, 0⟩] [Go.Sim.tabAmb Tryd.prog] start
  obtain ⟨_, μ1, h1, ext1, same1, rel1, vs1, d1, hv1, hd1⟩ := Go.Sim.imp (base := W.heap.size) (w0 := W) (Nat.le_refl _) (fun _ => rfl) 2 fuel1 (show Go.Sim.okT Tryd.prog 2 34 = true by kernel_rfl) hf1 μ0 h0 rel0
  have hd0' := Go.Sim.rd_same same1 _ hd0
  obtain ⟨a0, n0, c0, ex0, l0, rfl, hrow0, hb0⟩ := Go.Sim.rd_bytes (f := 0) Tryd.underlying34 Tryd.underlying5 (by kernel_rfl) hd0'
  obtain ⟨a1, n1, c1, ex1, l1, rfl, hrow1, hb1⟩ := Go.Sim.rd_bytes (f := 0) Tryd.underlying34 Tryd.underlying5 (by kernel_rfl) hd1
  have hv0' := hv0.ext ext1
  have hvs : Go.Sim.VRs μ1 [.slice a0 n0 c0 ex0, .slice a1 n1 c1 ex1] [Value.slice b0 len0 cap0, Value.slice b1 len1 cap1] := by
    cases hv0' with | cons x y => cases hv1 with | cons z t => exact .cons x (.cons z .nil)
  have le0 : n0 ≤ c0 := by cases hv0' with | cons x y => exact x.slice_le
  have le1 : n1 ≤ c1 := by cases hv1 with | cons x y => exact x.slice_le
  have k1 : h1[0]? = some (Go.Sim.tabAmb Tryd.prog) := by
    rw [same1.eq 0 (by have := same0.le; simp at this; omega), same0.eq 0 (by simp)]; rfl
  refine ((Go.Sim.lawTexts (k := 0) k1 hrow0 hrow1 hb0 hb1 le0 le1).calls W.heap.size W μ1 W #[.slice b0 len0 cap0, .slice b1 len1 cap1] rel1 hvs).mono ?_
  rintro e W' ⟨x, μ', v, h', rfl, _, hr, hvr, rfl⟩
  cases hvr
  have bel := hr.below
  exact ⟨_, rfl, _, _, _, [], _, [], hW', trodAll_mk1 (shut_bool Tryd.underlying4 _), Go.Sim.trodAll_below (by kernel_rfl) bel small hA', rfl, bel.frame _, fun h => by cases h⟩
def val1 : DataW Unit → List Value | .lit (.int k z) => [.int k z] | _ => []
def val2 : DataW Unit → List Value | .agg l => l.flatMap val1 | d => val1 d
def val3 : DataW Unit → List Value | .agg l => l.flatMap val2 | d => val2 d
def put (d : DataW Unit) : Obj → Obj | .cells _ t f => .cells (val3 d).toArray t f | o => o
/-- A world for the witness: the listed tables are laid. -/
noncomputable def laidWorld (os : Os) : World :=
  { World.holding Tryd.prog os ⟨#[], #[], []⟩ with heap := (((World.holding Tryd.prog os ⟨#[], #[], []⟩).heap.modify 4 (put Rows.laid_math_bits_deBruijn32tab)).modify 5 (put Rows.laid_math_bits_deBruijn64tab)).modify 0 (put Rows.laid_internal_strconv_uint64pow10) }
theorem laid_met (os : Os) : laidMet Tryd.prog Rows.fnTextsRow.laid ((laidWorld os).forCall (fun _ _ => 0) ⟨#[], #[.slice none 0 0, .slice none 0 0], []⟩).memory :=
  laidMet_of_run' 8 (by kernel_rfl) (by kernel_rfl)
theorem reads (os : Os) {H : Type} (enc : TypeId × Value → H) : ∃ places, DataW.whole enc Tryd.prog ((laidWorld os).forCall (fun _ _ => 0) ⟨#[], #[.slice none 0 0, .slice none 0 0], []⟩).memory Tryd.f5.params.toList Rows.fnTextsSpec.vars false #[Value.slice none 0 0, Value.slice none 0 0].toList 8 = some ([.nil, .nil], [], places) :=
  ⟨[], by kernel_rfl⟩
set_option maxRecDepth 100000 in
theorem lifted (os : Os) (started : os.Started) (H : Type) (enc : TypeId × Value → H) (F : Stop.Interp) :
    ReturnsInHanded {} Tryd.checked os 5 .any ((OpenSpec.ofChange Rows.fnTextsSpec).preRow enc Tryd.prog Tryd.f5 Rows.fnTextsRow.domain false Rows.fnTextsRow.laid) (((OpenSpec.ofChange Rows.fnTextsSpec).at F).post enc Tryd.prog Tryd.f5 false true false false) := by
  obtain ⟨places, hx⟩ := reads os enc
  refine returnsInHanded_of_row (C := Tryd.checked) (s := OpenSpec.ofChange Rows.fnTextsSpec) own started (by kernel_rfl) Tryd.func5
    (witness_row_at (enc := enc) (C := Tryd.checked) false (laidWorld os) #[.slice none 0 0, .slice none 0 0] rfl (by kernel_rfl) (by kernel_rfl) (by kernel_rfl)
      (OpenSpec.preRow_of_cond 8 hx (by kernel_rfl) (fun k hk => by cases hk) (by kernel_rfl) (laid_met os))) ?_
  intro W base args ds gs before hval hW _ _ _ hL _ _
  exact contract H enc W base args ds gs before hval hW hL
theorem said : Rows.FnTextsSaid :=
  OpenClaim.holds_of_cond 5 Tryd.f5 rfl rfl rfl rfl rfl rfl rfl ⟨rfl, rfl, rfl, rfl, rfl⟩ rfl rfl rfl rfl rfl (by kernel_rfl) Tryd.func5 (by kernel_rfl)
    (of_decide_eq_true (by kernel_rfl)) (by unfold Func.isWrapper; first | (rw [if_pos (by decide +kernel)]; kernel_rfl) | (rw [if_neg (by decide +kernel)]; exact ⟨rfl, rfl⟩))
    (fun os started H enc _ F => by rw [OpenClaim.pre_eq_preRow]; exact lifted os started H enc F)
theorem plain (f : FuncId) (fn : Func) (hf : Tryd.pinned.checked.prog.funcNamed "loop.example/instancesearch/laws.FnTexts" = some f) (hfn : Tryd.pinned.checked.prog.funcs[f]? = some fn) :
    false = Tryd.pinned.checked.prog.looks [] ∧ ∀ (j : Nat) t, fn.params[j]? = some t → Tryd.pinned.checked.prog.wantsStandIn t = false := by
  obtain rfl : f = 5 := Option.some.inj ((show Tryd.prog.funcNamed "loop.example/instancesearch/laws.FnTexts" = some 5 by kernel_rfl).symm.trans hf) |>.symm
  obtain rfl : fn = Tryd.f5 := (Option.some.inj (Tryd.func5.symm.trans hfn)).symm
  refine ⟨by kernel_rfl, fun j t ht => ?_⟩
  rw [Tryd.params5] at ht
  obtain rfl : t = 34 := by simpa using Array.mem_of_getElem? ht
  exact (show Tryd.prog.wantsStandIn 34 = false by kernel_rfl)
theorem card : Rows.FnTextsCardSaid :=
  Claim7.holds_tied_plain_at .later [] _ _ _ _ said (fun _ h => by cases h) (by kernel_rfl) (fun _ h => by cases h) fnTexts_row_tie rfl ⟨rfl, rfl⟩ (by kernel_rfl) rfl plain (by kernel_rfl)
#print axioms card
end Go.Proofs.YtgiiilhdmfddcaaDoor.fnTexts
namespace Go.Proofs.YtgiiilhdmfddcaaDoor
/-- The card, under a short name, for the claim. -/
theorem fnTexts_holds : Rows.FnTextsCardSaid := fnTexts.card
end Go.Proofs.YtgiiilhdmfddcaaDoor
