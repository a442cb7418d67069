/-
  No cell of these rows narrows 'for every input' (looked for: loops, veiled, ifaces, maps, wideKeys, modest, calm, conditions, laid).
  DERIVED. THE GIVEN ROWS OF THIS SEAT. 4 by the template 'for every input the law returns true; each argument reads behind the call as it read before'; 0 by the template 'total and deterministic' (their statements: YtgiiilhdmfddcaaTotals.lean).
  GIVEN WITH THE SEED: the statements are not yours to turn. If you find one false, say at which input.
  Laid BY PROGRAM, IN A SANDBOX (cutbox-rows.mjs): the forced cells as the released guide's own fill.sh prints them over the translation e40b4066252baf6f… (all of the seat's roots in one cut). By AI agents, Wed Nov 11 2026. No macro, syntax, notation, axiom, sorry.
-/
import Derived.Test.YtgiiilhdmfddcaaChecked
import GoSem.Claim
import GoSem.ClaimJoined
import GoSem.ClaimMapViews
import Derived.JoinedTies
import Derived.KernelRfl
namespace Go.Proofs.Ytgiiilhdmfddcaa
/- THE CELL 'sum', in the pinned program and in every row, IS THE sha256 OF THE DUMP (.gsa) THAT YtgiiilhdmfddcaaProg.lean LOADS. Nothing in Lean hashes anything: it is a label: what it is worth is what the hold of that sum in a sandbox is worth. -/
noncomputable def Try.pinned : Pinned := { name := "ytgiiilhdmfddcaa", sum := "e40b4066252baf6f6dfe87de557a00642a04e241b29b5a9c51e27ebf76267b6a", checked := Try.checked }
namespace Rows
def none {H : Type} : Left H := { results := [], args := [] }

/-- 'laws.FnExactSmallTypes': WHATEVER THE INPUT: true; the input reads as it did. -/
def fnExactSmallTypesSpec : ChangeSpec := { name := "fnExactSmallTypes", fn := fun _ => fun
  | [d] => { results := [.lit (.bool true)], args := [d] }
  | _ => none }
def fnExactSmallTypesRow : OpenClaim := { program := "ytgiiilhdmfddcaa", sum := "e40b4066252baf6f6dfe87de557a00642a04e241b29b5a9c51e27ebf76267b6a", func := "loop.example/instancesearch/laws.FnExactSmallTypes", spec := "fnExactSmallTypes", recurses := true, apart := false }
def FnExactSmallTypesSaid : Prop := fnExactSmallTypesRow.holds Try.pinned (OpenSpec.ofChange fnExactSmallTypesSpec)

/-- ITS FALSE NEIGHBOUR: 'it returns false'. Refute it at one input. -/
def fnExactSmallTypesWrong : ChangeSpec := { name := "fnExactSmallTypes", fn := fun _ => fun
  | [d] => { results := [.lit (.bool false)], args := [d] }
  | _ => none }
def FnExactSmallTypesWrongFalsely : Prop := fnExactSmallTypesRow.holds Try.pinned (OpenSpec.ofChange fnExactSmallTypesWrong)

/-- 'laws.FnExactFormatTexts': WHATEVER THE INPUT: true; the input reads as it did. -/
def fnExactFormatTextsSpec : ChangeSpec := { name := "fnExactFormatTexts", fn := fun _ => fun
  | [d] => { results := [.lit (.bool true)], args := [d] }
  | _ => none }
def fnExactFormatTextsRow : OpenClaim := { program := "ytgiiilhdmfddcaa", sum := "e40b4066252baf6f6dfe87de557a00642a04e241b29b5a9c51e27ebf76267b6a", func := "loop.example/instancesearch/laws.FnExactFormatTexts", spec := "fnExactFormatTexts", inPlace := ["internal/abi.NoEscape", "internal/bytealg.MakeNoZero"], apart := false }
def FnExactFormatTextsSaid : Prop := fnExactFormatTextsRow.holds Try.pinned (OpenSpec.ofChange fnExactFormatTextsSpec)

/-- ITS FALSE NEIGHBOUR: 'it returns false'. Refute it at one input. -/
def fnExactFormatTextsWrong : ChangeSpec := { name := "fnExactFormatTexts", fn := fun _ => fun
  | [d] => { results := [.lit (.bool false)], args := [d] }
  | _ => none }
def FnExactFormatTextsWrongFalsely : Prop := fnExactFormatTextsRow.holds Try.pinned (OpenSpec.ofChange fnExactFormatTextsWrong)

/-- 'laws.FnExactFormatNeeds': WHATEVER THE INPUT: true; the input reads as it did. -/
def fnExactFormatNeedsSpec : ChangeSpec := { name := "fnExactFormatNeeds", fn := fun _ => fun
  | [d] => { results := [.lit (.bool true)], args := [d] }
  | _ => none }
def fnExactFormatNeedsRow : OpenClaim := { program := "ytgiiilhdmfddcaa", sum := "e40b4066252baf6f6dfe87de557a00642a04e241b29b5a9c51e27ebf76267b6a", func := "loop.example/instancesearch/laws.FnExactFormatNeeds", spec := "fnExactFormatNeeds", inPlace := ["internal/abi.NoEscape", "internal/bytealg.MakeNoZero"], apart := false }
def FnExactFormatNeedsSaid : Prop := fnExactFormatNeedsRow.holds Try.pinned (OpenSpec.ofChange fnExactFormatNeedsSpec)

/-- ITS FALSE NEIGHBOUR: 'it returns false'. Refute it at one input. -/
def fnExactFormatNeedsWrong : ChangeSpec := { name := "fnExactFormatNeeds", fn := fun _ => fun
  | [d] => { results := [.lit (.bool false)], args := [d] }
  | _ => none }
def FnExactFormatNeedsWrongFalsely : Prop := fnExactFormatNeedsRow.holds Try.pinned (OpenSpec.ofChange fnExactFormatNeedsWrong)

/-- 'laws.FnSmallTypes': WHATEVER THE INPUT: true; the input reads as it did. -/
def fnSmallTypesSpec : ChangeSpec := { name := "fnSmallTypes", fn := fun _ => fun
  | [d1, d2] => { results := [.lit (.bool true)], args := [d1, d2] }
  | _ => none }
def fnSmallTypesRow : OpenClaim := { program := "ytgiiilhdmfddcaa", sum := "e40b4066252baf6f6dfe87de557a00642a04e241b29b5a9c51e27ebf76267b6a", func := "loop.example/instancesearch/laws.FnSmallTypes", spec := "fnSmallTypes", inPlace := ["internal/bytealg.IndexByteString", "internal/bytealg.IndexString", "internal/abi.NoEscape", "internal/bytealg.MakeNoZero", "internal/bytealg.CountString"], recurses := true, named := ["internal/bytealg.MaxLen"], apart := false }
def FnSmallTypesSaid : Prop := fnSmallTypesRow.holds Try.pinned (OpenSpec.ofChange fnSmallTypesSpec)

/-- ITS FALSE NEIGHBOUR: 'it returns false'. Refute it at one input. -/
def fnSmallTypesWrong : ChangeSpec := { name := "fnSmallTypes", fn := fun _ => fun
  | [d1, d2] => { results := [.lit (.bool false)], args := [d1, d2] }
  | _ => none }
def FnSmallTypesWrongFalsely : Prop := fnSmallTypesRow.holds Try.pinned (OpenSpec.ofChange fnSmallTypesWrong)

/- THE SECOND FORM. 'bulk': how many values and letters a reading holds, each counted each time it is reached (what is shared counts as often as it is met; a slice's spare places count too). A statement '..UptoSaid' is the law's where the arguments, and the package variables that the reading takes, are together of bulk at most 1048576: NARROWER than '..Said'. Prove '..Said' where nothing that the law and all that it calls make is longer than what came in: it says more and counts as full. Else prove '..UptoSaid'. A law counts once. -/
mutual
def uptoBulk {H : Type} : DataW H → Nat
  | .lit (.string bytes) => bytes.length + 1
  | .lit _ => 1
  | .nil => 1
  | .ptr d => uptoBulk d + 1
  | .slice elems spare => uptoBulkAll elems + uptoBulkAll spare + 1
  | .agg parts => uptoBulkAll parts + 1
  | .iface _ d => uptoBulk d + 1
  | .map entries => uptoBulkEntries entries + 1
  | .held _ => 1
def uptoBulkAll {H : Type} : List (DataW H) → Nat
  | [] => 0
  | d :: r => uptoBulk d + uptoBulkAll r
def uptoBulkEntries {H : Type} : List (Lit × DataW H) → Nat
  | [] => 0
  | x :: r => uptoBulkEntry x + uptoBulkEntries r
def uptoBulkEntry {H : Type} : Lit × DataW H → Nat
  | (.string bytes, d) => bytes.length + uptoBulk d + 1
  | (_, d) => uptoBulk d + 1
 end
def uptoSmall : (H : Type) → List (DataW H) → Bool := fun _ ds => decide (uptoBulkAll ds ≤ 1048576)
def OpenSpec.upto (s : _root_.Go.ChangeSpec) : _root_.Go.OpenSpec := { _root_.Go.OpenSpec.ofChange s with cond := some uptoSmall }

/-- 'laws.FnExactSmallTypes', WHERE WHAT IT READS IS OF BULK AT MOST 1048576: true; the input reads as it did. -/
def fnExactSmallTypesUptoRow : OpenClaim := { program := "ytgiiilhdmfddcaa", sum := "e40b4066252baf6f6dfe87de557a00642a04e241b29b5a9c51e27ebf76267b6a", func := "loop.example/instancesearch/laws.FnExactSmallTypes", spec := "fnExactSmallTypes", recurses := true, apart := false, narrowed := true }
def FnExactSmallTypesUptoSaid : Prop := fnExactSmallTypesUptoRow.holds Try.pinned (OpenSpec.upto fnExactSmallTypesSpec)

/-- 'laws.FnExactFormatTexts', WHERE WHAT IT READS IS OF BULK AT MOST 1048576: true; the input reads as it did. -/
def fnExactFormatTextsUptoRow : OpenClaim := { program := "ytgiiilhdmfddcaa", sum := "e40b4066252baf6f6dfe87de557a00642a04e241b29b5a9c51e27ebf76267b6a", func := "loop.example/instancesearch/laws.FnExactFormatTexts", spec := "fnExactFormatTexts", inPlace := ["internal/abi.NoEscape", "internal/bytealg.MakeNoZero"], apart := false, narrowed := true }
def FnExactFormatTextsUptoSaid : Prop := fnExactFormatTextsUptoRow.holds Try.pinned (OpenSpec.upto fnExactFormatTextsSpec)

/-- 'laws.FnExactFormatNeeds', WHERE WHAT IT READS IS OF BULK AT MOST 1048576: true; the input reads as it did. -/
def fnExactFormatNeedsUptoRow : OpenClaim := { program := "ytgiiilhdmfddcaa", sum := "e40b4066252baf6f6dfe87de557a00642a04e241b29b5a9c51e27ebf76267b6a", func := "loop.example/instancesearch/laws.FnExactFormatNeeds", spec := "fnExactFormatNeeds", inPlace := ["internal/abi.NoEscape", "internal/bytealg.MakeNoZero"], apart := false, narrowed := true }
def FnExactFormatNeedsUptoSaid : Prop := fnExactFormatNeedsUptoRow.holds Try.pinned (OpenSpec.upto fnExactFormatNeedsSpec)

/-- 'laws.FnSmallTypes', WHERE WHAT IT READS IS OF BULK AT MOST 1048576: true; the input reads as it did. -/
def fnSmallTypesUptoRow : OpenClaim := { program := "ytgiiilhdmfddcaa", sum := "e40b4066252baf6f6dfe87de557a00642a04e241b29b5a9c51e27ebf76267b6a", func := "loop.example/instancesearch/laws.FnSmallTypes", spec := "fnSmallTypes", inPlace := ["internal/bytealg.IndexByteString", "internal/bytealg.IndexString", "internal/abi.NoEscape", "internal/bytealg.MakeNoZero", "internal/bytealg.CountString"], recurses := true, named := ["internal/bytealg.MaxLen"], apart := false, narrowed := true }
def FnSmallTypesUptoSaid : Prop := fnSmallTypesUptoRow.holds Try.pinned (OpenSpec.upto fnSmallTypesSpec)

end Rows
end Go.Proofs.Ytgiiilhdmfddcaa
