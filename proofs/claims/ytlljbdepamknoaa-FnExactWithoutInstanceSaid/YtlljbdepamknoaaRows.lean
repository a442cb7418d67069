/-
  No cell of these rows narrows 'for every input' (looked for: loops, veiled, ifaces, maps, wideKeys, modest, calm, conditions, laid).
  DERIVED. THE GIVEN ROWS OF THIS SEAT. 3 by the template 'for every input the law returns true; each argument reads behind the call as it read before'; 0 by the template 'total and deterministic' (their statements: YtlljbdepamknoaaTotals.lean).
  GIVEN WITH THE SEED: the statements are not yours to turn. If you find one false, say at which input.
  Laid BY PROGRAM, IN A SANDBOX (cutbox-rows.mjs): the forced cells as the released guide's own fill.sh prints them over the translation 585958442cc6e17f… (all of the seat's roots in one cut). By AI agents, Wed Nov 11 2026. No macro, syntax, notation, axiom, sorry.
-/
import Derived.Test.YtlljbdepamknoaaChecked
import GoSem.Claim
import GoSem.ClaimJoined
import GoSem.ClaimMapViews
import Derived.JoinedTies
import Derived.KernelRfl
namespace Go.Proofs.Ytlljbdepamknoaa
/- THE CELL 'sum', in the pinned program and in every row, IS THE sha256 OF THE DUMP (.gsa) THAT YtlljbdepamknoaaProg.lean LOADS. Nothing in Lean hashes anything: it is a label: what it is worth is what the hold of that sum in a sandbox is worth. -/
noncomputable def Try.pinned : Pinned := { name := "ytlljbdepamknoaa", sum := "585958442cc6e17f52c2af2947072c35c25651f228d554d215835c8448eb6431", checked := Try.checked }
namespace Rows
def none {H : Type} : Left H := { results := [], args := [] }

/-- 'laws.FnExactWithInstance': WHATEVER THE INPUT: true; the input reads as it did. -/
def fnExactWithInstanceSpec : ChangeSpec := { name := "fnExactWithInstance", fn := fun _ => fun
  | [d1, d2] => { results := [.lit (.bool true)], args := [d1, d2] }
  | _ => none }
def fnExactWithInstanceRow : OpenClaim := { program := "ytlljbdepamknoaa", sum := "585958442cc6e17f52c2af2947072c35c25651f228d554d215835c8448eb6431", func := "loop.example/instancesearch/laws.FnExactWithInstance", spec := "fnExactWithInstance", inPlace := ["internal/bytealg.IndexByteString", "internal/bytealg.IndexString"], unfollowed := true, recurses := true, named := ["internal/bytealg.MaxLen"], apart := false }
def FnExactWithInstanceSaid : Prop := fnExactWithInstanceRow.holds Try.pinned (OpenSpec.ofChange fnExactWithInstanceSpec)

/-- ITS FALSE NEIGHBOUR: 'it returns false'. Refute it at one input. -/
def fnExactWithInstanceWrong : ChangeSpec := { name := "fnExactWithInstance", fn := fun _ => fun
  | [d1, d2] => { results := [.lit (.bool false)], args := [d1, d2] }
  | _ => none }
def FnExactWithInstanceWrongFalsely : Prop := fnExactWithInstanceRow.holds Try.pinned (OpenSpec.ofChange fnExactWithInstanceWrong)

/-- 'laws.FnExactWithoutInstance': WHATEVER THE INPUT: true; the input reads as it did. -/
def fnExactWithoutInstanceSpec : ChangeSpec := { name := "fnExactWithoutInstance", fn := fun _ => fun
  | [d1, d2] => { results := [.lit (.bool true)], args := [d1, d2] }
  | _ => none }
def fnExactWithoutInstanceRow : OpenClaim := { program := "ytlljbdepamknoaa", sum := "585958442cc6e17f52c2af2947072c35c25651f228d554d215835c8448eb6431", func := "loop.example/instancesearch/laws.FnExactWithoutInstance", spec := "fnExactWithoutInstance", inPlace := ["internal/bytealg.IndexByteString", "internal/bytealg.IndexString"], unfollowed := true, recurses := true, named := ["internal/bytealg.MaxLen"], apart := false }
def FnExactWithoutInstanceSaid : Prop := fnExactWithoutInstanceRow.holds Try.pinned (OpenSpec.ofChange fnExactWithoutInstanceSpec)

/-- ITS FALSE NEIGHBOUR: 'it returns false'. Refute it at one input. -/
def fnExactWithoutInstanceWrong : ChangeSpec := { name := "fnExactWithoutInstance", fn := fun _ => fun
  | [d1, d2] => { results := [.lit (.bool false)], args := [d1, d2] }
  | _ => none }
def FnExactWithoutInstanceWrongFalsely : Prop := fnExactWithoutInstanceRow.holds Try.pinned (OpenSpec.ofChange fnExactWithoutInstanceWrong)

/-- 'laws.FnMatch': WHATEVER THE INPUT: true; the input reads as it did. -/
def fnMatchSpec : ChangeSpec := { name := "fnMatch", fn := fun _ => fun
  | [d] => { results := [.lit (.bool true)], args := [d] }
  | _ => none }
def fnMatchRow : OpenClaim := { program := "ytlljbdepamknoaa", sum := "585958442cc6e17f52c2af2947072c35c25651f228d554d215835c8448eb6431", func := "loop.example/instancesearch/laws.FnMatch", spec := "fnMatch", inPlace := ["internal/bytealg.IndexByteString", "internal/bytealg.IndexString", "internal/abi.NoEscape", "internal/bytealg.MakeNoZero", "internal/bytealg.CountString"], unfollowed := true, recurses := true, named := ["internal/bytealg.MaxLen"], apart := false }
def FnMatchSaid : Prop := fnMatchRow.holds Try.pinned (OpenSpec.ofChange fnMatchSpec)

/-- ITS FALSE NEIGHBOUR: 'it returns false'. Refute it at one input. -/
def fnMatchWrong : ChangeSpec := { name := "fnMatch", fn := fun _ => fun
  | [d] => { results := [.lit (.bool false)], args := [d] }
  | _ => none }
def FnMatchWrongFalsely : Prop := fnMatchRow.holds Try.pinned (OpenSpec.ofChange fnMatchWrong)

/- THE SECOND FORM. 'bulk': how many values and letters a reading holds, each counted each time it is reached (what is shared counts as often as it is met; a slice's spare places count too). A statement '..UptoSaid' is the law's where the arguments, and the package variables that the reading takes, are together of bulk at most 1048576: NARROWER than '..Said'. Prove '..Said' where nothing that the law and all that it calls make is longer than what came in: it says more and counts as full. Else prove '..UptoSaid'. A law counts once. -/
mutual
def uptoBulk {H : Type} : DataW H → Nat
  | .lit (.string bytes) => bytes.length + 1
  | .lit _ => 1
  | .nil => 1
  | .ptr d => uptoBulk d + 1
  | .slice elems spare => uptoBulkAll elems + uptoBulkAll spare + 1
  | .agg parts => uptoBulkAll parts + 1
  | .iface _ d => uptoBulk d + 1
  | .map entries => uptoBulkEntries entries + 1
  | .held _ => 1
def uptoBulkAll {H : Type} : List (DataW H) → Nat
  | [] => 0
  | d :: r => uptoBulk d + uptoBulkAll r
def uptoBulkEntries {H : Type} : List (Lit × DataW H) → Nat
  | [] => 0
  | x :: r => uptoBulkEntry x + uptoBulkEntries r
def uptoBulkEntry {H : Type} : Lit × DataW H → Nat
  | (.string bytes, d) => bytes.length + uptoBulk d + 1
  | (_, d) => uptoBulk d + 1
 end
def uptoSmall : (H : Type) → List (DataW H) → Bool := fun _ ds => decide (uptoBulkAll ds ≤ 1048576)
def OpenSpec.upto (s : _root_.Go.ChangeSpec) : _root_.Go.OpenSpec := { _root_.Go.OpenSpec.ofChange s with cond := some uptoSmall }

/-- 'laws.FnExactWithInstance', WHERE WHAT IT READS IS OF BULK AT MOST 1048576: true; the input reads as it did. -/
def fnExactWithInstanceUptoRow : OpenClaim := { program := "ytlljbdepamknoaa", sum := "585958442cc6e17f52c2af2947072c35c25651f228d554d215835c8448eb6431", func := "loop.example/instancesearch/laws.FnExactWithInstance", spec := "fnExactWithInstance", inPlace := ["internal/bytealg.IndexByteString", "internal/bytealg.IndexString"], unfollowed := true, recurses := true, named := ["internal/bytealg.MaxLen"], apart := false, narrowed := true }
def FnExactWithInstanceUptoSaid : Prop := fnExactWithInstanceUptoRow.holds Try.pinned (OpenSpec.upto fnExactWithInstanceSpec)

/-- 'laws.FnExactWithoutInstance', WHERE WHAT IT READS IS OF BULK AT MOST 1048576: true; the input reads as it did. -/
def fnExactWithoutInstanceUptoRow : OpenClaim := { program := "ytlljbdepamknoaa", sum := "585958442cc6e17f52c2af2947072c35c25651f228d554d215835c8448eb6431", func := "loop.example/instancesearch/laws.FnExactWithoutInstance", spec := "fnExactWithoutInstance", inPlace := ["internal/bytealg.IndexByteString", "internal/bytealg.IndexString"], unfollowed := true, recurses := true, named := ["internal/bytealg.MaxLen"], apart := false, narrowed := true }
def FnExactWithoutInstanceUptoSaid : Prop := fnExactWithoutInstanceUptoRow.holds Try.pinned (OpenSpec.upto fnExactWithoutInstanceSpec)

/-- 'laws.FnMatch', WHERE WHAT IT READS IS OF BULK AT MOST 1048576: true; the input reads as it did. -/
def fnMatchUptoRow : OpenClaim := { program := "ytlljbdepamknoaa", sum := "585958442cc6e17f52c2af2947072c35c25651f228d554d215835c8448eb6431", func := "loop.example/instancesearch/laws.FnMatch", spec := "fnMatch", inPlace := ["internal/bytealg.IndexByteString", "internal/bytealg.IndexString", "internal/abi.NoEscape", "internal/bytealg.MakeNoZero", "internal/bytealg.CountString"], unfollowed := true, recurses := true, named := ["internal/bytealg.MaxLen"], apart := false, narrowed := true }
def FnMatchUptoSaid : Prop := fnMatchUptoRow.holds Try.pinned (OpenSpec.upto fnMatchSpec)

end Rows
end Go.Proofs.Ytlljbdepamknoaa
