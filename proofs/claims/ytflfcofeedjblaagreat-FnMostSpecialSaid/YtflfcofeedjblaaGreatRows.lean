/-
  No cell of these rows narrows 'for every input' (looked for: loops, veiled, ifaces, maps, wideKeys, modest, calm, conditions, laid).
  DERIVED. THE GIVEN ROWS OF THIS SEAT. 3 by the template 'for every input the law returns true; each argument reads behind the call as it read before'; 0 by the template 'total and deterministic' (their statements: YtflfcofeedjblaaGreatTotals.lean).
  GIVEN WITH THE SEED: the statements are not yours to turn. If you find one false, say at which input.
  Laid BY PROGRAM, IN A SANDBOX (cutbox-rows.mjs): the forced cells as the released guide's own fill.sh prints them over the translation f0059c8cb6a3a1bf… (all of the seat's roots in one cut). By AI agents, Wed Nov 11 2026. No macro, syntax, notation, axiom, sorry.
-/
import Derived.Test.YtflfcofeedjblaaGreatChecked
import GoSem.Claim
import GoSem.ClaimJoined
import GoSem.ClaimMapViews
import Derived.JoinedTies
import Derived.KernelRfl
namespace Go.Proofs.YtflfcofeedjblaaGreat
/- THE CELL 'sum', in the pinned program and in every row, IS THE sha256 OF THE DUMP (.gsa) THAT YtflfcofeedjblaaGreatProg.lean LOADS. Nothing in Lean hashes anything: it is a label: what it is worth is what the hold of that sum in a sandbox is worth. -/
noncomputable def Tryz.pinned : Pinned := { name := "ytflfcofeedjblaagreat", sum := "f0059c8cb6a3a1bf9a0c165ea826688c9a9f6d3112fa1fa58f0aa325529bd5a0", checked := Tryz.checked }
namespace Rows
def none {H : Type} : Left H := { results := [], args := [] }

/-- 'laws.FnSpecial': WHATEVER THE INPUT: true; the input reads as it did. -/
def fnSpecialSpec : ChangeSpec := { name := "fnSpecial", fn := fun _ => fun
  | [d] => { results := [.lit (.bool true)], args := [d] }
  | _ => none }
def fnSpecialRow : OpenClaim := { program := "ytflfcofeedjblaagreat", sum := "f0059c8cb6a3a1bf9a0c165ea826688c9a9f6d3112fa1fa58f0aa325529bd5a0", func := "loop.example/instancesearch/laws.FnSpecial", spec := "fnSpecial", inPlace := ["internal/bytealg.IndexByteString", "internal/bytealg.IndexString", "internal/abi.NoEscape", "internal/bytealg.MakeNoZero"], unfollowed := true, recurses := true, named := ["internal/bytealg.MaxLen"], apart := false }
def FnSpecialSaid : Prop := fnSpecialRow.holds Tryz.pinned (OpenSpec.ofChange fnSpecialSpec)

/-- ITS FALSE NEIGHBOUR: 'it returns false'. Refute it at one input. -/
def fnSpecialWrong : ChangeSpec := { name := "fnSpecial", fn := fun _ => fun
  | [d] => { results := [.lit (.bool false)], args := [d] }
  | _ => none }
def FnSpecialWrongFalsely : Prop := fnSpecialRow.holds Tryz.pinned (OpenSpec.ofChange fnSpecialWrong)

/-- 'laws.FnNeedsOf': WHATEVER THE INPUT: true; the input reads as it did. -/
def fnNeedsOfSpec : ChangeSpec := { name := "fnNeedsOf", fn := fun _ => fun
  | [d] => { results := [.lit (.bool true)], args := [d] }
  | _ => none }
def fnNeedsOfRow : OpenClaim := { program := "ytflfcofeedjblaagreat", sum := "f0059c8cb6a3a1bf9a0c165ea826688c9a9f6d3112fa1fa58f0aa325529bd5a0", func := "loop.example/instancesearch/laws.FnNeedsOf", spec := "fnNeedsOf", inPlace := ["internal/bytealg.IndexByteString", "internal/bytealg.IndexString", "internal/abi.NoEscape", "internal/bytealg.MakeNoZero"], unfollowed := true, recurses := true, named := ["internal/bytealg.MaxLen"], apart := false }
def FnNeedsOfSaid : Prop := fnNeedsOfRow.holds Tryz.pinned (OpenSpec.ofChange fnNeedsOfSpec)

/-- ITS FALSE NEIGHBOUR: 'it returns false'. Refute it at one input. -/
def fnNeedsOfWrong : ChangeSpec := { name := "fnNeedsOf", fn := fun _ => fun
  | [d] => { results := [.lit (.bool false)], args := [d] }
  | _ => none }
def FnNeedsOfWrongFalsely : Prop := fnNeedsOfRow.holds Tryz.pinned (OpenSpec.ofChange fnNeedsOfWrong)

/-- 'laws.FnMostSpecial': WHATEVER THE INPUT: true; the input reads as it did. -/
def fnMostSpecialSpec : ChangeSpec := { name := "fnMostSpecial", fn := fun _ => fun
  | [d1, d2] => { results := [.lit (.bool true)], args := [d1, d2] }
  | _ => none }
def fnMostSpecialRow : OpenClaim := { program := "ytflfcofeedjblaagreat", sum := "f0059c8cb6a3a1bf9a0c165ea826688c9a9f6d3112fa1fa58f0aa325529bd5a0", func := "loop.example/instancesearch/laws.FnMostSpecial", spec := "fnMostSpecial", inPlace := ["internal/bytealg.IndexByteString", "internal/bytealg.IndexString", "internal/abi.NoEscape", "internal/bytealg.MakeNoZero"], unfollowed := true, recurses := true, named := ["internal/bytealg.MaxLen"], apart := false }
def FnMostSpecialSaid : Prop := fnMostSpecialRow.holds Tryz.pinned (OpenSpec.ofChange fnMostSpecialSpec)

/-- ITS FALSE NEIGHBOUR: 'it returns false'. Refute it at one input. -/
def fnMostSpecialWrong : ChangeSpec := { name := "fnMostSpecial", fn := fun _ => fun
  | [d1, d2] => { results := [.lit (.bool false)], args := [d1, d2] }
  | _ => none }
def FnMostSpecialWrongFalsely : Prop := fnMostSpecialRow.holds Tryz.pinned (OpenSpec.ofChange fnMostSpecialWrong)

/- THE SECOND FORM. 'bulk': how many values and letters a reading holds, each counted each time it is reached (what is shared counts as often as it is met; a slice's spare places count too). A statement '..UptoSaid' is the law's where the arguments, and the package variables that the reading takes, are together of bulk at most 1048576: NARROWER than '..Said'. Prove '..Said' where nothing that the law and all that it calls make is longer than what came in: it says more and counts as full. Else prove '..UptoSaid'. A law counts once. -/
mutual
def uptoBulk {H : Type} : DataW H → Nat
  | .lit (.string bytes) => bytes.length + 1
  | .lit _ => 1
  | .nil => 1
  | .ptr d => uptoBulk d + 1
  | .slice elems spare => uptoBulkAll elems + uptoBulkAll spare + 1
  | .agg parts => uptoBulkAll parts + 1
  | .iface _ d => uptoBulk d + 1
  | .map entries => uptoBulkEntries entries + 1
  | .held _ => 1
def uptoBulkAll {H : Type} : List (DataW H) → Nat
  | [] => 0
  | d :: r => uptoBulk d + uptoBulkAll r
def uptoBulkEntries {H : Type} : List (Lit × DataW H) → Nat
  | [] => 0
  | x :: r => uptoBulkEntry x + uptoBulkEntries r
def uptoBulkEntry {H : Type} : Lit × DataW H → Nat
  | (.string bytes, d) => bytes.length + uptoBulk d + 1
  | (_, d) => uptoBulk d + 1
 end
def uptoSmall : (H : Type) → List (DataW H) → Bool := fun _ ds => decide (uptoBulkAll ds ≤ 1048576)
def OpenSpec.upto (s : _root_.Go.ChangeSpec) : _root_.Go.OpenSpec := { _root_.Go.OpenSpec.ofChange s with cond := some uptoSmall }

/-- 'laws.FnSpecial', WHERE WHAT IT READS IS OF BULK AT MOST 1048576: true; the input reads as it did. -/
def fnSpecialUptoRow : OpenClaim := { program := "ytflfcofeedjblaagreat", sum := "f0059c8cb6a3a1bf9a0c165ea826688c9a9f6d3112fa1fa58f0aa325529bd5a0", func := "loop.example/instancesearch/laws.FnSpecial", spec := "fnSpecial", inPlace := ["internal/bytealg.IndexByteString", "internal/bytealg.IndexString", "internal/abi.NoEscape", "internal/bytealg.MakeNoZero"], unfollowed := true, recurses := true, named := ["internal/bytealg.MaxLen"], apart := false, narrowed := true }
def FnSpecialUptoSaid : Prop := fnSpecialUptoRow.holds Tryz.pinned (OpenSpec.upto fnSpecialSpec)

/-- 'laws.FnNeedsOf', WHERE WHAT IT READS IS OF BULK AT MOST 1048576: true; the input reads as it did. -/
def fnNeedsOfUptoRow : OpenClaim := { program := "ytflfcofeedjblaagreat", sum := "f0059c8cb6a3a1bf9a0c165ea826688c9a9f6d3112fa1fa58f0aa325529bd5a0", func := "loop.example/instancesearch/laws.FnNeedsOf", spec := "fnNeedsOf", inPlace := ["internal/bytealg.IndexByteString", "internal/bytealg.IndexString", "internal/abi.NoEscape", "internal/bytealg.MakeNoZero"], unfollowed := true, recurses := true, named := ["internal/bytealg.MaxLen"], apart := false, narrowed := true }
def FnNeedsOfUptoSaid : Prop := fnNeedsOfUptoRow.holds Tryz.pinned (OpenSpec.upto fnNeedsOfSpec)

/-- 'laws.FnMostSpecial', WHERE WHAT IT READS IS OF BULK AT MOST 1048576: true; the input reads as it did. -/
def fnMostSpecialUptoRow : OpenClaim := { program := "ytflfcofeedjblaagreat", sum := "f0059c8cb6a3a1bf9a0c165ea826688c9a9f6d3112fa1fa58f0aa325529bd5a0", func := "loop.example/instancesearch/laws.FnMostSpecial", spec := "fnMostSpecial", inPlace := ["internal/bytealg.IndexByteString", "internal/bytealg.IndexString", "internal/abi.NoEscape", "internal/bytealg.MakeNoZero"], unfollowed := true, recurses := true, named := ["internal/bytealg.MaxLen"], apart := false, narrowed := true }
def FnMostSpecialUptoSaid : Prop := fnMostSpecialUptoRow.holds Tryz.pinned (OpenSpec.upto fnMostSpecialSpec)

end Rows
end Go.Proofs.YtflfcofeedjblaaGreat
