/-
  No cell of these rows narrows 'for every input' (looked for: loops, veiled, ifaces, maps, wideKeys, modest, calm, conditions, laid).
  DERIVED. THE GIVEN ROWS OF THIS SEAT. 4 by the template 'for every input the law returns true; each argument reads behind the call as it read before'; 0 by the template 'total and deterministic' (their statements: YtlljbdepamknoaaGreatTotals.lean).
  GIVEN WITH THE SEED: the statements are not yours to turn. If you find one false, say at which input.
  Laid BY PROGRAM, IN A SANDBOX (cutbox-rows.mjs): the forced cells as the released guide's own fill.sh prints them over the translation 818d409d93f83ac4… (all of the seat's roots in one cut). By AI agents, Wed Nov 11 2026. No macro, syntax, notation, axiom, sorry.
-/
import Derived.Test.YtlljbdepamknoaaGreatChecked
import GoSem.Claim
import GoSem.ClaimJoined
import GoSem.ClaimMapViews
import Derived.JoinedTies
import Derived.KernelRfl
namespace Go.Proofs.YtlljbdepamknoaaGreat
/- THE CELL 'sum', in the pinned program and in every row, IS THE sha256 OF THE DUMP (.gsa) THAT YtlljbdepamknoaaGreatProg.lean LOADS. Nothing in Lean hashes anything: it is a label: what it is worth is what the hold of that sum in a sandbox is worth. -/
noncomputable def Tryz.pinned : Pinned := { name := "ytlljbdepamknoaagreat", sum := "818d409d93f83ac4cf27e1011713bb8cfaf05b4ce3811bf412f3972850e4cc6d", checked := Tryz.checked }
namespace Rows
def none {H : Type} : Left H := { results := [], args := [] }

/-- 'laws.FnExactCheckDict': WHATEVER THE INPUT: true; the input reads as it did. -/
def fnExactCheckDictSpec : ChangeSpec := { name := "fnExactCheckDict", fn := fun _ => fun
  | [d1, d2, d3] => { results := [.lit (.bool true)], args := [d1, d2, d3] }
  | _ => none }
def fnExactCheckDictRow : OpenClaim := { program := "ytlljbdepamknoaagreat", sum := "818d409d93f83ac4cf27e1011713bb8cfaf05b4ce3811bf412f3972850e4cc6d", func := "loop.example/instancesearch/laws.FnExactCheckDict", spec := "fnExactCheckDict", inPlace := ["internal/bytealg.IndexByteString", "internal/bytealg.IndexString", "internal/abi.NoEscape", "internal/bytealg.MakeNoZero"], unfollowed := true, recurses := true, named := ["internal/bytealg.MaxLen"], apart := false }
def FnExactCheckDictSaid : Prop := fnExactCheckDictRow.holds Tryz.pinned (OpenSpec.ofChange fnExactCheckDictSpec)

/-- ITS FALSE NEIGHBOUR: 'it returns false'. Refute it at one input. -/
def fnExactCheckDictWrong : ChangeSpec := { name := "fnExactCheckDict", fn := fun _ => fun
  | [d1, d2, d3] => { results := [.lit (.bool false)], args := [d1, d2, d3] }
  | _ => none }
def FnExactCheckDictWrongFalsely : Prop := fnExactCheckDictRow.holds Tryz.pinned (OpenSpec.ofChange fnExactCheckDictWrong)

/-- 'laws.FnExactCheckGiven': WHATEVER THE INPUT: true; the input reads as it did. -/
def fnExactCheckGivenSpec : ChangeSpec := { name := "fnExactCheckGiven", fn := fun _ => fun
  | [d1, d2, d3, d4] => { results := [.lit (.bool true)], args := [d1, d2, d3, d4] }
  | _ => none }
def fnExactCheckGivenRow : OpenClaim := { program := "ytlljbdepamknoaagreat", sum := "818d409d93f83ac4cf27e1011713bb8cfaf05b4ce3811bf412f3972850e4cc6d", func := "loop.example/instancesearch/laws.FnExactCheckGiven", spec := "fnExactCheckGiven", inPlace := ["internal/bytealg.IndexByteString", "internal/bytealg.IndexString", "internal/abi.NoEscape", "internal/bytealg.MakeNoZero"], unfollowed := true, recurses := true, named := ["internal/bytealg.MaxLen"], apart := false }
def FnExactCheckGivenSaid : Prop := fnExactCheckGivenRow.holds Tryz.pinned (OpenSpec.ofChange fnExactCheckGivenSpec)

/-- ITS FALSE NEIGHBOUR: 'it returns false'. Refute it at one input. -/
def fnExactCheckGivenWrong : ChangeSpec := { name := "fnExactCheckGiven", fn := fun _ => fun
  | [d1, d2, d3, d4] => { results := [.lit (.bool false)], args := [d1, d2, d3, d4] }
  | _ => none }
def FnExactCheckGivenWrongFalsely : Prop := fnExactCheckGivenRow.holds Tryz.pinned (OpenSpec.ofChange fnExactCheckGivenWrong)

/-- 'laws.FnSpecial': WHATEVER THE INPUT: true; the input reads as it did. -/
def fnSpecialSpec : ChangeSpec := { name := "fnSpecial", fn := fun _ => fun
  | [d] => { results := [.lit (.bool true)], args := [d] }
  | _ => none }
def fnSpecialRow : OpenClaim := { program := "ytlljbdepamknoaagreat", sum := "818d409d93f83ac4cf27e1011713bb8cfaf05b4ce3811bf412f3972850e4cc6d", func := "loop.example/instancesearch/laws.FnSpecial", spec := "fnSpecial", inPlace := ["internal/bytealg.IndexByteString", "internal/bytealg.IndexString", "internal/abi.NoEscape", "internal/bytealg.MakeNoZero"], unfollowed := true, recurses := true, named := ["internal/bytealg.MaxLen"], apart := false }
def FnSpecialSaid : Prop := fnSpecialRow.holds Tryz.pinned (OpenSpec.ofChange fnSpecialSpec)

/-- ITS FALSE NEIGHBOUR: 'it returns false'. Refute it at one input. -/
def fnSpecialWrong : ChangeSpec := { name := "fnSpecial", fn := fun _ => fun
  | [d] => { results := [.lit (.bool false)], args := [d] }
  | _ => none }
def FnSpecialWrongFalsely : Prop := fnSpecialRow.holds Tryz.pinned (OpenSpec.ofChange fnSpecialWrong)

/-- 'laws.FnNeedsOf': WHATEVER THE INPUT: true; the input reads as it did. -/
def fnNeedsOfSpec : ChangeSpec := { name := "fnNeedsOf", fn := fun _ => fun
  | [d] => { results := [.lit (.bool true)], args := [d] }
  | _ => none }
def fnNeedsOfRow : OpenClaim := { program := "ytlljbdepamknoaagreat", sum := "818d409d93f83ac4cf27e1011713bb8cfaf05b4ce3811bf412f3972850e4cc6d", func := "loop.example/instancesearch/laws.FnNeedsOf", spec := "fnNeedsOf", inPlace := ["internal/bytealg.IndexByteString", "internal/bytealg.IndexString", "internal/abi.NoEscape", "internal/bytealg.MakeNoZero"], unfollowed := true, recurses := true, named := ["internal/bytealg.MaxLen"], apart := false }
def FnNeedsOfSaid : Prop := fnNeedsOfRow.holds Tryz.pinned (OpenSpec.ofChange fnNeedsOfSpec)

/-- ITS FALSE NEIGHBOUR: 'it returns false'. Refute it at one input. -/
def fnNeedsOfWrong : ChangeSpec := { name := "fnNeedsOf", fn := fun _ => fun
  | [d] => { results := [.lit (.bool false)], args := [d] }
  | _ => none }
def FnNeedsOfWrongFalsely : Prop := fnNeedsOfRow.holds Tryz.pinned (OpenSpec.ofChange fnNeedsOfWrong)

/- THE SECOND FORM. 'bulk': how many values and letters a reading holds, each counted each time it is reached (what is shared counts as often as it is met; a slice's spare places count too). A statement '..UptoSaid' is the law's where the arguments, and the package variables that the reading takes, are together of bulk at most 1048576: NARROWER than '..Said'. Prove '..Said' where nothing that the law and all that it calls make is longer than what came in: it says more and counts as full. Else prove '..UptoSaid'. A law counts once. -/
mutual
def uptoBulk {H : Type} : DataW H → Nat
  | .lit (.string bytes) => bytes.length + 1
  | .lit _ => 1
  | .nil => 1
  | .ptr d => uptoBulk d + 1
  | .slice elems spare => uptoBulkAll elems + uptoBulkAll spare + 1
  | .agg parts => uptoBulkAll parts + 1
  | .iface _ d => uptoBulk d + 1
  | .map entries => uptoBulkEntries entries + 1
  | .held _ => 1
def uptoBulkAll {H : Type} : List (DataW H) → Nat
  | [] => 0
  | d :: r => uptoBulk d + uptoBulkAll r
def uptoBulkEntries {H : Type} : List (Lit × DataW H) → Nat
  | [] => 0
  | x :: r => uptoBulkEntry x + uptoBulkEntries r
def uptoBulkEntry {H : Type} : Lit × DataW H → Nat
  | (.string bytes, d) => bytes.length + uptoBulk d + 1
  | (_, d) => uptoBulk d + 1
 end
def uptoSmall : (H : Type) → List (DataW H) → Bool := fun _ ds => decide (uptoBulkAll ds ≤ 1048576)
def OpenSpec.upto (s : _root_.Go.ChangeSpec) : _root_.Go.OpenSpec := { _root_.Go.OpenSpec.ofChange s with cond := some uptoSmall }

/-- 'laws.FnExactCheckDict', WHERE WHAT IT READS IS OF BULK AT MOST 1048576: true; the input reads as it did. -/
def fnExactCheckDictUptoRow : OpenClaim := { program := "ytlljbdepamknoaagreat", sum := "818d409d93f83ac4cf27e1011713bb8cfaf05b4ce3811bf412f3972850e4cc6d", func := "loop.example/instancesearch/laws.FnExactCheckDict", spec := "fnExactCheckDict", inPlace := ["internal/bytealg.IndexByteString", "internal/bytealg.IndexString", "internal/abi.NoEscape", "internal/bytealg.MakeNoZero"], unfollowed := true, recurses := true, named := ["internal/bytealg.MaxLen"], apart := false, narrowed := true }
def FnExactCheckDictUptoSaid : Prop := fnExactCheckDictUptoRow.holds Tryz.pinned (OpenSpec.upto fnExactCheckDictSpec)

/-- 'laws.FnExactCheckGiven', WHERE WHAT IT READS IS OF BULK AT MOST 1048576: true; the input reads as it did. -/
def fnExactCheckGivenUptoRow : OpenClaim := { program := "ytlljbdepamknoaagreat", sum := "818d409d93f83ac4cf27e1011713bb8cfaf05b4ce3811bf412f3972850e4cc6d", func := "loop.example/instancesearch/laws.FnExactCheckGiven", spec := "fnExactCheckGiven", inPlace := ["internal/bytealg.IndexByteString", "internal/bytealg.IndexString", "internal/abi.NoEscape", "internal/bytealg.MakeNoZero"], unfollowed := true, recurses := true, named := ["internal/bytealg.MaxLen"], apart := false, narrowed := true }
def FnExactCheckGivenUptoSaid : Prop := fnExactCheckGivenUptoRow.holds Tryz.pinned (OpenSpec.upto fnExactCheckGivenSpec)

/-- 'laws.FnSpecial', WHERE WHAT IT READS IS OF BULK AT MOST 1048576: true; the input reads as it did. -/
def fnSpecialUptoRow : OpenClaim := { program := "ytlljbdepamknoaagreat", sum := "818d409d93f83ac4cf27e1011713bb8cfaf05b4ce3811bf412f3972850e4cc6d", func := "loop.example/instancesearch/laws.FnSpecial", spec := "fnSpecial", inPlace := ["internal/bytealg.IndexByteString", "internal/bytealg.IndexString", "internal/abi.NoEscape", "internal/bytealg.MakeNoZero"], unfollowed := true, recurses := true, named := ["internal/bytealg.MaxLen"], apart := false, narrowed := true }
def FnSpecialUptoSaid : Prop := fnSpecialUptoRow.holds Tryz.pinned (OpenSpec.upto fnSpecialSpec)

/-- 'laws.FnNeedsOf', WHERE WHAT IT READS IS OF BULK AT MOST 1048576: true; the input reads as it did. -/
def fnNeedsOfUptoRow : OpenClaim := { program := "ytlljbdepamknoaagreat", sum := "818d409d93f83ac4cf27e1011713bb8cfaf05b4ce3811bf412f3972850e4cc6d", func := "loop.example/instancesearch/laws.FnNeedsOf", spec := "fnNeedsOf", inPlace := ["internal/bytealg.IndexByteString", "internal/bytealg.IndexString", "internal/abi.NoEscape", "internal/bytealg.MakeNoZero"], unfollowed := true, recurses := true, named := ["internal/bytealg.MaxLen"], apart := false, narrowed := true }
def FnNeedsOfUptoSaid : Prop := fnNeedsOfUptoRow.holds Tryz.pinned (OpenSpec.upto fnNeedsOfSpec)

end Rows
end Go.Proofs.YtlljbdepamknoaaGreat
