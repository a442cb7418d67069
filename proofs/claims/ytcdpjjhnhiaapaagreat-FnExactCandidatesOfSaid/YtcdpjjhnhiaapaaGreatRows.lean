/-
  No cell of these rows narrows 'for every input' (looked for: loops, veiled, ifaces, maps, wideKeys, modest, calm, conditions, laid).
  DERIVED. THE GIVEN ROWS OF THIS SEAT. 5 by the template 'for every input the law returns true; each argument reads behind the call as it read before'; 0 by the template 'total and deterministic' (their statements: YtcdpjjhnhiaapaaGreatTotals.lean).
  GIVEN WITH THE SEED: the statements are not yours to turn. If you find one false, say at which input.
  Laid BY PROGRAM, IN A SANDBOX (cutbox-rows.mjs): the forced cells as the released guide's own fill.sh prints them over the translation 2cb6512e0cf9f426… (all of the seat's roots in one cut). By AI agents, Wed Nov 11 2026. No macro, syntax, notation, axiom, sorry.
-/
import Derived.Test.YtcdpjjhnhiaapaaGreatChecked
import GoSem.Claim
import GoSem.ClaimJoined
import GoSem.ClaimMapViews
import Derived.JoinedTies
import Derived.KernelRfl
namespace Go.Proofs.YtcdpjjhnhiaapaaGreat
/- THE CELL 'sum', in the pinned program and in every row, IS THE sha256 OF THE DUMP (.gsa) THAT YtcdpjjhnhiaapaaGreatProg.lean LOADS. Nothing in Lean hashes anything: it is a label: what it is worth is what the hold of that sum in a sandbox is worth. -/
noncomputable def Tryz.pinned : Pinned := { name := "ytcdpjjhnhiaapaagreat", sum := "2cb6512e0cf9f4265a574ac2f1d1777808786e6bd21c1d908663e65a3e247775", checked := Tryz.checked }
namespace Rows
def none {H : Type} : Left H := { results := [], args := [] }

/-- 'laws.FnExactIsSpecial': WHATEVER THE INPUT: true; the input reads as it did. -/
def fnExactIsSpecialSpec : ChangeSpec := { name := "fnExactIsSpecial", fn := fun _ => fun
  | [d1, d2, d3] => { results := [.lit (.bool true)], args := [d1, d2, d3] }
  | _ => none }
def fnExactIsSpecialRow : OpenClaim := { program := "ytcdpjjhnhiaapaagreat", sum := "2cb6512e0cf9f4265a574ac2f1d1777808786e6bd21c1d908663e65a3e247775", func := "loop.example/instancesearch/laws.FnExactIsSpecial", spec := "fnExactIsSpecial", inPlace := ["internal/bytealg.IndexByteString", "internal/bytealg.IndexString", "internal/abi.NoEscape", "internal/bytealg.MakeNoZero"], unfollowed := true, recurses := true, named := ["internal/bytealg.MaxLen"], apart := false }
def FnExactIsSpecialSaid : Prop := fnExactIsSpecialRow.holds Tryz.pinned (OpenSpec.ofChange fnExactIsSpecialSpec)

/-- ITS FALSE NEIGHBOUR: 'it returns false'. Refute it at one input. -/
def fnExactIsSpecialWrong : ChangeSpec := { name := "fnExactIsSpecial", fn := fun _ => fun
  | [d1, d2, d3] => { results := [.lit (.bool false)], args := [d1, d2, d3] }
  | _ => none }
def FnExactIsSpecialWrongFalsely : Prop := fnExactIsSpecialRow.holds Tryz.pinned (OpenSpec.ofChange fnExactIsSpecialWrong)

/-- 'laws.FnSpecial': WHATEVER THE INPUT: true; the input reads as it did. -/
def fnSpecialSpec : ChangeSpec := { name := "fnSpecial", fn := fun _ => fun
  | [d] => { results := [.lit (.bool true)], args := [d] }
  | _ => none }
def fnSpecialRow : OpenClaim := { program := "ytcdpjjhnhiaapaagreat", sum := "2cb6512e0cf9f4265a574ac2f1d1777808786e6bd21c1d908663e65a3e247775", func := "loop.example/instancesearch/laws.FnSpecial", spec := "fnSpecial", inPlace := ["internal/bytealg.IndexByteString", "internal/bytealg.IndexString", "internal/abi.NoEscape", "internal/bytealg.MakeNoZero"], unfollowed := true, recurses := true, named := ["internal/bytealg.MaxLen"], apart := false }
def FnSpecialSaid : Prop := fnSpecialRow.holds Tryz.pinned (OpenSpec.ofChange fnSpecialSpec)

/-- ITS FALSE NEIGHBOUR: 'it returns false'. Refute it at one input. -/
def fnSpecialWrong : ChangeSpec := { name := "fnSpecial", fn := fun _ => fun
  | [d] => { results := [.lit (.bool false)], args := [d] }
  | _ => none }
def FnSpecialWrongFalsely : Prop := fnSpecialRow.holds Tryz.pinned (OpenSpec.ofChange fnSpecialWrong)

/-- 'laws.FnExactMostSpecial': WHATEVER THE INPUT: true; the input reads as it did. -/
def fnExactMostSpecialSpec : ChangeSpec := { name := "fnExactMostSpecial", fn := fun _ => fun
  | [d1, d2] => { results := [.lit (.bool true)], args := [d1, d2] }
  | _ => none }
def fnExactMostSpecialRow : OpenClaim := { program := "ytcdpjjhnhiaapaagreat", sum := "2cb6512e0cf9f4265a574ac2f1d1777808786e6bd21c1d908663e65a3e247775", func := "loop.example/instancesearch/laws.FnExactMostSpecial", spec := "fnExactMostSpecial", inPlace := ["internal/bytealg.IndexByteString", "internal/bytealg.IndexString", "internal/abi.NoEscape", "internal/bytealg.MakeNoZero"], unfollowed := true, recurses := true, named := ["internal/bytealg.MaxLen"], apart := false }
def FnExactMostSpecialSaid : Prop := fnExactMostSpecialRow.holds Tryz.pinned (OpenSpec.ofChange fnExactMostSpecialSpec)

/-- ITS FALSE NEIGHBOUR: 'it returns false'. Refute it at one input. -/
def fnExactMostSpecialWrong : ChangeSpec := { name := "fnExactMostSpecial", fn := fun _ => fun
  | [d1, d2] => { results := [.lit (.bool false)], args := [d1, d2] }
  | _ => none }
def FnExactMostSpecialWrongFalsely : Prop := fnExactMostSpecialRow.holds Tryz.pinned (OpenSpec.ofChange fnExactMostSpecialWrong)

/-- 'laws.FnExactCandidatesOf': WHATEVER THE INPUT: true; the input reads as it did. -/
def fnExactCandidatesOfSpec : ChangeSpec := { name := "fnExactCandidatesOf", fn := fun _ => fun
  | [d1, d2] => { results := [.lit (.bool true)], args := [d1, d2] }
  | _ => none }
def fnExactCandidatesOfRow : OpenClaim := { program := "ytcdpjjhnhiaapaagreat", sum := "2cb6512e0cf9f4265a574ac2f1d1777808786e6bd21c1d908663e65a3e247775", func := "loop.example/instancesearch/laws.FnExactCandidatesOf", spec := "fnExactCandidatesOf", inPlace := ["internal/bytealg.IndexByteString", "internal/bytealg.IndexString", "internal/abi.NoEscape", "internal/bytealg.MakeNoZero"], unfollowed := true, recurses := true, named := ["internal/bytealg.MaxLen"], apart := false }
def FnExactCandidatesOfSaid : Prop := fnExactCandidatesOfRow.holds Tryz.pinned (OpenSpec.ofChange fnExactCandidatesOfSpec)

/-- ITS FALSE NEIGHBOUR: 'it returns false'. Refute it at one input. -/
def fnExactCandidatesOfWrong : ChangeSpec := { name := "fnExactCandidatesOf", fn := fun _ => fun
  | [d1, d2] => { results := [.lit (.bool false)], args := [d1, d2] }
  | _ => none }
def FnExactCandidatesOfWrongFalsely : Prop := fnExactCandidatesOfRow.holds Tryz.pinned (OpenSpec.ofChange fnExactCandidatesOfWrong)

/-- 'laws.FnNeedsOf': WHATEVER THE INPUT: true; the input reads as it did. -/
def fnNeedsOfSpec : ChangeSpec := { name := "fnNeedsOf", fn := fun _ => fun
  | [d] => { results := [.lit (.bool true)], args := [d] }
  | _ => none }
def fnNeedsOfRow : OpenClaim := { program := "ytcdpjjhnhiaapaagreat", sum := "2cb6512e0cf9f4265a574ac2f1d1777808786e6bd21c1d908663e65a3e247775", func := "loop.example/instancesearch/laws.FnNeedsOf", spec := "fnNeedsOf", inPlace := ["internal/bytealg.IndexByteString", "internal/bytealg.IndexString", "internal/abi.NoEscape", "internal/bytealg.MakeNoZero"], unfollowed := true, recurses := true, named := ["internal/bytealg.MaxLen"], apart := false }
def FnNeedsOfSaid : Prop := fnNeedsOfRow.holds Tryz.pinned (OpenSpec.ofChange fnNeedsOfSpec)

/-- ITS FALSE NEIGHBOUR: 'it returns false'. Refute it at one input. -/
def fnNeedsOfWrong : ChangeSpec := { name := "fnNeedsOf", fn := fun _ => fun
  | [d] => { results := [.lit (.bool false)], args := [d] }
  | _ => none }
def FnNeedsOfWrongFalsely : Prop := fnNeedsOfRow.holds Tryz.pinned (OpenSpec.ofChange fnNeedsOfWrong)

/- THE SECOND FORM. 'bulk': how many values and letters a reading holds, each counted each time it is reached (what is shared counts as often as it is met; a slice's spare places count too). A statement '..UptoSaid' is the law's where the arguments, and the package variables that the reading takes, are together of bulk at most 1048576: NARROWER than '..Said'. Prove '..Said' where nothing that the law and all that it calls make is longer than what came in: it says more and counts as full. Else prove '..UptoSaid'. A law counts once. -/
mutual
def uptoBulk {H : Type} : DataW H → Nat
  | .lit (.string bytes) => bytes.length + 1
  | .lit _ => 1
  | .nil => 1
  | .ptr d => uptoBulk d + 1
  | .slice elems spare => uptoBulkAll elems + uptoBulkAll spare + 1
  | .agg parts => uptoBulkAll parts + 1
  | .iface _ d => uptoBulk d + 1
  | .map entries => uptoBulkEntries entries + 1
  | .held _ => 1
def uptoBulkAll {H : Type} : List (DataW H) → Nat
  | [] => 0
  | d :: r => uptoBulk d + uptoBulkAll r
def uptoBulkEntries {H : Type} : List (Lit × DataW H) → Nat
  | [] => 0
  | x :: r => uptoBulkEntry x + uptoBulkEntries r
def uptoBulkEntry {H : Type} : Lit × DataW H → Nat
  | (.string bytes, d) => bytes.length + uptoBulk d + 1
  | (_, d) => uptoBulk d + 1
 end
def uptoSmall : (H : Type) → List (DataW H) → Bool := fun _ ds => decide (uptoBulkAll ds ≤ 1048576)
def OpenSpec.upto (s : _root_.Go.ChangeSpec) : _root_.Go.OpenSpec := { _root_.Go.OpenSpec.ofChange s with cond := some uptoSmall }

/-- 'laws.FnExactIsSpecial', WHERE WHAT IT READS IS OF BULK AT MOST 1048576: true; the input reads as it did. -/
def fnExactIsSpecialUptoRow : OpenClaim := { program := "ytcdpjjhnhiaapaagreat", sum := "2cb6512e0cf9f4265a574ac2f1d1777808786e6bd21c1d908663e65a3e247775", func := "loop.example/instancesearch/laws.FnExactIsSpecial", spec := "fnExactIsSpecial", inPlace := ["internal/bytealg.IndexByteString", "internal/bytealg.IndexString", "internal/abi.NoEscape", "internal/bytealg.MakeNoZero"], unfollowed := true, recurses := true, named := ["internal/bytealg.MaxLen"], apart := false, narrowed := true }
def FnExactIsSpecialUptoSaid : Prop := fnExactIsSpecialUptoRow.holds Tryz.pinned (OpenSpec.upto fnExactIsSpecialSpec)

/-- 'laws.FnSpecial', WHERE WHAT IT READS IS OF BULK AT MOST 1048576: true; the input reads as it did. -/
def fnSpecialUptoRow : OpenClaim := { program := "ytcdpjjhnhiaapaagreat", sum := "2cb6512e0cf9f4265a574ac2f1d1777808786e6bd21c1d908663e65a3e247775", func := "loop.example/instancesearch/laws.FnSpecial", spec := "fnSpecial", inPlace := ["internal/bytealg.IndexByteString", "internal/bytealg.IndexString", "internal/abi.NoEscape", "internal/bytealg.MakeNoZero"], unfollowed := true, recurses := true, named := ["internal/bytealg.MaxLen"], apart := false, narrowed := true }
def FnSpecialUptoSaid : Prop := fnSpecialUptoRow.holds Tryz.pinned (OpenSpec.upto fnSpecialSpec)

/-- 'laws.FnExactMostSpecial', WHERE WHAT IT READS IS OF BULK AT MOST 1048576: true; the input reads as it did. -/
def fnExactMostSpecialUptoRow : OpenClaim := { program := "ytcdpjjhnhiaapaagreat", sum := "2cb6512e0cf9f4265a574ac2f1d1777808786e6bd21c1d908663e65a3e247775", func := "loop.example/instancesearch/laws.FnExactMostSpecial", spec := "fnExactMostSpecial", inPlace := ["internal/bytealg.IndexByteString", "internal/bytealg.IndexString", "internal/abi.NoEscape", "internal/bytealg.MakeNoZero"], unfollowed := true, recurses := true, named := ["internal/bytealg.MaxLen"], apart := false, narrowed := true }
def FnExactMostSpecialUptoSaid : Prop := fnExactMostSpecialUptoRow.holds Tryz.pinned (OpenSpec.upto fnExactMostSpecialSpec)

/-- 'laws.FnExactCandidatesOf', WHERE WHAT IT READS IS OF BULK AT MOST 1048576: true; the input reads as it did. -/
def fnExactCandidatesOfUptoRow : OpenClaim := { program := "ytcdpjjhnhiaapaagreat", sum := "2cb6512e0cf9f4265a574ac2f1d1777808786e6bd21c1d908663e65a3e247775", func := "loop.example/instancesearch/laws.FnExactCandidatesOf", spec := "fnExactCandidatesOf", inPlace := ["internal/bytealg.IndexByteString", "internal/bytealg.IndexString", "internal/abi.NoEscape", "internal/bytealg.MakeNoZero"], unfollowed := true, recurses := true, named := ["internal/bytealg.MaxLen"], apart := false, narrowed := true }
def FnExactCandidatesOfUptoSaid : Prop := fnExactCandidatesOfUptoRow.holds Tryz.pinned (OpenSpec.upto fnExactCandidatesOfSpec)

/-- 'laws.FnNeedsOf', WHERE WHAT IT READS IS OF BULK AT MOST 1048576: true; the input reads as it did. -/
def fnNeedsOfUptoRow : OpenClaim := { program := "ytcdpjjhnhiaapaagreat", sum := "2cb6512e0cf9f4265a574ac2f1d1777808786e6bd21c1d908663e65a3e247775", func := "loop.example/instancesearch/laws.FnNeedsOf", spec := "fnNeedsOf", inPlace := ["internal/bytealg.IndexByteString", "internal/bytealg.IndexString", "internal/abi.NoEscape", "internal/bytealg.MakeNoZero"], unfollowed := true, recurses := true, named := ["internal/bytealg.MaxLen"], apart := false, narrowed := true }
def FnNeedsOfUptoSaid : Prop := fnNeedsOfUptoRow.holds Tryz.pinned (OpenSpec.upto fnNeedsOfSpec)

end Rows
end Go.Proofs.YtcdpjjhnhiaapaaGreat
