/- A part of the proof of a statement of this seat: see the text that holds the theorem. No condition. -/
import Derived.Test.YtgiiilhdmfddcaaNm
import Derived.Test.YtgiiilhdmfddcaaSimW
import Derived.Test.YtgiiilhdmfddcaaShelf
set_option linter.unusedSimpArgs false
set_option linter.all false
set_option linter.unusedVariables false
namespace Go.Sim
open Go Go.RowKit
theorem lib_join {h : AHeap} {a : Pt} {n c : Nat} {e : Bool} {l : List (List Nat)} {sep : List Nat} (r : Row h.length h a n (strs l)) (hn : n ≤ 140737488355328) (hl : (sep.intercalate l).length ≤ 140737488355328) :
    SCall pg n_strings_Join [.slice a n c e, .str sep] h fun v h' => v = .str (sep.intercalate l) ∧ h' = h :=
  SCall.join ⟨_, Go.Proofs.Try.func31, by kernel_rfl, by kernel_rfl⟩ Go.Proofs.Try.strings_Join_none Go.Proofs.Try.strings_Join r hn hl
theorem lib_contains {h : AHeap} {s : List Nat} {c : Nat} : SCall pg n_strings_Contains [.str s, .str [c]] h fun v h' => v = .bool (decide (c ∈ s)) ∧ h' = h :=
  SCall.contains1 ⟨_, Go.Proofs.Try.func55, by kernel_rfl, by kernel_rfl⟩ Go.Proofs.Try.strings_Contains_one
theorem lib_index {h : AHeap} {s : List Nat} {c : Nat} : SCall pg n_strings_Index [.str s, .str [c]] h fun v h' => v = .int .i64 (idxN s c) ∧ h' = h :=
  SCall.index1 ⟨_, Go.Proofs.Try.func51, by kernel_rfl, by kernel_rfl⟩ Go.Proofs.Try.strings_Index_one
theorem lib_lindex {h : AHeap} {s : List Nat} {c : Nat} : SCall pg n_internal_stringslite_Index [.str s, .str [c]] h fun v h' => v = .int .i64 (idxN s c) ∧ h' = h :=
  SCall.index1 ⟨_, Go.Proofs.Try.func56, by kernel_rfl, by kernel_rfl⟩ Go.Proofs.Try.stringslite_Index_one
theorem lib_count {h : AHeap} {s : List Nat} {c : Nat} : SCall pg n_strings_Count [.str s, .str [c]] h fun v h' => v = .int .i64 (s.count c : Nat) ∧ h' = h :=
  SCall.count1 ⟨_, Go.Proofs.Try.func41, by kernel_rfl, by kernel_rfl⟩ Go.Proofs.Try.strings_Count_one
theorem lib_hasPrefix {h : AHeap} {s p : List Nat} : SCall pg n_strings_HasPrefix [.str s, .str p] h fun v h' => v = .bool (p.isPrefixOf s) ∧ h' = h :=
  SCall.hasPrefix ⟨_, Go.Proofs.Try.func60, by kernel_rfl, by kernel_rfl⟩ Go.Proofs.Try.strings_HasPrefix
end Go.Sim
