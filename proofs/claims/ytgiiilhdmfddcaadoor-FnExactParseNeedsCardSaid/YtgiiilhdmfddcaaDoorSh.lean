/- A part of the proof of a statement of this seat: see the text that holds the theorem. No condition. -/
import Derived.Test.YtgiiilhdmfddcaaDoorNm
import Derived.Test.YtgiiilhdmfddcaaDoorSimW
import Derived.Test.YtgiiilhdmfddcaaDoorShelf
set_option linter.unusedSimpArgs false
set_option linter.all false
set_option linter.unusedVariables false
namespace Go.Sim
open Go Go.RowKit
theorem lib_join {h : AHeap} {a : Pt} {n c : Nat} {e : Bool} {l : List (List Nat)} {sep : List Nat} (r : Row h.length h a n (strs l)) (hn : n ≤ 140737488355328) (hl : (sep.intercalate l).length ≤ 140737488355328) :
    SCall pg n_strings_Join [.slice a n c e, .str sep] h fun v h' => v = .str (sep.intercalate l) ∧ h' = h :=
  SCall.join ⟨_, Go.Proofs.Tryd.func38, by kernel_rfl, by kernel_rfl⟩ Go.Proofs.Tryd.strings_Join_none Go.Proofs.Tryd.strings_Join r hn hl
theorem lib_contains {h : AHeap} {s : List Nat} {c : Nat} : SCall pg n_strings_Contains [.str s, .str [c]] h fun v h' => v = .bool (decide (c ∈ s)) ∧ h' = h :=
  SCall.contains1 ⟨_, Go.Proofs.Tryd.func96, by kernel_rfl, by kernel_rfl⟩ Go.Proofs.Tryd.strings_Contains_one
theorem lib_index {h : AHeap} {s : List Nat} {c : Nat} : SCall pg n_strings_Index [.str s, .str [c]] h fun v h' => v = .int .i64 (idxN s c) ∧ h' = h :=
  SCall.index1 ⟨_, Go.Proofs.Tryd.func62, by kernel_rfl, by kernel_rfl⟩ Go.Proofs.Tryd.strings_Index_one
theorem lib_lindex {h : AHeap} {s : List Nat} {c : Nat} : SCall pg n_internal_stringslite_Index [.str s, .str [c]] h fun v h' => v = .int .i64 (idxN s c) ∧ h' = h :=
  SCall.index1 ⟨_, Go.Proofs.Tryd.func75, by kernel_rfl, by kernel_rfl⟩ Go.Proofs.Tryd.stringslite_Index_one
theorem lib_count {h : AHeap} {s : List Nat} {c : Nat} : SCall pg n_strings_Count [.str s, .str [c]] h fun v h' => v = .int .i64 (s.count c : Nat) ∧ h' = h :=
  SCall.count1 ⟨_, Go.Proofs.Tryd.func61, by kernel_rfl, by kernel_rfl⟩ Go.Proofs.Tryd.strings_Count_one
theorem lib_hasPrefix {h : AHeap} {s p : List Nat} : SCall pg n_strings_HasPrefix [.str s, .str p] h fun v h' => v = .bool (p.isPrefixOf s) ∧ h' = h :=
  SCall.hasPrefix ⟨_, Go.Proofs.Tryd.func90, by kernel_rfl, by kernel_rfl⟩ Go.Proofs.Tryd.strings_HasPrefix
theorem lib_itoaSmall {h : AHeap} {i : Nat} (hi : i < 100) : SCall pg n_strconv_Itoa [.int .i64 i] h fun v h' => v = .str (decN i) ∧ h' = h :=
  SCall.itoaSmall ⟨_, Go.Proofs.Tryd.func29, by kernel_rfl, by kernel_rfl⟩ Go.Proofs.Tryd.strconv_Itoa_small hi
theorem lib_itoa {h : AHeap} {k : Nat} (hk : h[k]? = some (tabAmb pg)) {z : Int} (h0 : -9223372036854775808 ≤ z) (h1 : z ≤ 9223372036854775807) : SCall pg n_strconv_Itoa [.int .i64 z] h fun v h' => v = .str (itoaN z) ∧ h' = h :=
  SCall.itoa ⟨_, Go.Proofs.Tryd.func29, by kernel_rfl, by kernel_rfl⟩ (fun z h0 h1 w ht => Go.Proofs.Tryd.strconv_Itoa z h0 h1 w ht) hk h0 h1
end Go.Sim
