/- Contracts of Go's library on strings, told over abstract values. -/
import Derived.Test.YtgiiilhdmfddcaaSimU
import Derived.Lib.Bytealg
import Derived.Lib.Strings
import Derived.Lib.ItoaNum
import Derived.Lib.LaidTab
import Derived.Sort.Grow
import Derived.Deep.Draws
set_option linter.unusedVariables false
set_option linter.all false
set_option linter.unusedSimpArgs false
namespace Go.Sim
open Go Go.RowKit

/-- The first place of a byte, or -1. -/
def idxN : List Nat → Nat → Int
  | [], _ => -1
  | b :: l, c => if b == c then 0 else if idxN l c == -1 then -1 else idxN l c + 1
theorem idxN_ge (l : List Nat) (c : Nat) : -1 ≤ idxN l c := by
  induction l with
  | nil => simp [idxN]
  | cons b l ih => simp only [idxN]; split <;> try split
                   all_goals omega
theorem idxN_lt (l : List Nat) (c : Nat) : idxN l c < l.length := by
  induction l with
  | nil => simp [idxN]
  | cons b l ih => simp only [idxN, List.length_cons]; split <;> try split
                   all_goals omega
theorem idxN_mem (l : List Nat) (c : Nat) : 0 ≤ idxN l c ↔ c ∈ l := by
  induction l with
  | nil => simp [idxN]
  | cons b l ih =>
    have := idxN_ge l c
    simp only [idxN, List.mem_cons]
    by_cases hb : b = c
    · simp [hb]
    · have hb' : c ≠ b := fun e => hb e.symm
      simp only [beq_iff_eq, hb, hb', if_false, false_or]
      rw [← ih]
      by_cases h1 : idxN l c = -1
      · simp [h1]
      · simp only [h1, if_false]; omega
theorem idxN_neg (l : List Nat) (c : Nat) : idxN l c < 0 ↔ c ∉ l := by rw [← idxN_mem]; omega
theorem idxN_spec {l : List Nat} {c : Nat} {k : Nat} (h : idxN l c = k) : l = l.take k ++ c :: l.drop (k + 1) ∧ c ∉ l.take k := by
  induction l generalizing k with
  | nil => simp [idxN] at h
  | cons b l ih =>
    simp only [idxN] at h
    by_cases hb : b = c
    · simp [hb] at h
      have : k = 0 := by omega
      subst this; simp [hb]
    · simp only [beq_iff_eq, hb, if_false] at h
      by_cases h1 : idxN l c = -1
      · simp [h1] at h
      · simp only [h1, if_false] at h
        have := idxN_ge l c
        obtain ⟨j, rfl⟩ : ∃ j, k = j + 1 := ⟨k - 1, by omega⟩
        have := ih (k := j) (by omega)
        simp only [List.take_succ_cons, List.drop_succ_cons, List.cons_append, List.cons.injEq, true_and, List.mem_cons, not_or]
        exact ⟨this.1, fun e => hb e.symm, this.2⟩
theorem indexByte_idxN (l : List UInt8) (c : UInt8) : Lib.indexByte l c = idxN (l.map UInt8.toNat) c.toNat := by
  induction l with
  | nil => rfl
  | cons b l ih =>
    simp only [Lib.indexByte, idxN, List.map_cons, ih]
    have : (b == c) = (b.toNat == c.toNat) := by
      rw [Bool.eq_iff_iff]; simp [UInt8.toNat_inj]
    rw [this]
theorem bytesOf_one {s : ByteArray} {c : Nat} (h : bytesOf s = [c]) : ∃ b : UInt8, s = ⟨#[b]⟩ ∧ b.toNat = c := by
  obtain ⟨⟨l⟩⟩ := s
  simp [bytesOf] at h
  match l, h with
  | [b], h => simp at h; exact ⟨b, rfl, h⟩
theorem isPrefixOf_map : ∀ (p s : List UInt8), (p.map UInt8.toNat).isPrefixOf (s.map UInt8.toNat) = p.isPrefixOf s
  | [], _ => by simp
  | a :: p, [] => by simp
  | a :: p, b :: s => by
    simp only [List.map_cons, List.isPrefixOf_cons₂, isPrefixOf_map p s]
    congr 1
    rw [Bool.eq_iff_iff]; simp [UInt8.toNat_inj]
theorem count_map : ∀ (s : List UInt8) (c : UInt8), (s.map UInt8.toNat).count c.toNat = s.count c
  | [], _ => by simp
  | a :: s, c => by
    simp only [List.map_cons, List.count_cons, count_map s c]
    congr 1
    simp [UInt8.toNat_inj]

section
variable {P : Program} {h : AHeap}
/-- A call whose result is known, with no change of what there is. -/
theorem SCall.plain {n : FuncId} {args : List AVal} (v0 : AVal) (able : ∃ fn, P.funcs[n]? = some fn ∧ fn.body.isSome = true ∧ (fn.name == "runtime.NumGoroutine") = false)
    (hc : ∀ (μ : List Pl) (xs : Array Value) (w : World), VRs μ args xs.toList → Calls P n xs w fun e w' => ∃ x, e = .returned x ∧ Below w.heap.size w w' ∧ VR μ v0 x) :
    SCall P n args h fun v h' => v = v0 ∧ h' = h := by
  refine ⟨able, fun base w0 μ w xs rel hx => (hc μ xs w hx).mono ?_⟩
  rintro e w' ⟨x, rfl, hb, hv⟩
  exact ⟨x, μ, v0, h, rfl, Ext.refl _, rel.grow hb, hv, rfl, rfl⟩
theorem SCall.contains1 {n : FuncId} (able : ∃ fn, P.funcs[n]? = some fn ∧ fn.body.isSome = true ∧ (fn.name == "runtime.NumGoroutine") = false)
    (hc : ∀ (s : ByteArray) (c : UInt8) (w : World), Calls P n #[.string s, .string ⟨#[c]⟩] w fun e w' => e = .returned (.bool (decide (0 ≤ Lib.indexByte s.data.toList c))) ∧ w' = w) {s : List Nat} {c : Nat} :
    SCall P n [.str s, .str [c]] h fun v h' => v = .bool (decide (c ∈ s)) ∧ h' = h := by
  refine SCall.plain _ able fun μ xs w hx => ?_
  match xs, hx with
  | ⟨[x1, x2]⟩, .cons h1 (.cons h2 .nil) =>
    cases h1 with
    | str s =>
    generalize ht : [c] = t at h2
    cases h2 with
    | str t =>
    obtain ⟨b, rfl, rfl⟩ := bytesOf_one ht.symm
    refine (hc s b w).mono ?_
    rintro e w' ⟨rfl, rfl⟩
    refine ⟨_, rfl, Below.refl _ _, ?_⟩
    rw [indexByte_idxN]
    have : decide (0 ≤ idxN (s.data.toList.map UInt8.toNat) b.toNat) = decide (b.toNat ∈ bytesOf s) := by
      rw [decide_eq_decide]; exact idxN_mem _ _
    rw [this]; exact .bool _
theorem SCall.index1 {n : FuncId} (able : ∃ fn, P.funcs[n]? = some fn ∧ fn.body.isSome = true ∧ (fn.name == "runtime.NumGoroutine") = false)
    (hc : ∀ (s : ByteArray) (c : UInt8) (w : World), Calls P n #[.string s, .string ⟨#[c]⟩] w fun e w' => e = .returned (.int .i64 (Lib.indexByte s.data.toList c)) ∧ w' = w) {s : List Nat} {c : Nat} :
    SCall P n [.str s, .str [c]] h fun v h' => v = .int .i64 (idxN s c) ∧ h' = h := by
  refine SCall.plain _ able fun μ xs w hx => ?_
  match xs, hx with
  | ⟨[x1, x2]⟩, .cons h1 (.cons h2 .nil) =>
    cases h1 with
    | str s =>
    generalize ht : [c] = t at h2
    cases h2 with
    | str t =>
    obtain ⟨b, rfl, rfl⟩ := bytesOf_one ht.symm
    refine (hc s b w).mono ?_
    rintro e w' ⟨rfl, rfl⟩
    refine ⟨_, rfl, Below.refl _ _, ?_⟩
    rw [indexByte_idxN]; exact .int _ _
theorem SCall.count1 {n : FuncId} (able : ∃ fn, P.funcs[n]? = some fn ∧ fn.body.isSome = true ∧ (fn.name == "runtime.NumGoroutine") = false)
    (hc : ∀ (s : ByteArray) (c : UInt8) (w : World), Calls P n #[.string s, .string ⟨#[c]⟩] w fun e w' => e = .returned (.int .i64 (Lib.countByte s.data.toList c)) ∧ w' = w) {s : List Nat} {c : Nat} :
    SCall P n [.str s, .str [c]] h fun v h' => v = .int .i64 (s.count c : Nat) ∧ h' = h := by
  refine SCall.plain _ able fun μ xs w hx => ?_
  match xs, hx with
  | ⟨[x1, x2]⟩, .cons h1 (.cons h2 .nil) =>
    cases h1 with
    | str s =>
    generalize ht : [c] = t at h2
    cases h2 with
    | str t =>
    obtain ⟨b, rfl, rfl⟩ := bytesOf_one ht.symm
    refine (hc s b w).mono ?_
    rintro e w' ⟨rfl, rfl⟩
    refine ⟨_, rfl, Below.refl _ _, ?_⟩
    have : Lib.countByte s.data.toList b = (bytesOf s).count b.toNat := by unfold Lib.countByte bytesOf; rw [count_map]
    rw [this]; exact .int _ _
theorem SCall.hasPrefix {n : FuncId} (able : ∃ fn, P.funcs[n]? = some fn ∧ fn.body.isSome = true ∧ (fn.name == "runtime.NumGoroutine") = false)
    (hc : ∀ (s p : ByteArray) (w : World), Calls P n #[.string s, .string p] w fun e w' => e = .returned (.bool (Lib.hasPrefix s.data.toList p.data.toList)) ∧ w' = w) {s p : List Nat} :
    SCall P n [.str s, .str p] h fun v h' => v = .bool (p.isPrefixOf s) ∧ h' = h := by
  refine SCall.plain _ able fun μ xs w hx => ?_
  match xs, hx with
  | ⟨[x1, x2]⟩, .cons h1 (.cons h2 .nil) =>
    cases h1 with
    | str s =>
    cases h2 with
    | str t =>
    refine (hc s t w).mono ?_
    rintro e w' ⟨rfl, rfl⟩
    refine ⟨_, rfl, Below.refl _ _, ?_⟩
    have : Lib.hasPrefix s.data.toList t.data.toList = (bytesOf t).isPrefixOf (bytesOf s) := by unfold Lib.hasPrefix bytesOf; rw [isPrefixOf_map]
    rw [this]; exact .bool _
/-- Decimal digits. -/
def decN (u : Nat) : List Nat := (Lib.decDigits u).map UInt8.toNat
def itoaN (n : Int) : List Nat := (Lib.itoa n).map UInt8.toNat
theorem SCall.itoaSmall {n : FuncId} (able : ∃ fn, P.funcs[n]? = some fn ∧ fn.body.isSome = true ∧ (fn.name == "runtime.NumGoroutine") = false)
    (hc : ∀ (i : Nat), i < 100 → ∀ (w : World), Calls P n #[.int .i64 i] w fun e w' => e = .returned (.string ⟨(Lib.decDigits i).toArray⟩) ∧ w' = w) {i : Nat} (hi : i < 100) :
    SCall P n [.int .i64 i] h fun v h' => v = .str (decN i) ∧ h' = h := by
  refine SCall.plain _ able fun μ xs w hx => ?_
  match xs, hx with
  | ⟨[x1]⟩, .cons h1 .nil =>
    generalize ht : (i : Int) = z at h1
    cases h1 with
    | int k z =>
    subst ht
    refine (hc i hi w).mono ?_
    rintro e w' ⟨rfl, rfl⟩
    refine ⟨_, rfl, Below.refl _ _, ?_⟩
    have := VR.str (μ := μ) ⟨(Lib.decDigits i).toArray⟩
    rw [bytesOf_mk] at this; exact this
/-- What is known of the world from the start on: a table of Go's library. -/
def tabAmb (P : Program) : AObj := .amb fun base w0 => ∀ w, Below base w0 w → Lib.TabIs P w "internal/strconv.uint64pow10" .u64 Lib.pow10Tab
theorem SCall.itoa {n : FuncId} (able : ∃ fn, P.funcs[n]? = some fn ∧ fn.body.isSome = true ∧ (fn.name == "runtime.NumGoroutine") = false)
    (hc : ∀ (z : Int), -9223372036854775808 ≤ z → z ≤ 9223372036854775807 → ∀ (w : World), Lib.TabIs P w "internal/strconv.uint64pow10" .u64 Lib.pow10Tab → Calls P n #[.int .i64 z] w fun e w' => e = .returned (.string ⟨(Lib.itoa z).toArray⟩) ∧ ∃ k os, w' = Go.Sort.grow (w.drewN k) os)
    {k : Nat} (hk : h[k]? = some (tabAmb P)) {z : Int} (h0 : -9223372036854775808 ≤ z) (h1 : z ≤ 9223372036854775807) :
    SCall P n [.int .i64 z] h fun v h' => v = .str (itoaN z) ∧ h' = h := by
  refine ⟨able, fun base w0 μ w xs rel hx => ?_⟩
  match xs, hx with
  | ⟨[x1]⟩, .cons hx1 .nil =>
    cases hx1
    have hlt : k < μ.length := by rw [rel.len]; exact (List.getElem?_eq_some_iff.1 hk).1
    have ham := rel.obj k _ hk _ (List.getElem?_eq_getElem hlt)
    refine (hc z h0 h1 w (ham w rel.below)).mono ?_
    rintro e w' ⟨rfl, q, os, rfl⟩
    refine ⟨_, μ, .str (itoaN z), h, rfl, Ext.refl _, rel.grow ⟨rfl, rfl, rfl, by simp [Go.Sort.grow, World.drewN], fun j hj => ?_⟩, ?_, rfl, rfl⟩
    · simp only [Go.Sort.grow, World.drewN]
      rw [Array.getElem?_append_left hj]
    · have := VR.str (μ := μ) ⟨(Lib.itoa z).toArray⟩
      rw [bytesOf_mk] at this; exact this
end
end Go.Sim
