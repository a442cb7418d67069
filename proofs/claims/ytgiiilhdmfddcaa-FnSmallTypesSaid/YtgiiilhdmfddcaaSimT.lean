/- Contracts of Go's library, told over abstract values. -/
import Derived.Test.YtgiiilhdmfddcaaSimS
import Derived.Lib.Join
set_option linter.unusedVariables false
set_option linter.all false
set_option linter.unusedSimpArgs false
namespace Go.Sim
open Go Go.RowKit

theorem inter_map {α β : Type} (f : α → β) (sep : List α) : ∀ l : List (List α), (sep.map f).intercalate (l.map (List.map f)) = (sep.intercalate l).map f
  | [] => rfl
  | [x] => by simp [List.intercalate]
  | x :: y :: l => by
    have := inter_map f sep (y :: l)
    simp only [List.intercalate, List.map_cons, List.intersperse_cons_cons, List.flatten_cons, List.map_append] at this ⊢
    rw [this]
theorem add_plain (b o j : Nat) : (⟨b, o, none⟩ : Addr).add j = ⟨b, o + j, none⟩ := by unfold Addr.add; split <;> simp_all
theorem bytesOf_mk (l : List UInt8) : bytesOf ⟨l.toArray⟩ = l.map UInt8.toNat := by simp [bytesOf]

section
variable {P : Program} {base : Nat} {w0 : World} {μ : List Pl} {h : AHeap} {w : World}
/-- Strings in a row. -/
theorem VRs.strs : ∀ {l : List (List Nat)} {ys : List Value}, VRs μ (Sim.strs l) ys → ∃ xs : List ByteArray, ys = xs.map .string ∧ xs.map bytesOf = l
  | [], _, .nil => ⟨[], rfl, rfl⟩
  | s :: l, _, .cons a b => by
    obtain ⟨xs, rfl, hx⟩ := VRs.strs b
    cases a with
    | str s => exact ⟨s :: xs, rfl, by simp [hx]⟩

/-- strings.Join. -/
theorem SCall.join {n : FuncId} (able : ∃ fn, P.funcs[n]? = some fn ∧ fn.body.isSome = true ∧ (fn.name == "runtime.NumGoroutine") = false)
    (hnone : ∀ (a : Option Addr) (c : Nat) (sep : ByteArray) (w : World), Calls P n #[.slice a 0 c, .string sep] w fun e w' => e = .returned (.string ⟨#[]⟩) ∧ w' = w)
    (hsome : ∀ (bk o c : Nat) (xs : List ByteArray) (sep : ByteArray) (w : World), (∀ (j : Nat) x, xs[j]? = some x → w.cell? ⟨bk, o + j, none⟩ = some (.string x)) → bk < w.heap.size → xs.length ≤ 140737488355328 → xs.length ≤ c →
      (Lib.join (xs.map (·.data.toList)) sep.data.toList).length ≤ 140737488355328 →
      Calls P n #[.slice (some ⟨bk, o, none⟩) xs.length c, .string sep] w fun e w' => e = .returned (.string ⟨(Lib.join (xs.map (·.data.toList)) sep.data.toList).toArray⟩) ∧ Below w.heap.size w w')
    {a : Pt} {m c : Nat} {ex : Bool} {l : List (List Nat)} {sep : List Nat} (r : Row h.length h a m (strs l)) (hm : m ≤ 140737488355328) (hl : (sep.intercalate l).length ≤ 140737488355328) :
    SCall P n [.slice a m c ex, .str sep] h fun v h' => v = .str (sep.intercalate l) ∧ h' = h := by
  refine ⟨able, fun base w0 μ w xs rel hx => ?_⟩
  have hll : l.length = m := by simpa using r.1
  match xs, hx with
  | ⟨[x1, x2]⟩, .cons h1 (.cons h2 .nil) =>
    obtain ⟨_, am, capm, rfl, hrow⟩ := rowOf_ok rel h1 r.rowOf
    cases h2 with
    | str sb =>
    rcases hrow with h0 | ⟨ad, rfl, ys, hys, hcell⟩
    · subst h0
      have : l = [] := List.eq_nil_of_length_eq_zero hll
      subst this
      refine (hnone am capm sb w).mono ?_
      rintro e w' ⟨rfl, rfl⟩
      exact ⟨_, μ, .str [], h, rfl, Ext.refl _, rel, (by have := VR.str (μ := μ) ⟨#[]⟩; simpa [bytesOf] using this), rfl, rfl⟩
    · obtain ⟨bs, rfl, hbs⟩ := hys.strs
      by_cases h0 : m = 0
      · subst h0
        have : l = [] := List.eq_nil_of_length_eq_zero hll
        subst this
        refine (hnone (some ad) capm sb w).mono ?_
        rintro e w' ⟨rfl, rfl⟩
        exact ⟨_, μ, .str [], h, rfl, Ext.refl _, rel, (by have := VR.str (μ := μ) ⟨#[]⟩; simpa [bytesOf] using this), rfl, rfl⟩
      · have hbl : bs.length = m := by rw [← hll, ← hbs]; simp
        have hc0 := hcell 0 (.string (bs[0]'(by omega))) (by rw [List.getElem?_map, List.getElem?_eq_getElem (by omega)]; rfl)
        have hsp : ad.spot = none ∧ ad.block < w.heap.size := by
          have : ad.add 0 = ad := by simp [Addr.add]
          rw [this] at hc0
          unfold World.cell? at hc0
          split at hc0
          · rename_i C el fr hb
            split at hc0
            · cases hc0
            · rename_i hsp
              exact ⟨by simpa using hsp, (Array.getElem?_eq_some_iff.1 hb).1⟩
          · cases hc0
        have had : ad = ⟨ad.block, ad.off, none⟩ := by rw [← hsp.1]
        have hcap : m ≤ capm := by cases h1 <;> omega
        have hjoin : (Lib.join (bs.map (·.data.toList)) sb.data.toList).map UInt8.toNat = (bytesOf sb).intercalate l := by
          unfold Lib.join
          rw [← inter_map]
          congr 1
          rw [← hbs]; simp [bytesOf]
        have hjl : (Lib.join (bs.map (·.data.toList)) sb.data.toList).length ≤ 140737488355328 := by
          have := congrArg List.length hjoin
          rw [List.length_map] at this
          omega
        have key := hsome ad.block ad.off capm bs sb w (fun j x hj => by
          have := hcell j (.string x) (by rw [List.getElem?_map, hj]; rfl)
          rw [had] at this
          rwa [add_plain] at this) hsp.2 (by omega) (by omega) hjl
        rw [hbl, ← had] at key
        refine key.mono ?_
        rintro e w' ⟨rfl, hb⟩
        refine ⟨_, μ, .str ((bytesOf sb).intercalate l), h, rfl, Ext.refl _, rel.grow hb, ?_, rfl, rfl⟩
        have := VR.str (μ := μ) ⟨(Lib.join (bs.map (·.data.toList)) sb.data.toList).toArray⟩
        rw [bytesOf_mk, hjoin] at this
        exact this
end
end Go.Sim
