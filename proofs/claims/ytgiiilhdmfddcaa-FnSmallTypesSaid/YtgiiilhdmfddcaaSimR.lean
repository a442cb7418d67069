/- A list that grows: its row moves, all else stays. -/
import Derived.Test.YtgiiilhdmfddcaaSimQ
set_option linter.unusedVariables false
set_option linter.all false
set_option linter.unusedSimpArgs false
namespace Go.Sim
open Go Go.RowKit

/-- Behind a growth of the object i: every other object of before is the same. -/
structure Keep (i : Nat) (h h' : AHeap) : Prop where
  le : h.length ≤ h'.length
  eq : ∀ j, j < h.length → j ≠ i → h'[j]? = h[j]?
theorem Keep.refl (i : Nat) (h : AHeap) : Keep i h h := ⟨Nat.le_refl _, fun _ _ _ => rfl⟩
theorem Keep.same {i b : Nat} {h h' : AHeap} (k : Keep i h h') (hb : b ≤ i) (hl : b ≤ h.length) : Same b h h' := ⟨k.le, fun j hj => k.eq j (by omega) (by omega)⟩
theorem Row.keep {b i : Nat} {h h' : AHeap} {a : Pt} {n : Nat} {cs : List AVal} (r : Row b h a n cs) (ha : n ≠ 0 → ∀ j o, a = some (j, o) → j ≠ i) (k : Keep i h h') : Row b h' a n cs := by
  obtain ⟨hl, r⟩ := r
  by_cases h0 : n = 0
  · exact ⟨hl, .inl h0⟩
  replace ha := ha h0
  refine ⟨hl, r.imp id ?_⟩
  rintro ⟨j, o, t, all, ro, ha', hb, hi, hle, hcs⟩
  exact ⟨j, o, t, all, ro, ha', hb, by rw [k.eq j (Own.lt hi) (ha _ _ ha')]; exact hi, hle, hcs⟩

theorem Fresh.apart {b i : Nat} {h : AHeap} {a : Pt} {n : Nat} {t : TypeId} {cs : List AVal} (f : Fresh b h a n t cs) (hi : i < b) : n ≠ 0 → ∀ j o, a = some (j, o) → j ≠ i := by
  intro h0 j o hj
  obtain ⟨_, h1 | ⟨k, hk, hb, _⟩⟩ := f
  · exact absurd h1 h0
  · rw [hj] at hk; cases hk; omega
/-- A growing row, seen from the heap h0 in which it was the object i0. -/
def Out (t : TypeId) (h0 : AHeap) (i0 : Nat) (h : AHeap) (a : Pt) (n : Nat) (cs : List AVal) : Prop :=
  ∃ i, a = some (i, 0) ∧ (i = i0 ∨ h0.length ≤ i) ∧ h[i]? = some (.cells t cs false) ∧ cs.length = n ∧ Keep i0 h0 h
theorem Out.refl {t : TypeId} {h : AHeap} {i : Nat} {cs : List AVal} (hi : h[i]? = some (.cells t cs false)) : Out t h i h (some (i, 0)) cs.length cs := ⟨i, rfl, .inl rfl, hi, rfl, Keep.refl _ _⟩
theorem Out.new {t : TypeId} {h : AHeap} {cs : List AVal} : Out t (h ++ [.cells t cs false]) h.length (h ++ [.cells t cs false]) (some (h.length, 0)) cs.length cs := Out.refl (by simp)
theorem Out.call {t : TypeId} {h0 h h' : AHeap} {i0 : Nat} {a : Pt} {n : Nat} {cs : List AVal} (x : Out t h0 i0 h a n cs) (s : Same h.length h h') : Out t h0 i0 h' a n cs := by
  obtain ⟨i, ha, hi, hg, hn, k⟩ := x
  exact ⟨i, ha, hi, by rw [s.eq i (Own.lt hg)]; exact hg, hn, ⟨Nat.le_trans k.le s.le, fun j hj hne => by rw [s.eq j (by have := k.le; omega)]; exact k.eq j hj hne⟩⟩
theorem Out.id {t : TypeId} {h0 h : AHeap} {i0 : Nat} {a : Pt} {n : Nat} {cs : List AVal} (x : Out t h0 i0 h a n cs) : ∃ i, a = some (i, 0) ∧ i < h.length ∧ h[i]? = some (.cells t cs false) := by
  obtain ⟨i, ha, hi, hg, hn, k⟩ := x
  exact ⟨i, ha, Own.lt hg, hg⟩
/-- From the present heap on. -/
theorem Out.here {t : TypeId} {h0 h : AHeap} {i0 : Nat} {a : Pt} {n : Nat} {cs : List AVal} (x : Out t h0 i0 h a n cs) : ∃ i, a = some (i, 0) ∧ i < h.length ∧ Out t h i h a n cs := by
  obtain ⟨i, ha, hi, hg, hn, k⟩ := x
  exact ⟨i, ha, Own.lt hg, i, ha, .inl rfl, hg, hn, Keep.refl _ _⟩
theorem Out.trans {t : TypeId} {h0 h h' : AHeap} {i0 i : Nat} {a a' : Pt} {n n' : Nat} {cs cs' : List AVal} (x : Out t h0 i0 h a n cs) (ha : a = some (i, 0)) (y : Out t h i h' a' n' cs') : Out t h0 i0 h' a' n' cs' := by
  obtain ⟨j, hj, hi, hg, hn, k⟩ := x
  rw [ha] at hj
  cases hj
  obtain ⟨i', ha', hi', hg', hn', k'⟩ := y
  have hlt := Own.lt hg
  refine ⟨i', ha', ?_, hg', hn', ⟨Nat.le_trans k.le k'.le, fun j hj hne => ?_⟩⟩
  · have := k.le
    rcases hi' with rfl | hi'
    · exact hi
    · right; omega
  · have := k.le
    rw [k'.eq j (by omega) (by rcases hi with rfl | hi; exact hne; omega)]
    exact k.eq j hj hne
theorem Out.keep {t : TypeId} {h0 h : AHeap} {i0 : Nat} {a : Pt} {n : Nat} {cs : List AVal} (x : Out t h0 i0 h a n cs) : Keep i0 h0 h := x.choose_spec.2.2.2.2
theorem Out.len {t : TypeId} {h0 h : AHeap} {i0 : Nat} {a : Pt} {n : Nat} {cs : List AVal} (x : Out t h0 i0 h a n cs) : cs.length = n := x.choose_spec.2.2.2.1
/-- As a result. -/
theorem Out.fresh {t : TypeId} {h0 h : AHeap} {i0 b : Nat} {a : Pt} {n : Nat} {cs : List AVal} (x : Out t h0 i0 h a n cs) (hb : b ≤ i0) (hl : b ≤ h0.length) : Fresh b h a n t cs := by
  obtain ⟨i, ha, hi, hg, hn, k⟩ := x
  exact ⟨hn, .inr ⟨i, ha, by omega, hg⟩⟩
/-- Growing, whose elements are one cell: by a row that may lie anywhere. -/
theorem Out.append {P : Program} {t ty : TypeId} {h0 h : AHeap} {i0 n c : Nat} {a : Pt} {e : Bool} {xa : Pt} {m c' : Nat} {e' : Bool} {cs new : List AVal} {K : AVal → AHeap → Prop} (x : Out ty h0 i0 h a n cs)
    (hu : P.underlying t = some (.slice ty)) (hc : P.cellsOf ty = 1) (hok : P.okElem ty = true) (hby : P.bytesOf ty ≤ 64) (hx : rowOf h xa m = some new) (hl : new.all AVal.leaf = true)
    (hle : n + m ≤ 1099511627776) (hk : ∀ a' n' h', Out ty h0 i0 h' a' n' (cs ++ new) → K (.slice a' n' n' false) h') : appendA P t h (.slice a n c e) (.slice xa m c' e') K := by
  obtain ⟨i, rfl, hi, hg, hn, k⟩ := x
  refine append_own1 (b := 0) hu hc hok hby hn hg (by omega) hx hl hle fun h' hh _ _ => hk _ _ h' ⟨h.length, rfl, .inr k.le, by rw [hh]; simp, ?_, ⟨?_, fun j hj hne => ?_⟩⟩
  · have : new.length = m := by
      unfold rowOf at hx
      split at hx
      · split at hx
        · cases hx; simp_all
        · cases hx
      · split at hx
        · cases hx; simp_all
        · unfold hRow at hx
          split at hx
          · split at hx
            · split at hx
              · cases hx; simp; omega
              · cases hx
            · cases hx
          · cases hx
    simp; omega
  · rw [hh]; have := k.le; simp; omega
  · have := k.le
    rw [hh, List.getElem?_append_left (by simp; omega), List.getElem?_set_ne (by omega)]
    exact k.eq j hj hne
/-- Growing by one element that was put into a row of its own. -/
theorem Out.push {P : Program} {t ty : TypeId} {h0 h : AHeap} {i0 n c : Nat} {a : Pt} {e : Bool} {cs : List AVal} {v : AVal} {K : AVal → AHeap → Prop} (x : Out ty h0 i0 h a n cs)
    (hu : P.underlying t = some (.slice ty)) (hc : P.cellsOf ty = 1) (hok : P.okElem ty = true) (hby : P.bytesOf ty ≤ 64) (hl : v.leaf = true)
    (hle : n + 1 ≤ 1099511627776) (hk : ∀ a' n' h', Out ty h0 i0 h' a' n' (cs ++ [v]) → K (.slice a' n' n' false) h') : appendA P t (h ++ [.cells ty [v] false]) (.slice a n c e) (.slice (some (h.length, 0)) 1 1 true) K :=
  (x.call (Same.app (Nat.le_refl _) _)).append hu hc hok hby (new := [v]) (Own.row (b := 0) (t := ty) (cs := [v]) ⟨h.length, rfl, by omega, by simp⟩).rowOf (show List.all [v] AVal.leaf = true by rw [List.all_cons, hl]; rfl) hle hk
/-- The element of a list of strings. -/
theorem Row.str {b : Nat} {h : AHeap} {a : Pt} {n : Nat} {l : List (List Nat)} (r : Row b h a n (strs l)) {k : Nat} (hk : k < n) : ∃ i o, ∃ hk' : k < l.length, a = some (i, o) ∧ i < b ∧ hCell h (.ptr (some (i, o + k))) = some (.str l[k]) := by
  have hl : l.length = n := by simpa using r.1
  obtain ⟨i, o, ha, hi, hc⟩ := r.at hk
  exact ⟨i, o, by omega, ha, hi, by rw [hc, strs_get, List.getElem?_eq_getElem (by omega)]; rfl⟩

end Go.Sim
