/- A part of the proof of a statement of this seat: see the text that holds the theorem. No condition. -/
import Derived.Test.YtgiiilhdmfddcaaSimW
set_option linter.all false
set_option linter.unusedVariables false
set_option linter.unusedSimpArgs false
namespace Go.Sim
open Go Go.RowKit

theorem bcase_beq {x y : Int} {A B : Prop} (ha : x = y → A) (hb : x ≠ y → B) : bcase (x == y) A B := by
  by_cases h : x = y
  · rw [beq_iff_eq.2 h]; exact ha h
  · rw [beq_eq_false_iff_ne.2 h]; exact hb h
theorem bcase_nbeq {x y : Int} {A B : Prop} (ha : x ≠ y → A) (hb : x = y → B) : bcase (!(x == y)) A B := by
  by_cases h : x = y
  · rw [beq_iff_eq.2 h]; exact hb h
  · rw [beq_eq_false_iff_ne.2 h]; exact ha h
theorem bcase_not {b : Bool} {A B : Prop} (ha : b = false → A) (hb : b = true → B) : bcase (!b) A B := by
  cases b
  · exact ha rfl
  · exact hb rfl
theorem bcase_ndec {p : Prop} [Decidable p] {A B : Prop} (ha : ¬ p → A) (hb : p → B) : bcase (!decide p) A B := by
  by_cases h : p
  · simp [h]; exact hb h
  · simp [h]; exact ha h
theorem set_get {h : AHeap} {i : Nat} {x y : AObj} (hi : h[i]? = some y) : (h.set i x)[i]? = some x := List.getElem?_set_self (List.getElem?_eq_some_iff.1 hi).1
theorem set_ne {h : AHeap} {i j : Nat} {x : AObj} (hne : i ≠ j) : (h.set i x)[j]? = h[j]? := List.getElem?_set_ne hne
theorem app_lt {h l : AHeap} {i : Nat} (hi : i < h.length) : (h ++ l)[i]? = h[i]? := List.getElem?_append_left hi
theorem app_old {h l : AHeap} {i : Nat} {x : AObj} (hi : h[i]? = some x) : (h ++ l)[i]? = some x := by rw [app_lt (List.getElem?_eq_some_iff.1 hi).1]; exact hi
theorem app_len {h l : AHeap} {x : AObj} : (h ++ x :: l)[h.length]? = some x := by simp
theorem hCell_of {h : AHeap} {i o : Nat} {t : TypeId} {cs : List AVal} {ro : Bool} (hi : h[i]? = some (.cells t cs ro)) : hCell h (.ptr (some (i, o))) = cs[o]? := by simp only [hCell, hi]
theorem hRow_of {h : AHeap} {i o n : Nat} {t : TypeId} {cs : List AVal} {ro : Bool} (hi : h[i]? = some (.cells t cs ro)) (hle : o + n ≤ cs.length) : hRow h (.ptr (some (i, o))) n = some ((cs.drop o).take n) := by simp only [hRow, hi]; rw [if_pos hle]
theorem hStore_of {h : AHeap} {i o : Nat} {t : TypeId} {cs vs : List AVal} (hi : h[i]? = some (.cells t cs false)) (hle : o + vs.length ≤ cs.length) : hStore h (.ptr (some (i, o))) vs = some (h.set i (.cells t (putRow cs o vs) false)) := by simp only [hStore, hi]; rw [if_pos hle]
theorem Keep.of {i : Nat} {h h' : AHeap} (hl : h.length ≤ h'.length) (he : ∀ j, j < h.length → j ≠ i → h'[j]? = h[j]?) : Keep i h h' := ⟨hl, he⟩
theorem Keep.trans {i : Nat} {h h1 h2 : AHeap} (a : Keep i h h1) (b : Keep i h1 h2) : Keep i h h2 := ⟨Nat.le_trans a.le b.le, fun j hj hne => by rw [b.eq j (by have := a.le; omega) hne]; exact a.eq j hj hne⟩
theorem Keep.app (i : Nat) (h l : AHeap) : Keep i h (h ++ l) := ⟨by simp, fun j hj _ => List.getElem?_append_left hj⟩
theorem Keep.set (i : Nat) (h : AHeap) (x : AObj) : Keep i h (h.set i x) := ⟨by simp, fun j hj hne => List.getElem?_set_ne (by omega)⟩
theorem Keep.trans' {i : Nat} {h h1 h2 : AHeap} (a : Keep i h h1) (b : ∀ j, j < h.length → h2[j]? = h1[j]?) (hl : h1.length ≤ h2.length := by simp) : Keep i h h2 := ⟨Nat.le_trans a.le hl, fun j hj hne => by rw [b j hj]; exact a.eq j hj hne⟩
/-- A list that grows: nothing yet, or all of an object of one's own. -/
def Vec (ty : TypeId) (h : AHeap) (a : Pt) (n c : Nat) (cs : List AVal) : Prop :=
  (a = none ∧ n = 0 ∧ c = 0 ∧ cs = []) ∨ (∃ i, a = some (i, 0) ∧ h[i]? = some (.cells ty cs false))
theorem Vec.mk0 {ty : TypeId} {h : AHeap} : Vec ty h none 0 0 [] := .inl ⟨rfl, rfl, rfl, rfl⟩
theorem Vec.mk1 {ty : TypeId} {h : AHeap} {i n c : Nat} {cs : List AVal} (hi : h[i]? = some (.cells ty cs false)) : Vec ty h (some (i, 0)) n c cs := .inr ⟨i, rfl, hi⟩
theorem Vec.agree {ty : TypeId} {h h' : AHeap} {a : Pt} {n c : Nat} {cs : List AVal} (x : Vec ty h a n c cs) (hh : ∀ i, a = some (i, 0) → h'[i]? = h[i]?) : Vec ty h' a n c cs := by
  rcases x with x | ⟨i, ha, hi⟩
  · exact .inl x
  · exact .inr ⟨i, ha, by rw [hh i ha]; exact hi⟩
theorem Vec.same {ty : TypeId} {h h' : AHeap} {a : Pt} {n c : Nat} {cs : List AVal} (x : Vec ty h a n c cs) (s : Same h.length h h') : Vec ty h' a n c cs := by
  rcases x with x | ⟨i, ha, hi⟩
  · exact .inl x
  · exact .inr ⟨i, ha, by rw [s.eq i (Own.lt hi)]; exact hi⟩
theorem Vec.row {ty : TypeId} {h : AHeap} {a : Pt} {n c m : Nat} {cs : List AVal} (x : Vec ty h a n c cs) (hm : cs.length = m) : Row h.length h a m cs := by
  rcases x with ⟨rfl, rfl, rfl, rfl⟩ | ⟨i, rfl, hi⟩
  · simp at hm; subst hm; exact Row.nil
  · exact ⟨hm, .inr ⟨i, 0, ty, cs, false, rfl, Own.lt hi, hi, by omega, by subst hm; simp⟩⟩
theorem Vec.lt {ty : TypeId} {h : AHeap} {i n c : Nat} {cs : List AVal} (x : Vec ty h (some (i, 0)) n c cs) : i < h.length := by
  rcases x with ⟨h0, _⟩ | ⟨j, hj, hi⟩
  · cases h0
  · cases hj; exact Own.lt hi
/-- Growing, by a row that may lie anywhere. -/
theorem Vec.app {P : Program} {t ty : TypeId} {h : AHeap} {n c sz : Nat} {a : Pt} {e : Bool} {xa : Pt} {m c' : Nat} {e' : Bool} {cs new : List AVal} {K : AVal → AHeap → Prop} (x : Vec ty h a n c cs)
    (hu : P.underlying t = some (.slice ty)) (hc : P.cellsOf ty = sz) (hok : P.okElem ty = true) (hby : P.bytesOf ty ≤ 127) (hn : cs.length = n * sz) (hx : rowOf h xa (m * sz) = some new) (hl : new.all AVal.leaf = true)
    (hm : m ≠ 0) (hle : n + m ≤ 1099511627776) (hk : ∀ h', h'.length = h.length + 1 → h'[h.length]? = some (.cells ty (cs ++ new) false) → (∀ j, j < h.length → (∀ i, a = some (i, 0) → j ≠ i) → h'[j]? = h[j]?) →
      K (.slice (some (h.length, 0)) (n + m) (n + m) false) h') : appendA P t h (.slice a n c e) (.slice xa m c' e') K := by
  unfold appendA
  simp only [hu, hc, hx, xRow_some]
  refine ⟨⟨hok, ?_, hl⟩, ?_⟩
  · have : (n + m) * (P.bytesOf ty + 1) ≤ (n + m) * 128 := Nat.mul_le_mul_left _ (by omega)
    omega
  · rcases x with ⟨rfl, rfl, rfl, rfl⟩ | ⟨i, rfl, hi⟩
    · refine ⟨fun h0 => absurd h0 hm, fun _ => ⟨rfl, ?_⟩⟩
      have := hk (h ++ [.cells ty new false]) (by simp) (by simp) (fun j hj _ => List.getElem?_append_left hj)
      simpa using this
    · refine .inl ⟨rfl, ?_⟩
      simp only [ownRow, hi, true_and]
      refine ⟨hn, hk _ (by simp) (by rw [List.getElem?_append_right (by simp)]; simp) fun j hj hne => ?_⟩
      rw [List.getElem?_append_left (by simpa using hj), List.getElem?_set_ne (fun e => hne i rfl e.symm)]
/-- Growing by one element of one cell. -/
theorem Vec.push {P : Program} {t ty : TypeId} {h : AHeap} {n c : Nat} {a : Pt} {e : Bool} {cs : List AVal} {v : AVal} {K : AVal → AHeap → Prop} (x : Vec ty h a n c cs)
    (hu : P.underlying t = some (.slice ty)) (hc : P.cellsOf ty = 1) (hok : P.okElem ty = true) (hby : P.bytesOf ty ≤ 127) (hn : cs.length = n) (hl : v.leaf = true)
    (hle : n + 1 ≤ 1099511627776) (hk : ∀ h', h'.length = h.length + 2 → h'[h.length + 1]? = some (.cells ty (cs ++ [v]) false) → (∀ j, j < h.length → (∀ i, a = some (i, 0) → j ≠ i) → h'[j]? = h[j]?) →
      K (.slice (some (h.length + 1, 0)) (n + 1) (n + 1) false) h') : appendA P t (h ++ [.cells ty [v] false]) (.slice a n c e) (.slice (some (h.length, 0)) 1 1 true) K := by
  refine Vec.app (sz := 1) (new := [v]) (x.same (Same.app (Nat.le_refl _) _)) hu hc hok hby (by omega) ?_ (by simp [hl]) (by omega) hle ?_
  · simp [rowOf, hRow]
  · intro h' hl' hi hj
    simp at hl' hi hj
    have key := hk h' (by omega) (by simpa using hi) (fun j hlt hne => by rw [hj j (by omega) hne, List.getElem?_append_left hlt])
    simpa using key
/-- Growing by one element of some cells. -/
theorem Vec.pushN {P : Program} {t ty : TypeId} {h : AHeap} {n c sz : Nat} {a : Pt} {e : Bool} {cs vs : List AVal} {K : AVal → AHeap → Prop} (x : Vec ty h a n c cs)
    (hu : P.underlying t = some (.slice ty)) (hc : P.cellsOf ty = sz) (hok : P.okElem ty = true) (hby : P.bytesOf ty ≤ 127) (hn : cs.length = n * sz) (hv : vs.length = sz) (hz : sz ≠ 0) (hl : vs.all AVal.leaf = true)
    (hle : n + 1 ≤ 1099511627776) (hk : ∀ h', h'.length = h.length + 2 → h'[h.length + 1]? = some (.cells ty (cs ++ vs) false) → (∀ j, j < h.length → (∀ i, a = some (i, 0) → j ≠ i) → h'[j]? = h[j]?) →
      K (.slice (some (h.length + 1, 0)) (n + 1) (n + 1) false) h') : appendA P t (h ++ [.cells ty vs false]) (.slice a n c e) (.slice (some (h.length, 0)) 1 1 true) K := by
  refine Vec.app (sz := sz) (new := vs) (x.same (Same.app (Nat.le_refl _) _)) hu hc hok hby hn ?_ hl (by omega) hle ?_
  · simp [rowOf, hRow, hv, hz]
    rw [← hv, List.take_length]
  · intro h' hl' hi hj
    simp at hl' hi hj
    have key := hk h' (by omega) (by simpa using hi) (fun j hlt hne => by rw [hj j (by omega) hne, List.getElem?_append_left hlt])
    simpa using key
end Go.Sim
