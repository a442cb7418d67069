/- Readings of abstract heaps: rows, what stays the same, appending to a row of one's own. -/
import Derived.Test.YtgiiilhdmfddcaaSimP
import Derived.IntWalk
set_option linter.unusedVariables false
set_option linter.all false
set_option linter.unusedSimpArgs false
namespace Go.Sim
open Go Go.RowKit

@[simp] theorem xBool_some {b : Bool} {K : Bool → Prop} : xBool (some (.bool b)) K = K b := rfl
@[simp] theorem xInt_some {k : IntKind} {n : Int} {K : Int → Prop} : xInt k (some (.int k n)) K = K n := by simp [xInt]
@[simp] theorem xStr_some {s : List Nat} {K : List Nat → Prop} : xStr (some (.str s)) K = K s := rfl
@[simp] theorem xPtr_some {a : Option (Nat × Nat)} {K : Option (Nat × Nat) → Prop} : xPtr (some (.ptr a)) K = K a := rfl
@[simp] theorem xSl_some {a : Option (Nat × Nat)} {n c : Nat} {e : Bool} {K : Option (Nat × Nat) → Nat → Nat → Bool → Prop} : xSl (some (.slice a n c e)) K = K a n c e := rfl
@[simp] theorem xMap_some {a : Option Nat} {K : Option Nat → Prop} : xMap (some (.map a)) K = K a := rfl
@[simp] theorem xAny_some {v : AVal} {K : AVal → Prop} : xAny (some v) K = K v := rfl
@[simp] theorem xCons_cons {c : AVal} {r : List AVal} {K : AVal → List AVal → Prop} : xCons (c :: r) K = K c r := rfl
@[simp] theorem xNil_nil {K : Prop} : xNil [] K = K := rfl
@[simp] theorem xRow_some {cs : List AVal} {K : List AVal → Prop} : xRow (some cs) K = K cs := rfl
@[simp] theorem xAgg_agg {cs : List AVal} {K : List AVal → Prop} : xAgg (.agg cs) K = K cs := rfl
@[simp] theorem xTup_tup {cs : List AVal} {K : List AVal → Prop} : xTup (.tup cs) K = K cs := rfl
@[simp] theorem xSome_some {i o : Nat} {K : Nat → Nat → Prop} : xSome (some (i, o)) K = K i o := rfl
@[simp] theorem xHeap_some {h : AHeap} {K : AHeap → Prop} : xHeap (some h) K = K h := rfl
@[simp] theorem letH_def {h : AHeap} {K : AHeap → Prop} : letH h K = K h := rfl
@[simp] theorem bcase_true {A B : Prop} : bcase true A B = A := rfl
@[simp] theorem bcase_false {A B : Prop} : bcase false A B = B := rfl
theorem bcase_dec {p : Prop} [Decidable p] {A B : Prop} (ha : p → A) (hb : ¬ p → B) : bcase (decide p) A B := by
  by_cases h : p
  · simp [h]; exact ha h
  · simp [h]; exact hb h

def strs (l : List (List Nat)) : List AVal := l.map .str
def ints (l : List Int) : List AVal := l.map (.int .i64)
@[simp] theorem strs_length (l : List (List Nat)) : (strs l).length = l.length := by simp [strs]
@[simp] theorem strs_nil : strs [] = [] := rfl
@[simp] theorem strs_append (a b : List (List Nat)) : strs (a ++ b) = strs a ++ strs b := by simp [strs]
@[simp] theorem strs_leaf (l : List (List Nat)) : (strs l).all AVal.leaf = true := by simp [strs, AVal.leaf]
theorem strs_get (l : List (List Nat)) (k : Nat) : (strs l)[k]? = l[k]?.map .str := by simp [strs]

/-- What lies below b is the same in both heaps. -/
structure Same (b : Nat) (h h' : AHeap) : Prop where
  le : h.length ≤ h'.length
  eq : ∀ i, i < b → h'[i]? = h[i]?
theorem Same.refl (b : Nat) (h : AHeap) : Same b h h := ⟨Nat.le_refl _, fun _ _ => rfl⟩
theorem Same.trans {b : Nat} {h h1 h2 : AHeap} (x : Same b h h1) (y : Same b h1 h2) : Same b h h2 := ⟨Nat.le_trans x.le y.le, fun i hi => (y.eq i hi).trans (x.eq i hi)⟩
theorem Same.mono {b b' : Nat} {h h' : AHeap} (x : Same b h h') (hb : b' ≤ b) : Same b' h h' := ⟨x.le, fun i hi => x.eq i (by omega)⟩
theorem Same.app {b : Nat} {h : AHeap} (hb : b ≤ h.length) (l : AHeap) : Same b h (h ++ l) := ⟨by simp, fun i hi => List.getElem?_append_left (by omega)⟩
theorem Same.set {b i : Nat} {h : AHeap} (hb : b ≤ i) (x : AObj) : Same b h (h.set i x) := ⟨by simp, fun j hj => by rw [List.getElem?_set_ne (by omega)]⟩

theorem Same.cell {b : Nat} {h h' : AHeap} (s : Same b h h') {i o : Nat} (hi : i < b) {x : Option AVal} (hc : hCell h (.ptr (some (i, o))) = x) : hCell h' (.ptr (some (i, o))) = x := by
  have e := s.eq i hi
  simp only [hCell] at *
  rw [e]; exact hc

/-- n cells at a, below b. -/
def Row (b : Nat) (h : AHeap) (a : Option (Nat × Nat)) (n : Nat) (cs : List AVal) : Prop :=
  cs.length = n ∧ (n = 0 ∨ ∃ i o t all ro, a = some (i, o) ∧ i < b ∧ h[i]? = some (.cells t all ro) ∧ o + n ≤ all.length ∧ cs = (all.drop o).take n)
theorem Row.nil {b : Nat} {h : AHeap} {a : Option (Nat × Nat)} : Row b h a 0 [] := ⟨rfl, .inl rfl⟩
theorem Row.same {b : Nat} {h h' : AHeap} {a : Option (Nat × Nat)} {n : Nat} {cs : List AVal} (r : Row b h a n cs) (s : Same b h h') : Row b h' a n cs := by
  obtain ⟨hl, r⟩ := r
  refine ⟨hl, r.imp id ?_⟩
  rintro ⟨i, o, t, all, ro, ha, hb, hi, hle, hcs⟩
  exact ⟨i, o, t, all, ro, ha, hb, by rw [s.eq i hb]; exact hi, hle, hcs⟩
theorem Row.mono {b b' : Nat} {h : AHeap} {a : Option (Nat × Nat)} {n : Nat} {cs : List AVal} (r : Row b h a n cs) (hb : b ≤ b') : Row b' h a n cs := by
  obtain ⟨hl, r⟩ := r
  refine ⟨hl, r.imp id ?_⟩
  rintro ⟨i, o, t, all, ro, ha, hi, x⟩
  exact ⟨i, o, t, all, ro, ha, by omega, x⟩
theorem Row.rowOf {b : Nat} {h : AHeap} {a : Option (Nat × Nat)} {n : Nat} {cs : List AVal} (r : Row b h a n cs) : rowOf h a n = some cs := by
  obtain ⟨hl, r⟩ := r
  rcases r with h0 | ⟨i, o, t, all, ro, rfl, hb, hi, hle, hcs⟩
  · subst h0
    have : cs = [] := List.eq_nil_of_length_eq_zero hl
    subst this
    unfold Sim.rowOf; cases a <;> simp
  · unfold Sim.rowOf
    by_cases h0 : n = 0
    · subst h0; simp at hcs; simp [hcs]
    · simp [h0, hRow, hi, hle, hcs]
theorem Row.at {b : Nat} {h : AHeap} {a : Option (Nat × Nat)} {n : Nat} {cs : List AVal} (r : Row b h a n cs) {k : Nat} (hk : k < n) : ∃ i o, a = some (i, o) ∧ i < b ∧ hCell h (.ptr (some (i, o + k))) = cs[k]? := by
  obtain ⟨hl, r⟩ := r
  rcases r with h0 | ⟨i, o, t, all, ro, rfl, hb, hi, hle, hcs⟩
  · omega
  · refine ⟨i, o, rfl, hb, ?_⟩
    simp [hCell, hi, hcs, List.getElem?_take, hk]

/-- A row of one's own, at b or above: all of an object. -/
def Own (b : Nat) (h : AHeap) (a : Option (Nat × Nat)) (t : TypeId) (cs : List AVal) : Prop := ∃ i, a = some (i, 0) ∧ b ≤ i ∧ h[i]? = some (.cells t cs false)
theorem Own.lt {h : AHeap} {i : Nat} {x : AObj} (hi : h[i]? = some x) : i < h.length := (List.getElem?_eq_some_iff.1 hi).1
theorem Own.row {b : Nat} {h : AHeap} {a : Option (Nat × Nat)} {t : TypeId} {cs : List AVal} (r : Own b h a t cs) : Row h.length h a cs.length cs := by
  obtain ⟨i, rfl, hb, hi⟩ := r
  exact ⟨rfl, .inr ⟨i, 0, t, cs, false, rfl, Own.lt hi, hi, by omega, by simp⟩⟩
theorem Own.last {h : AHeap} {t : TypeId} {cs : List AVal} {b : Nat} (hb : b ≤ h.length) : Own b (h ++ [.cells t cs false]) (some (h.length, 0)) t cs := ⟨h.length, rfl, hb, by simp⟩
theorem Own.same {b b' : Nat} {h h' : AHeap} {a : Option (Nat × Nat)} {t : TypeId} {cs : List AVal} (r : Own b h a t cs) (s : Same b' h h') (hb : h.length ≤ b') : Own b h' a t cs := by
  obtain ⟨i, rfl, hi, hg⟩ := r
  exact ⟨i, rfl, hi, by rw [s.eq i (by have := Own.lt hg; omega)]; exact hg⟩
theorem Own.mono {b b' : Nat} {h : AHeap} {a : Option (Nat × Nat)} {t : TypeId} {cs : List AVal} (r : Own b h a t cs) (hb : b' ≤ b) : Own b' h a t cs := by
  obtain ⟨i, rfl, hi, hg⟩ := r
  exact ⟨i, rfl, by omega, hg⟩

/-- A result that is a row of its own, or nothing. -/
def Fresh (b : Nat) (h : AHeap) (a : Option (Nat × Nat)) (n : Nat) (t : TypeId) (cs : List AVal) : Prop := cs.length = n ∧ (n = 0 ∨ Own b h a t cs)
theorem Fresh.row {b : Nat} {h : AHeap} {a : Option (Nat × Nat)} {n : Nat} {t : TypeId} {cs : List AVal} (r : Fresh b h a n t cs) : Row h.length h a n cs := by
  obtain ⟨hl, r⟩ := r
  rcases r with h0 | r
  · exact ⟨hl, .inl h0⟩
  · rw [← hl]; exact r.row
theorem Fresh.same {b b' : Nat} {h h' : AHeap} {a : Option (Nat × Nat)} {n : Nat} {t : TypeId} {cs : List AVal} (r : Fresh b h a n t cs) (s : Same b' h h') (hb : h.length ≤ b') : Fresh b h' a n t cs := ⟨r.1, r.2.imp id fun x => x.same s hb⟩
theorem Fresh.mono {b b' : Nat} {h : AHeap} {a : Option (Nat × Nat)} {n : Nat} {t : TypeId} {cs : List AVal} (r : Fresh b h a n t cs) (hb : b' ≤ b) : Fresh b' h a n t cs := ⟨r.1, r.2.imp id fun x => x.mono hb⟩

/-- Appending to a row of one's own, whose elements are one cell. -/
theorem append_own1 {P : Program} {t ty : TypeId} {h : AHeap} {b i n c : Nat} {e : Bool} {xa : Option (Nat × Nat)} {m c' : Nat} {e' : Bool} {cs new : List AVal} {K : AVal → AHeap → Prop}
    (hu : P.underlying t = some (.slice ty)) (hc : P.cellsOf ty = 1) (hok : P.okElem ty = true) (hby : P.bytesOf ty ≤ 64) (hn : cs.length = n) (hi : h[i]? = some (.cells ty cs false)) (hb : b ≤ i) (hx : rowOf h xa m = some new) (hl : new.all AVal.leaf = true)
    (hle : n + m ≤ 1099511627776) (hk : ∀ h', h' = h.set i .dead ++ [.cells ty (cs ++ new) false] → Same b h h' → Own b h' (some (h.length, 0)) ty (cs ++ new) → K (.slice (some (h.length, 0)) (n + m) (n + m) false) h') :
    appendA P t h (.slice (some (i, 0)) n c e) (.slice xa m c' e') K := by
  have hlt := Own.lt hi
  unfold appendA
  simp only [hu, hc, Nat.mul_one, hx, xRow_some]
  refine ⟨⟨hok, ?_, hl⟩, .inl ⟨trivial, ?_⟩⟩
  · have : (n + m) * (P.bytesOf ty + 1) ≤ (n + m) * 65 := Nat.mul_le_mul_left _ (by omega)
    omega
  · simp only [ownRow, hi, true_and]
    refine ⟨hn, hk _ rfl ?_ ?_⟩
    · refine (Same.set hb .dead).trans (Same.app (by simp; omega) _)
    · refine ⟨h.length, rfl, by omega, by simp⟩
end Go.Sim
