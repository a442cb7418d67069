/- A part of the proof of a statement of this seat: see the text that holds the theorem. No condition. -/
import Derived.Test.YtlljbdepamknoaaSimX
import Derived.Test.YtlljbdepamknoaaNm
import Derived.Test.YtlljbdepamknoaaShelf
import Derived.Test.YtlljbdepamknoaaPTC1
set_option linter.unusedVariables false
set_option linter.unusedSimpArgs false
set_option linter.all false
set_option linter.unusedVariables false
set_option linter.unusedSimpArgs false
namespace Go.Sim
open Go Go.RowKit

theorem Zfr {x y : Int} {A B : Prop} (ha : x = y → A) (hb : x ≠ y → B) : bcase (x == y) A B := by
  by_cases h : x = y
  · rw [beq_iff_eq.2 h]; exact ha h
  · rw [beq_eq_false_iff_ne.2 h]; exact hb h
theorem Zhr {x y : Int} {A B : Prop} (ha : x ≠ y → A) (hb : x = y → B) : bcase (!(x == y)) A B := by
  by_cases h : x = y
  · rw [beq_iff_eq.2 h]; exact hb h
  · rw [beq_eq_false_iff_ne.2 h]; exact ha h
theorem Zcl {b : Bool} {A B : Prop} (ha : b = false → A) (hb : b = true → B) : bcase (!b) A B := by
  cases b
  · exact ha rfl
  · exact hb rfl
theorem Zrk {p : Prop} [Decidable p] {A B : Prop} (ha : ¬ p → A) (hb : p → B) : bcase (!decide p) A B := by
  by_cases h : p
  · simp [h]; exact hb h
  · simp [h]; exact ha h
theorem Zbn {h : Zaa} {i : Nat} {x y : Zck} (hi : h[i]? = some y) : (h.set i x)[i]? = some x := List.getElem?_set_self (List.getElem?_eq_some_iff.1 hi).1
theorem Zbl {h : Zaa} {i j : Nat} {x : Zck} (hne : i ≠ j) : (h.set i x)[j]? = h[j]? := List.getElem?_set_ne hne
theorem Zvb {h l : Zaa} {i : Nat} (hi : i < h.length) : (h ++ l)[i]? = h[i]? := List.getElem?_append_left hi
theorem Zlw {h l : Zaa} {i : Nat} {x : Zck} (hi : h[i]? = some x) : (h ++ l)[i]? = some x := by rw [Zvb (List.getElem?_eq_some_iff.1 hi).1]; exact hi
theorem Zau {h : Zaa} {i o : Nat} {t : TypeId} {cs : List Zag} {ro : Bool} (hi : h[i]? = some (.cells t cs ro)) : Zai h (.ptr (some (i, o))) = cs[o]? := by simp only [Zai, hi]
theorem Zha {h : Zaa} {i o n : Nat} {t : TypeId} {cs : List Zag} {ro : Bool} (hi : h[i]? = some (.cells t cs ro)) (hle : o + n ≤ cs.length) : Zbw h (.ptr (some (i, o))) n = some ((cs.drop o).take n) := by simp only [Zbw, hi]; rw [if_pos hle]
theorem Zbb {h : Zaa} {i o : Nat} {t : TypeId} {cs vs : List Zag} (hi : h[i]? = some (.cells t cs false)) (hle : o + vs.length ≤ cs.length) : Zbc h (.ptr (some (i, o))) vs = some (h.set i (.cells t (Zbi cs o vs) false)) := by simp only [Zbc, hi]; rw [if_pos hle]
theorem Zjx.of {i : Nat} {h h' : Zaa} (hl : h.length ≤ h'.length) (he : ∀ j, j < h.length → j ≠ i → h'[j]? = h[j]?) : Zjx i h h' := ⟨hl, he⟩
theorem Zjx.trans {i : Nat} {h h1 h2 : Zaa} (a : Zjx i h h1) (b : Zjx i h1 h2) : Zjx i h h2 := ⟨Nat.le_trans a.le b.le, fun j hj hne => by rw [b.eq j (by have := a.le; omega) hne]; exact a.eq j hj hne⟩
theorem Zjx.app (i : Nat) (h l : Zaa) : Zjx i h (h ++ l) := ⟨by simp, fun j hj _ => List.getElem?_append_left hj⟩
theorem Zjx.set (i : Nat) (h : Zaa) (x : Zck) : Zjx i h (h.set i x) := ⟨by simp, fun j hj hne => List.getElem?_set_ne (by omega)⟩
theorem Zjx.trans' {i : Nat} {h h1 h2 : Zaa} (a : Zjx i h h1) (b : ∀ j, j < h.length → h2[j]? = h1[j]?) (hl : h1.length ≤ h2.length := by simp) : Zjx i h h2 := ⟨Nat.le_trans a.le hl, fun j hj hne => by rw [b j hj]; exact a.eq j hj hne⟩
def Vec (ty : TypeId) (h : Zaa) (a : Pt) (n c : Nat) (cs : List Zag) : Prop :=
  (a = none ∧ n = 0 ∧ c = 0 ∧ cs = []) ∨ (∃ i, a = some (i, 0) ∧ h[i]? = some (.cells ty cs false))
theorem Vec.mk0 {ty : TypeId} {h : Zaa} : Vec ty h none 0 0 [] := .inl ⟨rfl, rfl, rfl, rfl⟩
theorem Vec.mk1 {ty : TypeId} {h : Zaa} {i n c : Nat} {cs : List Zag} (hi : h[i]? = some (.cells ty cs false)) : Vec ty h (some (i, 0)) n c cs := .inr ⟨i, rfl, hi⟩
theorem Vec.agree {ty : TypeId} {h h' : Zaa} {a : Pt} {n c : Nat} {cs : List Zag} (x : Vec ty h a n c cs) (hh : ∀ i, a = some (i, 0) → h'[i]? = h[i]?) : Vec ty h' a n c cs := by
  rcases x with x | ⟨i, ha, hi⟩
  · exact .inl x
  · exact .inr ⟨i, ha, by rw [hh i ha]; exact hi⟩
theorem Vec.same {ty : TypeId} {h h' : Zaa} {a : Pt} {n c : Nat} {cs : List Zag} (x : Vec ty h a n c cs) (s : Zbd h.length h h') : Vec ty h' a n c cs := by
  rcases x with x | ⟨i, ha, hi⟩
  · exact .inl x
  · exact .inr ⟨i, ha, by rw [s.eq i (Own.lt hi)]; exact hi⟩
theorem Vec.row {ty : TypeId} {h : Zaa} {a : Pt} {n c m : Nat} {cs : List Zag} (x : Vec ty h a n c cs) (hm : cs.length = m) : Row h.length h a m cs := by
  rcases x with ⟨rfl, rfl, rfl, rfl⟩ | ⟨i, rfl, hi⟩
  · simp at hm; subst hm; exact Row.nil
  · exact ⟨hm, .inr ⟨i, 0, ty, cs, false, rfl, Own.lt hi, hi, by omega, by subst hm; simp⟩⟩
theorem Vec.lt {ty : TypeId} {h : Zaa} {i n c : Nat} {cs : List Zag} (x : Vec ty h (some (i, 0)) n c cs) : i < h.length := by
  rcases x with ⟨h0, _⟩ | ⟨j, hj, hi⟩
  · cases h0
  · cases hj; exact Own.lt hi
theorem Vec.app {P : Program} {t ty : TypeId} {h : Zaa} {n c sz : Nat} {a : Pt} {e : Bool} {xa : Pt} {m c' : Nat} {e' : Bool} {cs new : List Zag} {K : Zag → Zaa → Prop} (x : Vec ty h a n c cs)
    (hu : P.underlying t = some (.slice ty)) (hc : P.cellsOf ty = sz) (hok : P.okElem ty = true) (hby : P.bytesOf ty ≤ 127) (hn : cs.length = n * sz) (hx : rowOf h xa (m * sz) = some new) (hl : new.all Zag.leaf = true)
    (hm : m ≠ 0) (hle : n + m ≤ 1099511627776) (hk : ∀ h', h'.length = h.length + 1 → h'[h.length]? = some (.cells ty (cs ++ new) false) → (∀ j, j < h.length → (∀ i, a = some (i, 0) → j ≠ i) → h'[j]? = h[j]?) →
      K (.slice (some (h.length, 0)) (n + m) (n + m) false) h') : Zcy P t h (.slice a n c e) (.slice xa m c' e') K := by
  unfold Zcy
  simp only [hu, hc, hx, Zaq]
  refine ⟨⟨hok, ?_, hl⟩, ?_⟩
  · have : (n + m) * (P.bytesOf ty + 1) ≤ (n + m) * 128 := Nat.mul_le_mul_left _ (by omega)
    omega
  · rcases x with ⟨rfl, rfl, rfl, rfl⟩ | ⟨i, rfl, hi⟩
    · refine ⟨fun h0 => absurd h0 hm, fun _ => ⟨rfl, ?_⟩⟩
      have := hk (h ++ [.cells ty new false]) (by simp) (by simp) (fun j hj _ => List.getElem?_append_left hj)
      simpa using this
    · refine .inl ⟨rfl, ?_⟩
      simp only [Zlj, hi, true_and]
      refine ⟨hn, hk _ (by simp) (by rw [List.getElem?_append_right (by simp)]; simp) fun j hj hne => ?_⟩
      rw [List.getElem?_append_left (by simpa using hj), List.getElem?_set_ne (fun e => hne i rfl e.symm)]
theorem Vec.push {P : Program} {t ty : TypeId} {h : Zaa} {n c : Nat} {a : Pt} {e : Bool} {cs : List Zag} {v : Zag} {K : Zag → Zaa → Prop} (x : Vec ty h a n c cs)
    (hu : P.underlying t = some (.slice ty)) (hc : P.cellsOf ty = 1) (hok : P.okElem ty = true) (hby : P.bytesOf ty ≤ 127) (hn : cs.length = n) (hl : v.leaf = true)
    (hle : n + 1 ≤ 1099511627776) (hk : ∀ h', h'.length = h.length + 2 → h'[h.length + 1]? = some (.cells ty (cs ++ [v]) false) → (∀ j, j < h.length → (∀ i, a = some (i, 0) → j ≠ i) → h'[j]? = h[j]?) →
      K (.slice (some (h.length + 1, 0)) (n + 1) (n + 1) false) h') : Zcy P t (h ++ [.cells ty [v] false]) (.slice a n c e) (.slice (some (h.length, 0)) 1 1 true) K := by
  refine Vec.app (sz := 1) (new := [v]) (x.same (Zbd.app (Nat.le_refl _) _)) hu hc hok hby (by omega) ?_ (by simp [hl]) (by omega) hle ?_
  · simp [rowOf, Zbw]
  · intro h' hl' hi hj
    simp at hl' hi hj
    have key := hk h' (by omega) (by simpa using hi) (fun j hlt hne => by rw [hj j (by omega) hne, List.getElem?_append_left hlt])
    simpa using key
theorem Vec.pushN {P : Program} {t ty : TypeId} {h : Zaa} {n c sz : Nat} {a : Pt} {e : Bool} {cs vs : List Zag} {K : Zag → Zaa → Prop} (x : Vec ty h a n c cs)
    (hu : P.underlying t = some (.slice ty)) (hc : P.cellsOf ty = sz) (hok : P.okElem ty = true) (hby : P.bytesOf ty ≤ 127) (hn : cs.length = n * sz) (hv : vs.length = sz) (hz : sz ≠ 0) (hl : vs.all Zag.leaf = true)
    (hle : n + 1 ≤ 1099511627776) (hk : ∀ h', h'.length = h.length + 2 → h'[h.length + 1]? = some (.cells ty (cs ++ vs) false) → (∀ j, j < h.length → (∀ i, a = some (i, 0) → j ≠ i) → h'[j]? = h[j]?) →
      K (.slice (some (h.length + 1, 0)) (n + 1) (n + 1) false) h') : Zcy P t (h ++ [.cells ty vs false]) (.slice a n c e) (.slice (some (h.length, 0)) 1 1 true) K := by
  refine Vec.app (sz := sz) (new := vs) (x.same (Zbd.app (Nat.le_refl _) _)) hu hc hok hby hn ?_ hl (by omega) hle ?_
  · simp [rowOf, Zbw, hv, hz]
    rw [← hv, List.take_length]
  · intro h' hl' hi hj
    simp at hl' hi hj
    have key := hk h' (by omega) (by simpa using hi) (fun j hlt hne => by rw [hj j (by omega) hne, List.getElem?_append_left hlt])
    simpa using key
end Go.Sim

set_option linter.unusedVariables false
set_option linter.unusedSimpArgs false
namespace Go.Sim
open Go Go.RowKit

section
variable {α : Type} (enc : α → List Zag)
def Zbv (l : List α) : List Zag := l.flatMap enc
@[simp] theorem Yef : Zbv enc [] = [] := rfl
@[simp] theorem Zem (x : α) (l : List α) : Zbv enc (x :: l) = enc x ++ Zbv enc l := rfl
@[simp] theorem Znb (a b : List α) : Zbv enc (a ++ b) = Zbv enc a ++ Zbv enc b := by simp [Zbv]
variable {enc} {w : Nat}
theorem Zaw (hw : ∀ x, (enc x).length = w) (l : List α) : (Zbv enc l).length = l.length * w := by
  induction l with
  | nil => simp
  | cons x l ih => rw [Zem, List.length_append, hw, ih, List.length_cons, Nat.succ_mul]; omega
theorem Zsw (hw : ∀ x, (enc x).length = w) : ∀ (l : List α) (k : Nat), (Zbv enc l).drop (k * w) = Zbv enc (l.drop k)
  | l, 0 => by simp
  | [], k + 1 => by simp
  | x :: l, k + 1 => by
    have h1 : (enc x ++ Zbv enc l).drop w = Zbv enc l := by rw [← hw x, List.drop_left]
    rw [Zem, List.drop_succ_cons, ← Zsw hw l k, Nat.succ_mul, Nat.add_comm, ← List.drop_drop, h1]
theorem Zzy (hw : ∀ x, (enc x).length = w) : ∀ (l : List α) (k : Nat), (Zbv enc l).take (k * w) = Zbv enc (l.take k)
  | l, 0 => by simp
  | [], k + 1 => by simp
  | x :: l, k + 1 => by
    have h1 : ∀ m, (enc x ++ Zbv enc l).take (w + m) = enc x ++ (Zbv enc l).take m := fun m => by rw [← hw x, List.take_length_add_append]
    rw [Zem, List.take_succ_cons, Zem, ← Zzy hw l k, Nat.succ_mul, Nat.add_comm, h1]
theorem Row.el (hw : ∀ x, (enc x).length = w) {b : Nat} {h : Zaa} {a : Pt} {n : Nat} {l : List α} (r : Row b h a (n * w) (Zbv enc l)) (hl : l.length = n) {k : Nat} (hk : k < n) (hw0 : w ≠ 0) :
    ∃ i o, ∃ hk' : k < l.length, a = some (i, o) ∧ i < b ∧ Zbw h (.ptr (some (i, o + k * w))) w = some (enc l[k]) ∧ ∀ j, j < w → Zai h (.ptr (some (i, o + k * w + j))) = (enc l[k])[j]? := by
  obtain ⟨_, r⟩ := r
  have hnw : k * w + w ≤ n * w := by rw [← Nat.succ_mul]; exact Nat.mul_le_mul_right _ hk
  rcases r with h0 | ⟨i, o, t, all, ro, ha, hb, hi, hle, hcs⟩
  · omega
  · have hd : (all.drop (o + k * w)).take w = enc l[k] := by
      have h1 : ((all.drop o).take (n * w)).drop (k * w) = Zbv enc (l.drop k) := by rw [← hcs, Zsw hw]
      rw [List.drop_take, List.drop_drop] at h1
      have h2 : (all.drop (o + k * w)).take w = ((all.drop (o + k * w)).take (n * w - k * w)).take w := by rw [List.take_take, Nat.min_eq_left (by omega)]
      rw [h2, h1, List.drop_eq_getElem_cons (by omega), Zem, List.take_append_of_le_length (by rw [hw]; omega), List.take_of_length_le (by rw [hw]; omega)]
    refine ⟨i, o, by omega, ha, hb, ?_, fun j hj => ?_⟩
    · simp only [Zbw, hi]
      rw [if_pos (by omega), hd]
    · simp only [Zai, hi]
      rw [← hd, List.getElem?_take, if_pos hj, List.getElem?_drop]
theorem Row.el1 (hw : ∀ x, (enc x).length = 1) {b : Nat} {h : Zaa} {a : Pt} {n : Nat} {l : List α} (r : Row b h a n (Zbv enc l)) {k : Nat} (hk : k < n) :
    ∃ i o, ∃ hk' : k < l.length, a = some (i, o) ∧ i < b ∧ Zai h (.ptr (some (i, o + k * 1))) = (enc l[k])[0]? := by
  have hl : l.length = n := by have := r.1; rw [Zaw hw] at this; omega
  obtain ⟨i, o, hk', ha, hb, _, hc⟩ := Row.el hw (n := n) (by simpa using r) hl hk (by omega)
  exact ⟨i, o, hk', ha, hb, by simpa using hc 0 (by omega)⟩
end
def eI (n : Int) : List Zag := [.int .i64 n]
def eP (p : List Nat × List Nat) : List Zag := [.str p.1, .str p.2]
theorem Yhw (x : Int) : (eI x).length = 1 := rfl
theorem Zdq (x : List Nat × List Nat) : (eP x).length = 2 := rfl
theorem Zlr {α : Type} {enc : α → List Zag} (he : ∀ x, (enc x).all Zag.leaf = true) (l : List α) : (Zbv enc l).all Zag.leaf = true := by
  induction l with
  | nil => rfl
  | cons x l ih => rw [Zem, List.all_append, he, ih]; rfl
theorem Zcd {k : Nat} (hn : k + 1 ≤ 9223372036854775807) : IntKind.wrap .i64 ((k : Int) + 1) = ((k + 1 : Nat) : Int) := by rw [IntWalk.i64_in _ (by omega)]; omega
end Go.Sim

set_option linter.unusedSimpArgs false
namespace Go.Sim

inductive Ty where
  | k (c : Nat)
  | u (c : Nat) (a : Ty)
  | w (c : Nat) (a b : Ty)
  deriving DecidableEq, Inhabited

namespace Ty
def hd : Ty → Nat | k c => c | u c _ => c | w c _ _ => c
def ps : Ty → List Ty | k _ => [] | u _ a => [a] | w _ a b => [a, b]
def txt : Ty → List Nat
  | k c => [c]
  | u c a => c :: 40 :: (a.txt ++ [41])
  | w c a b => c :: 40 :: (a.txt ++ 44 :: (b.txt ++ [41]))
def size : Ty → Nat | k _ => 1 | u _ a => a.size + 1 | w _ a b => a.size + b.size + 1
end Ty

def Zgr (c : Nat) : Bool := c == 120 || c == 121 || c == 122 || c == 88 || c == 89 || c == 90
def Zlp (c : Nat) : Bool := c == 105 || c == 98 || c == 117 || Zgr c
def arN (c : Nat) : Int := if Zlp c then 0 else if c == 108 || c == 109 then 1 else if c == 112 then 2 else -1
namespace Ty
def ok : Ty → Bool
  | k c => Zlp c
  | u c a => (c == 108 || c == 109) && a.ok
  | w c a b => (c == 112) && a.ok && b.ok
theorem ok_ar {t : Ty} (h : t.ok = true) : arN t.hd = t.ps.length := by
  cases t with
  | k c => simp only [ok] at h; simp [arN, hd, ps, h]
  | u c a => simp only [ok, Bool.and_eq_true, Bool.or_eq_true, beq_iff_eq] at h; rcases h.1 with rfl | rfl <;> rfl
  | w c a b => simp only [ok, Bool.and_eq_true, beq_iff_eq] at h; rcases h.1.1 with rfl; rfl
theorem ok_ps {t : Ty} (h : t.ok = true) : ∀ p ∈ t.ps, p.ok = true := by
  cases t with
  | k c => simp [ps]
  | u c a => simp only [ok, Bool.and_eq_true] at h; simp [ps, h.2]
  | w c a b => simp only [ok, Bool.and_eq_true] at h; simp [ps, h.2, h.1.2]
theorem txt_cons (t : Ty) : ∃ r, t.txt = t.hd :: r := by cases t <;> simp [txt, hd]
theorem txt_ne (t : Ty) : t.txt ≠ [] := by cases t <;> simp [txt]
theorem txt_pos (t : Ty) : 1 ≤ t.txt.length := by have := t.txt_ne; cases h : t.txt <;> simp_all
theorem Yad {s t : Ty} {r r' : List Nat} (h : s.txt ++ r = t.txt ++ r') : s.hd = t.hd := by
  obtain ⟨a, ha⟩ := s.txt_cons; obtain ⟨b, hb⟩ := t.txt_cons
  rw [ha, hb] at h; simp at h; exact h.1
theorem txt_inj : ∀ {s t : Ty} {r r' : List Nat}, s.ok = true → t.ok = true → s.txt ++ r = t.txt ++ r' → s = t ∧ r = r' := by
  intro s
  induction s with
  | k c =>
    intro t r r' hs ht h
    have e := Yad h
    have h1 := ok_ar hs; have h2 := ok_ar ht
    rw [e, h2] at h1
    cases t with
    | k d => simp [txt] at h; simp [h.1, h.2]
    | u d a => simp [ps] at h1
    | w d a b => simp [ps] at h1
  | u c a ih =>
    intro t r r' hs ht h
    have e := Yad h
    have h1 := ok_ar hs; have h2 := ok_ar ht
    rw [e, h2] at h1
    cases t with
    | k d => simp [ps] at h1
    | u d a' =>
      simp only [ok, Bool.and_eq_true] at hs ht
      simp only [txt, List.cons_append, List.append_assoc, List.cons.injEq, true_and] at h
      obtain ⟨rfl, h⟩ := h
      obtain ⟨rfl, h⟩ := ih hs.2 ht.2 h
      simp at h; simp [h]
    | w d a' b' => simp [ps] at h1
  | w c a b iha ihb =>
    intro t r r' hs ht h
    have e := Yad h
    have h1 := ok_ar hs; have h2 := ok_ar ht
    rw [e, h2] at h1
    cases t with
    | k d => simp [ps] at h1
    | u d a' => simp [ps] at h1
    | w d a' b' =>
      simp only [ok, Bool.and_eq_true] at hs ht
      simp only [txt, List.cons_append, List.append_assoc, List.cons.injEq, true_and] at h
      obtain ⟨rfl, h⟩ := h
      obtain ⟨rfl, h5⟩ := iha hs.1.2 ht.1.2 h
      simp only [List.cons.injEq, true_and] at h5
      obtain ⟨rfl, h3⟩ := ihb hs.2 ht.2 h5
      simp at h3; simp [h3]
theorem txt_inj' {s t : Ty} (hs : s.ok = true) (ht : t.ok = true) (h : s.txt = t.txt) : s = t :=
  (txt_inj (r := []) (r' := []) hs ht (by simpa using h)).1
end Ty

def Ztg : List Ty → List Nat
  | [] => []
  | [a] => 40 :: a.txt
  | a :: b :: _ => 40 :: (a.txt ++ 44 :: b.txt)
def Zok (i : Nat) : Nat := if i = 0 then 40 else 44
def Zfs (s : List Nat) (t : Ty) (r : List Nat) : Prop := t.ok = true ∧ s = t.txt ++ r
theorem Zfs.unique {s : List Nat} {t t' : Ty} {r r' : List Nat} (h : Zfs s t r) (h' : Zfs s t' r') : t = t' ∧ r = r' :=
  Ty.txt_inj h.1 h'.1 (by rw [← h.2, ← h'.2])
theorem Zfs.nil {t : Ty} {r : List Nat} : ¬ Zfs [] t r := by
  rintro ⟨_, h⟩; have := t.txt_ne; simp at h; exact this h.1
theorem Zfs.step {c : Nat} {l : List Ty} {s r : List Nat} {t : Ty} (hl : ∀ p ∈ l, p.ok = true) (h : Zfs (c :: (Ztg l ++ s)) t r) (hn : l.length ≤ t.ps.length) :
    t.hd = c ∧ l = t.ps.take l.length ∧ (l.length < t.ps.length → ∃ p s', s = Zok l.length :: s' ∧ ∃ r', Zfs s' p r') ∧ (l.length = t.ps.length → s = (if t.ps = [] then r else 41 :: r)) := by
  obtain ⟨ht, h⟩ := h
  match l, hn with
  | [], _ =>
    simp only [Ztg, List.nil_append] at h
    cases t with
    | k d => simp [Ty.txt] at h; simp [Ty.hd, Ty.ps, h]
    | u d a =>
      simp [Ty.txt] at h; simp only [Ty.ok, Bool.and_eq_true] at ht
      exact ⟨h.1.symm, rfl, fun _ => ⟨a, _, h.2, _, ht.2, rfl⟩, fun e => by simp [Ty.ps] at e⟩
    | w d a b =>
      simp [Ty.txt] at h; simp only [Ty.ok, Bool.and_eq_true] at ht
      exact ⟨h.1.symm, rfl, fun _ => ⟨a, _, h.2, _, ht.1.2, rfl⟩, fun e => by simp [Ty.ps] at e⟩
  | [x], hn =>
    have hx := hl x (by simp)
    cases t with
    | k d => simp [Ty.ps] at hn
    | u d a =>
      simp only [Ty.ok, Bool.and_eq_true] at ht
      simp only [Ztg, Ty.txt, List.cons_append, List.append_assoc, List.cons.injEq, true_and] at h
      obtain ⟨rfl, h⟩ := h
      obtain ⟨rfl, h2⟩ := Ty.txt_inj hx ht.2 h
      exact ⟨rfl, rfl, fun e => by simp [Ty.ps] at e, fun _ => by simp [Ty.ps, h2]⟩
    | w d a b =>
      simp only [Ty.ok, Bool.and_eq_true] at ht
      simp only [Ztg, Ty.txt, List.cons_append, List.append_assoc, List.cons.injEq, true_and] at h
      obtain ⟨rfl, h⟩ := h
      obtain ⟨rfl, h2⟩ := Ty.txt_inj hx ht.1.2 h
      exact ⟨rfl, rfl, fun _ => ⟨b, _, h2, _, ht.2, rfl⟩, fun e => by simp [Ty.ps] at e⟩
  | [x, y], hn =>
    have hx := hl x (by simp)
    have hy := hl y (by simp)
    cases t with
    | k d => simp [Ty.ps] at hn
    | u d a => simp [Ty.ps] at hn
    | w d a b =>
      simp only [Ty.ok, Bool.and_eq_true] at ht
      simp only [Ztg, Ty.txt, List.cons_append, List.append_assoc, List.cons.injEq, true_and] at h
      obtain ⟨rfl, h⟩ := h
      obtain ⟨rfl, h2⟩ := Ty.txt_inj hx ht.1.2 h
      simp only [List.cons.injEq, true_and] at h2
      obtain ⟨rfl, h3⟩ := Ty.txt_inj hy ht.2 h2
      exact ⟨rfl, rfl, fun e => by simp [Ty.ps] at e, fun _ => by simp [Ty.ps, h3]⟩
  | _ :: _ :: _ :: _, hn => cases t <;> simp [Ty.ps] at hn

open Classical in
noncomputable def Zqc (s : List Nat) : Option Ty := if h : ∃ t : Ty, t.ok = true ∧ s = t.txt then some h.choose else none
theorem Ztt {t : Ty} (h : t.ok = true) : Zqc t.txt = some t := by
  have hex : ∃ u : Ty, u.ok = true ∧ t.txt = u.txt := ⟨t, h, rfl⟩
  unfold Zqc
  rw [dif_pos hex]
  exact congrArg some (Ty.txt_inj' h hex.choose_spec.1 hex.choose_spec.2).symm
theorem Zol {s : List Nat} {t : Ty} : Zqc s = some t ↔ t.ok = true ∧ s = t.txt := by
  constructor
  · intro h
    unfold Zqc at h
    split at h
    · rename_i hex
      have e := (Option.some.inj h)
      have := hex.choose_spec
      rw [e] at this; exact this
    · cases h
  · rintro ⟨h, rfl⟩; exact Ztt h
theorem Zme {s : List Nat} : Zqc s = none ↔ ∀ t : Ty, t.ok = true → s ≠ t.txt := by
  constructor
  · intro h t ht e
    rw [e, Ztt ht] at h; cases h
  · intro h
    cases e : Zqc s with
    | none => rfl
    | some t => obtain ⟨h1, h2⟩ := Zol.1 e; exact absurd h2 (h t h1)
noncomputable def Zlm (s : List Nat) : Option Ty := if s.length ≤ 60 then Zqc s else none
theorem Zrv {s : List Nat} {t : Ty} : Zlm s = some t ↔ t.ok = true ∧ s = t.txt ∧ s.length ≤ 60 := by
  unfold Zlm
  by_cases h : s.length ≤ 60
  · simp only [h, if_true, and_true]; exact Zol
  · simp [h]
noncomputable def Zpe (s : List Nat) : Bool := (Zlm s).isSome
theorem Zxw {s : List Nat} : Zpe s = true ↔ ∃ t : Ty, t.ok = true ∧ s = t.txt ∧ s.length ≤ 60 := by
  unfold Zpe; rw [Option.isSome_iff_exists]; simp only [Zrv]
theorem Ygr {s : List Nat} (h : Zpe s = true) : s ≠ [] := by obtain ⟨t, _, rfl, _⟩ := Zxw.1 h; exact t.txt_ne

namespace Ty
end Ty
end Go.Sim

set_option linter.unusedSimpArgs false
namespace Go.Sim

end Go.Sim

set_option linter.unusedVariables false
namespace Go.Sim
open Go Go.RowKit
theorem Zjc {h : Zaa} {s : List Nat} {c : Nat} : Zae pg Zee [.str s, .str [c]] h fun v h' => v = .bool (decide (c ∈ s)) ∧ h' = h :=
  Zae.contains1 ⟨_, Go.Proofs.Try.func92, by kernel_rfl, by kernel_rfl⟩ Go.Proofs.Try.strings_Contains_one
theorem Zni {h : Zaa} {s p : List Nat} : Zae pg Zgp [.str s, .str p] h fun v h' => v = .bool (p.isPrefixOf s) ∧ h' = h :=
  Zae.hasPrefix ⟨_, Go.Proofs.Try.func108, by kernel_rfl, by kernel_rfl⟩ Go.Proofs.Try.strings_HasPrefix
end Go.Sim

set_option linter.unusedVariables false
set_option linter.unusedSimpArgs false
namespace Go.Sim
open Go Go.RowKit

@[simp] theorem Yff (c : Nat) (s : List Nat) : sub (c :: s) 0 1 = [c] := by simp [sub]
@[simp] theorem Yfg (c : Nat) (s : List Nat) : sub (c :: s) 1 ((c :: s).length : Int) = s := by
  simp only [sub, Int.toNat_natCast, List.take_length]; rfl
theorem Yaw {s s' : List Nat} {c : Nat} (h : s = c :: s') : sub s 1 (s.length : Int) = s' := by subst h; exact Yfg c s'
theorem Ydb (c : Nat) : decide (c ∈ [105, 98, 117, 120, 121, 122, 88, 89, 90]) = Zlp c := by
  rw [Bool.eq_iff_iff]; simp [Zlp, Zgr, or_assoc]
def arS (s : List Nat) : Int := match s with | [c] => arN c | _ => -1
theorem Zwz {h : Zaa} (s : List Nat) : Zae pg Zji [.str s] h fun v h' => v = .int .i64 (arS s) ∧ h' = h := by
  apply Zlz.call
  match s with
  | [] => simp [arS]
  | [c] =>
    simp only [List.length_cons, List.length_nil]
    simp only [show ((0 + 1 : Nat) : Int) = 1 from rfl, beq_self_eq_true, Bool.not_true, Zbj]
    refine Zjc.mono ?_
    rintro v h' ⟨rfl, rfl⟩
    simp only [Zat, Ydb]
    unfold arS
    cases hl : Zlp c with
    | true => simp [arN, hl]
    | false =>
      simp only [Zbj, if_false, Bool.false_eq_true]
      refine Zam (fun e => by simp at e; subst e; exact ⟨rfl, by trivial⟩) fun e1 => Zam (fun e => by simp at e; subst e; exact ⟨rfl, by trivial⟩) fun e2 => Zam (fun e => by simp at e; subst e; exact ⟨rfl, by trivial⟩) fun e3 => ?_
      simp at e1 e2 e3
      apply Zlz.J9i
      simp [arN, hl, e1, e2, e3]
  | _ :: _ :: r =>
    simp [arS]
    rw [show ((r.length : Int) + 1 + 1 == 1) = false by simp; omega]; simp

def Znf (S : Nat → Prop) (h : Zaa) : Ty → Pt → Prop
  | .k d, p => ∃ i a c e, p = some (i, 0) ∧ S i ∧ h[i]? = some (.cells Zdr [.str [d], .slice a 0 c e, .ptr none] false)
  | .u d x, p => ∃ i j c e q, p = some (i, 0) ∧ S i ∧ h[i]? = some (.cells Zdr [.str [d], .slice (some (j, 0)) 1 c e, .ptr none] false) ∧ S j ∧ h[j]? = some (.cells Zdu [.ptr q] false) ∧ Znf S h x q
  | .w d x y, p => ∃ i j c e q r, p = some (i, 0) ∧ S i ∧ h[i]? = some (.cells Zdr [.str [d], .slice (some (j, 0)) 2 c e, .ptr none] false) ∧ S j ∧ h[j]? = some (.cells Zdu [.ptr q, .ptr r] false) ∧ Znf S h x q ∧ Znf S h y r
theorem Znf.mono {S S' : Nat → Prop} {h : Zaa} (hs : ∀ i, S i → S' i) : ∀ {t : Ty} {p : Pt}, Znf S h t p → Znf S' h t p
  | .k d, p, ⟨i, a, c, e, hp, si, hi⟩ => ⟨i, a, c, e, hp, hs _ si, hi⟩
  | .u d x, p, ⟨i, j, c, e, q, hp, si, hi, sj, hj, hq⟩ => ⟨i, j, c, e, q, hp, hs _ si, hi, hs _ sj, hj, hq.mono hs⟩
  | .w d x y, p, ⟨i, j, c, e, q, r, hp, si, hi, sj, hj, hq, hr⟩ => ⟨i, j, c, e, q, r, hp, hs _ si, hi, hs _ sj, hj, hq.mono hs, hr.mono hs⟩
theorem Znf.agree {S : Nat → Prop} {h h' : Zaa} (hh : ∀ i, S i → h'[i]? = h[i]?) : ∀ {t : Ty} {p : Pt}, Znf S h t p → Znf S h' t p
  | .k d, p, ⟨i, a, c, e, hp, si, hi⟩ => ⟨i, a, c, e, hp, si, by rw [hh i si]; exact hi⟩
  | .u d x, p, ⟨i, j, c, e, q, hp, si, hi, sj, hj, hq⟩ => ⟨i, j, c, e, q, hp, si, by rw [hh i si]; exact hi, sj, by rw [hh j sj]; exact hj, hq.agree hh⟩
  | .w d x y, p, ⟨i, j, c, e, q, r, hp, si, hi, sj, hj, hq, hr⟩ => ⟨i, j, c, e, q, r, hp, si, by rw [hh i si]; exact hi, sj, by rw [hh j sj]; exact hj, hq.agree hh, hr.agree hh⟩
theorem Znf.lt {S : Nat → Prop} {h : Zaa} : ∀ {t : Ty} {p : Pt}, Znf S h t p → ∃ i, p = some (i, 0) ∧ S i ∧ i < h.length
  | .k d, p, ⟨i, a, c, e, hp, si, hi⟩ => ⟨i, hp, si, Own.lt hi⟩
  | .u d x, p, ⟨i, j, c, e, q, hp, si, hi, _⟩ => ⟨i, hp, si, Own.lt hi⟩
  | .w d x y, p, ⟨i, j, c, e, q, r, hp, si, hi, _⟩ => ⟨i, hp, si, Own.lt hi⟩
theorem Znf.parts {S : Nat → Prop} {h : Zaa} {t : Ty} {p : Pt} (r : Znf S h t p) : ∃ i a c e, ∃ qs : List Pt, p = some (i, 0) ∧ S i ∧ h[i]? = some (.cells Zdr [.str [t.hd], .slice a t.ps.length c e, .ptr none] false) ∧
    Row h.length h a t.ps.length (qs.map .ptr) ∧ (∀ j o, t.ps.length ≠ 0 → a = some (j, o) → S j) ∧ qs.length = t.ps.length ∧ ∀ (k : Nat) (q : Pt) (x : Ty), qs[k]? = some q → t.ps[k]? = some x → Znf S h x q := by
  cases t with
  | k d =>
    obtain ⟨i, a, c, e, hp, si, hi⟩ := r
    exact ⟨i, a, c, e, [], hp, si, hi, Row.nil, fun _ _ h => absurd rfl h, rfl, by simp⟩
  | u d x =>
    obtain ⟨i, j, c, e, q, hp, si, hi, sj, hj, hq⟩ := r
    refine ⟨i, _, c, e, [q], hp, si, hi, ⟨rfl, .inr ⟨j, 0, _, _, _, rfl, Own.lt hj, hj, by simp [Ty.ps], by simp [Ty.ps]⟩⟩, ?_, rfl, ?_⟩
    · rintro j' o' _ e; cases e; exact sj
    · intro k q' x' h1 h2
      cases k with
      | zero => simp [Ty.ps] at h1 h2; subst h1; subst h2; exact hq
      | succ k => simp at h1
  | w d x y =>
    obtain ⟨i, j, c, e, q, r, hp, si, hi, sj, hj, hq, hr⟩ := r
    refine ⟨i, _, c, e, [q, r], hp, si, hi, ⟨rfl, .inr ⟨j, 0, _, _, _, rfl, Own.lt hj, hj, by simp [Ty.ps], by simp [Ty.ps]⟩⟩, ?_, rfl, ?_⟩
    · rintro j' o' _ e; cases e; exact sj
    · intro k q' x' h1 h2
      match k with
      | 0 => simp [Ty.ps] at h1 h2; subst h1; subst h2; exact hq
      | 1 => simp [Ty.ps] at h1 h2; subst h1; subst h2; exact hr
      | k + 2 => simp at h1
theorem Znf.make {S : Nat → Prop} {h : Zaa} {t : Ty} {i : Nat} {a : Pt} {n c : Nat} {e : Bool} {qs : List Pt} (si : S i) (hi : h[i]? = some (.cells Zdr [.str [t.hd], .slice a n c e, .ptr none] false)) (hn : n = t.ps.length)
    (hv : Vec Zdu h a n c (qs.map .ptr)) (hl : qs.length = n) (ha : ∀ j, a = some (j, 0) → S j) (hq : ∀ (k : Nat) (q : Pt) (x : Ty), qs[k]? = some q → t.ps[k]? = some x → Znf S h x q) : Znf S h t (some (i, 0)) := by
  subst hn
  cases t with
  | k d => exact ⟨i, a, c, e, rfl, si, hi⟩
  | u d x =>
    rcases hv with ⟨_, h0, _⟩ | ⟨j, rfl, hj⟩
    · simp [Ty.ps] at h0
    · match qs, hl with
      | [q], _ => exact ⟨i, j, c, e, q, rfl, si, hi, ha j rfl, hj, hq 0 q x rfl rfl⟩
  | w d x y =>
    rcases hv with ⟨_, h0, _⟩ | ⟨j, rfl, hj⟩
    · simp [Ty.ps] at h0
    · match qs, hl with
      | [q, r], _ => exact ⟨i, j, c, e, q, r, rfl, si, hi, ha j rfl, hj, hq 0 q x rfl rfl, hq 1 r y rfl rfl⟩

theorem Zzp : pg.underlying Zlo = some (.slice Zdu) := by kernel_rfl
theorem Ydn : pg.cellsOf Zdu = 1 := by kernel_rfl
theorem Ydg : pg.okElem Zdu = true := by kernel_rfl
theorem Yds : pg.bytesOf Zdu ≤ 127 := Nat.le_of_ble_eq_true (by kernel_rfl)

theorem Yed {g : Nat} (hg : g < 2) : sub [40, 44] (g : Int) (IntKind.wrap .i64 ((g : Int) + 1)) = [Zok g] := by
  rcases g with _ | _ | g
  · rfl
  · rfl
  · omega
theorem Zmg (c : Nat) (s : List Nat) : ([c] : List Nat).isPrefixOf s = true ↔ ∃ r, s = c :: r := by
  cases s with
  | nil => exact ⟨fun h => (by cases h), fun ⟨r, h⟩ => (by cases h)⟩
  | cons d r =>
    have : ([c] : List Nat).isPrefixOf (d :: r) = (c == d) := by show (c == d && _) = _; exact Bool.and_true _
    rw [this, beq_iff_eq]
    exact ⟨fun h => ⟨r, by rw [h]⟩, fun ⟨r', h⟩ => (by cases h; rfl)⟩
def Btw (lo hi : Nat) : Nat → Prop := fun i => lo ≤ i ∧ i < hi
set_option maxRecDepth 20000 in
theorem Zwm : ∀ (N : Nat) (s : List Nat), s.length ≤ N → ∀ h : Zaa, Zae pg Zgw [.str s] h fun v h' => Zbd h.length h h' ∧ ∃ p r, v = .tup [.ptr p, .str r] ∧
    ((∃ t, Zfs s t r ∧ Znf (Btw h.length h'.length) h' t p) ∨ (p = none ∧ ∀ t r', ¬ Zfs s t r')) := by
  intro N
  induction N with
  | zero =>
    intro s hs h
    have : s = [] := List.eq_nil_of_length_eq_zero (by omega)
    subst this
    apply Zdh.call
    simp
    exact ⟨Zbd.refl _ _, none, [], ⟨rfl, rfl⟩, .inr ⟨rfl, fun t r' => Zfs.nil⟩⟩
  | succ N ih =>
    intro s hs h
    apply Zdh.call
    match s, hs with
    | [], _ => simp; exact ⟨Zbd.refl _ _, none, [], ⟨rfl, rfl⟩, .inr ⟨rfl, fun t r' => Zfs.nil⟩⟩
    | c :: s, hs =>
    simp only [List.length_cons] at hs
    simp only [reduceCtorEq, decide_false, Zbj]
    refine ⟨⟨by omega, by omega, by simp; omega⟩, ?_⟩
    rw [Yff]
    refine (Zwz [c]).mono ?_
    rintro v h1 ⟨rfl, rfl⟩
    simp only [Zbe, arS]
    refine Zam (fun hneg => ?_) (fun hge => ?_)
    · refine ⟨Zbd.refl _ _, _, _, rfl, .inr ⟨rfl, ?_⟩⟩
      rintro t r' ⟨ht, he⟩
      have := Ty.ok_ar ht
      obtain ⟨r, hr⟩ := t.txt_cons
      rw [hr] at he; simp at he
      rw [← he.1] at this; omega
    · apply Zdh.J3i
      refine ⟨⟨by omega, by omega, by simp; omega⟩, ?_⟩
      simp only [Zbf]
      refine ⟨⟨by omega, by simp; omega, by simp⟩, ?_⟩
      rw [Yff, Yfg]
      have hc0 : Zai (h1 ++ [Zck.cells Zdr [.str [c], .slice none 0 0 true, .ptr none] false]) (.ptr (some (h1.length, 0 + 0))) = some (.str [c]) := by simp [Zai]
      rw [hc0]
      simp only [Zal]
      refine (Zwz [c]).mono ?_
      rintro v h2 ⟨rfl, rfl⟩
      simp only [Zbe, arS]
      obtain ⟨m, hm⟩ : ∃ m : Nat, arN c = m := ⟨(arN c).toNat, by omega⟩
      have hm2 : m ≤ 2 := by unfold arN at hm; split at hm <;> try split at hm
                             all_goals try split at hm
                             all_goals omega
      rw [hm]
      refine Zdh.L6ind _ _ _ _ (J := fun (g : Nat) x0 x28 h' => x28 = (g : Int) ∧ g ≤ m ∧ Zbd h1.length h1 h' ∧ h1.length < h'.length ∧ x0.length ≤ N ∧ ∃ (ps : List Ty) (qs : List Pt) (a : Pt) (cp : Nat) (e : Bool), ps.length = g ∧ qs.length = g ∧ (∀ p ∈ ps, p.ok = true) ∧ s = Ztg ps ++ x0 ∧
        h'[h1.length]? = some (.cells Zdr [.str [c], .slice a g cp e, .ptr none] false) ∧ Vec Zdu h' a g cp (qs.map .ptr) ∧ (∀ j, a = some (j, 0) → h1.length < j) ∧
        ∀ (k : Nat) (q : Pt) (x : Ty), qs[k]? = some q → ps[k]? = some x → ∃ lo hi, h1.length < lo ∧ hi ≤ h'.length ∧ (∀ j, a = some (j, 0) → ¬ Btw lo hi j) ∧ Znf (Btw lo hi) h' x q)
        (fun g => m - g) ?_ 0 _ _ _ ⟨rfl, by omega, Zbd.app (Nat.le_refl _) _, by simp, by omega, [], [], none, 0, true, rfl, rfl, by simp, by simp [Ztg], by simp, Vec.mk0, by simp, by simp⟩
      rintro g x0 x28 h' ⟨rfl, hg, hS, hlt1, hx0, ps, qs, a, cp, e, hps, hqs, hok, hs0, hnode, hvec, ha, hrep⟩ R hR
      unfold Zdh.L6t
      have fail : ∀ (h2 : Zaa), Zbd h'.length h' h2 → (∀ t r', ¬ Zfs (c :: s) t r') → Zbd h1.length h1 h2 ∧ ∃ p r, (Zag.tup [.ptr none, .str x0]) = .tup [.ptr p, .str r] ∧
          ((∃ t, Zfs (c :: s) t r ∧ Znf (Btw h1.length h2.length) h2 t p) ∨ (p = none ∧ ∀ t r', ¬ Zfs (c :: s) t r')) :=
        fun h2 s2 hno => ⟨hS.trans (s2.mono hS.le), none, x0, rfl, .inr ⟨rfl, hno⟩⟩
      have step : ∀ t r', Zfs (c :: s) t r' → t.hd = c ∧ t.ps.length = m ∧ ps = t.ps.take ps.length ∧ (ps.length < t.ps.length → ∃ p s', x0 = Zok ps.length :: s' ∧ ∃ r', Zfs s' p r') ∧ (ps.length = t.ps.length → x0 = (if t.ps = [] then r' else 41 :: r')) := by
        intro t r' ho
        have h1 := Ty.ok_ar ho.1
        have hhd : t.hd = c := by
          obtain ⟨r, hr⟩ := t.txt_cons
          have := ho.2; rw [hr] at this; simp at this; exact this.1.symm
        rw [hhd, hm] at h1
        rw [hs0] at ho
        have := ho.step hok (by omega)
        exact ⟨hhd, by omega, this.2⟩
      refine Zam (fun hlt => ?_) (fun hge2 => ?_)
      · have hlt' : g < m := by omega
        refine ⟨⟨by omega, ?_, ?_⟩, ?_⟩
        · rw [IntWalk.i64_in _ (by omega)]; omega
        · rw [IntWalk.i64_in _ (by omega)]; simp; omega
        rw [Yed (by omega)]
        refine Zni.mono ?_
        rintro v h2 ⟨rfl, rfl⟩
        simp only [Zat]
        cases hp : ([Zok g] : List Nat).isPrefixOf x0 with
        | false =>
          simp only [Bool.not_false, Zfd]
          refine fail _ (Zbd.refl _ _) fun t r' ho => ?_
          obtain ⟨_, hl, _, hst, _⟩ := step t r' ho
          obtain ⟨p, s', hx, _⟩ := hst (by omega)
          rw [hps] at hx
          have : ([Zok g] : List Nat).isPrefixOf x0 = true := (Zmg _ _).2 ⟨_, hx⟩
          rw [hp] at this; cases this
        | true =>
          obtain ⟨s', hx⟩ := (Zmg _ _).1 hp
          simp only [Bool.not_true, Zbj]
          refine ⟨⟨by omega, by rw [hx]; simp; omega, by omega⟩, ?_⟩
          rw [Yaw hx]
          have hsl : s'.length ≤ N := by rw [hx] at hx0; simp at hx0; omega
          refine (ih s' hsl h2).mono ?_
          rintro v h3 ⟨hS3, p, r, rfl, hres⟩
          simp only [Zkk, Zah, Zpw, Zal, Zap]
          rcases hres with ⟨t, ho, hn⟩ | ⟨rfl, hno⟩
          · obtain ⟨i, rfl, hbi, hil⟩ := hn.lt
            simp only [Option.isNone_some, Zbj]
            have hn3 : h3[h1.length]? = some (.cells Zdr [.str [c], .slice a g cp e, .ptr none] false) := by rw [hS3.eq _ hlt1]; exact hnode
            have hcell : Zai h3 (.ptr (some (h1.length, 0 + 1))) = some (.slice a g cp e) := by simp [Zai, hn3]
            rw [hcell]
            simp only [Zaf, Zbf]
            refine (hvec.same hS3).push Zzp Ydn Ydg Yds (by simp [hqs]) rfl (by omega) (fun h4 hl4 hi4 hk4 => ?_)
            simp only [Zaf]
            have hn4 : h4[h1.length]? = some (.cells Zdr [.str [c], .slice a g cp e, .ptr none] false) := by
              rw [hk4 _ (Own.lt hn3) fun i hi => by have := ha i hi; omega]; exact hn3
            have hst : Zbc h4 (.ptr (some (h1.length, 0 + 1))) [.slice (some (h3.length + 1, 0)) (g + 1) (g + 1) false] = some (h4.set h1.length (.cells Zdr [.str [c], .slice (some (h3.length + 1, 0)) (g + 1) (g + 1) false, .ptr none] false)) := by
              simp [Zbc, hn4, Zbi]
            rw [hst]
            simp only [Zar]
            rw [IntWalk.i64_in _ (by omega)]
            have hle3 := hS3.le
            have hset : ∀ j, j ≠ h1.length → (h4.set h1.length (Zck.cells Zdr [.str [c], .slice (some (h3.length + 1, 0)) (g + 1) (g + 1) false, .ptr none] false))[j]? = h4[j]? := fun j hj => List.getElem?_set_ne (by omega)
            have hsame : ∀ j, j < h1.length → h4[j]? = h1[j]? := fun j hj => by
              rw [hk4 j (by omega) fun i hi => by have := ha i hi; omega, hS3.eq j (by omega), hS.eq j hj]
            refine hR (g + 1) _ _ _ (by omega) ⟨by omega, by omega, ⟨by simp; omega, fun j hj => by rw [hset j (by omega)]; exact hsame j hj⟩, by simp; omega, ?_, ps ++ [t], qs ++ [some (i, 0)], some (h3.length + 1, 0), g + 1, false, by simp [hps], by simp [hqs], ?_, ?_, ?_, ?_, ?_, ?_⟩
            · have := ho.2; have hl := congrArg List.length this; simp at hl; omega
            · intro p hp
              rcases List.mem_append.1 hp with hp | hp
              · exact hok p hp
              · simp at hp; subst hp; exact ho.1
            · rw [hs0, hx, ho.2]
              match ps, hps, hlt' with
              | [], hps, _ => subst hps; simp [Ztg, Zok]
              | [x], hps, _ => subst hps; simp [Ztg, Zok]
              | x :: y :: l, hps, _ => simp at hps; omega
            · rw [List.getElem?_set_self (by omega)]
            · refine Vec.mk1 ?_
              rw [hset _ (by omega)]
              simpa using hi4
            · intro j hj; cases hj; omega
            · intro k q x hq hx'
              by_cases hkg : k < g
              · rw [List.getElem?_append_left (by omega)] at hq hx'
                obtain ⟨lo, hi, hlo, hhi, hbt, hnr⟩ := hrep k q x hq hx'
                refine ⟨lo, hi, hlo, by simp; omega, fun j hj hb => by cases hj; have := hb.2; omega, hnr.agree fun j hb => ?_⟩
                have := hb.1; have := hb.2
                rw [hset j (by omega), hk4 j (by omega) fun i hi => fun e => hbt i hi (e ▸ hb), hS3.eq j (by omega)]
              · have hkg' : k = g := by
                  have := (List.getElem?_eq_some_iff.1 hq).1; simp at this; omega
                subst hkg'
                rw [List.getElem?_append_right (by omega)] at hq hx'
                simp [hps, hqs] at hq hx'
                subst hq; subst hx'
                refine ⟨h2.length, h3.length, by omega, by simp; omega, fun j hj hb => by cases hj; have := hb.2; omega, hn.agree fun j hb => ?_⟩
                have := hb.1; have := hb.2
                rw [hset j (by omega), hk4 j (by omega) fun i hi => fun e => by
                  subst e
                  rw [hi] at hvec
                  have := hvec.lt
                  omega]
          · simp only [Option.isNone_none, Zfd]
            refine fail _ hS3 fun t r' ho => ?_
            obtain ⟨_, hl, _, hst, _⟩ := step t r' ho
            obtain ⟨p, s2, hx2, r2, ho2⟩ := hst (by omega)
            rw [hps, hx] at hx2
            simp at hx2
            rw [← hx2] at ho2
            exact hno _ _ ho2
      · have hgm : g = m := by omega
        subst hgm
        apply Zdh.A6x0i
        have hcell : Zai h' (.ptr (some (h1.length, 0 + 1))) = some (.slice a g cp e) := by simp [Zai, hnode]
        rw [hcell]
        simp only [Zaf]
        have mk : ∀ t r', Zfs (c :: s) t r' → Znf (Btw h1.length h'.length) h' t (some (h1.length, 0)) := by
          intro t r' ho
          obtain ⟨hhd, hl, htk, _⟩ := step t r' ho
          rw [hps, ← hl, List.take_length] at htk
          refine Znf.make (S := Btw h1.length h'.length) (a := a) (n := g) (c := cp) (e := e) (qs := qs) ⟨Nat.le_refl _, hlt1⟩ (by rw [hhd]; exact hnode) (by omega) hvec hqs (fun j hj => ⟨by have := ha j hj; omega, by subst hj; exact hvec.lt⟩) fun k q x hq hx => ?_
          rw [← htk] at hx
          obtain ⟨lo, hi, hlo, hhi, hbt, hnr⟩ := hrep k q x hq hx
          exact hnr.mono fun i hb => ⟨by have := hb.1; omega, by have := hb.2; omega⟩
        -- the type that was read
        have hty : ∃ t : Ty, t.ok = true ∧ t.hd = c ∧ t.ps = ps := by
          match ps, hps, hok with
          | [], hps, _ =>
            have h0 : arN c = 0 := by simp at hps; omega
            refine ⟨.k c, ?_, rfl, rfl⟩
            simp only [Ty.ok]
            cases hl : Zlp c with
            | true => rfl
            | false => unfold arN at h0; rw [hl] at h0; simp at h0; split at h0 <;> try split at h0
                       all_goals omega
          | [x], hps, hok =>
            have h0 : arN c = 1 := by simp at hps; omega
            refine ⟨.u c x, ?_, rfl, rfl⟩
            simp only [Ty.ok, hok x (by simp), Bool.and_true, Bool.or_eq_true, beq_iff_eq]
            unfold arN at h0; split at h0
            · omega
            · split at h0
              · rename_i h; simpa using h
              · split at h0 <;> omega
          | [x, y], hps, hok =>
            have h0 : arN c = 2 := by simp at hps; omega
            refine ⟨.w c x y, ?_, rfl, rfl⟩
            simp only [Ty.ok, hok x (by simp), hok y (by simp), Bool.and_true, beq_iff_eq]
            unfold arN at h0; split at h0
            · omega
            · split at h0
              · omega
              · split at h0
                · rename_i h; simpa using h
                · omega
          | _ :: _ :: _ :: _, hps, _ => simp at hps; omega
        obtain ⟨t, htok, hthd, htps⟩ := hty
        refine Zam (fun hpos => ?_) (fun hz => ?_)
        · refine Zni.mono ?_
          rintro v h2 ⟨rfl, rfl⟩
          simp only [Zat]
          have hne : ps ≠ [] := by intro e; subst e; simp at hps; omega
          cases hp : ([41] : List Nat).isPrefixOf x0 with
          | false =>
            simp only [Bool.not_false, Zfd]
            refine fail _ (Zbd.refl _ _) fun t r' ho => ?_
            obtain ⟨_, hl, htk, _, hst⟩ := step t r' ho
            have := hst (by omega)
            have hne : t.ps ≠ [] := by intro e; rw [e] at hl; simp at hl; omega
            rw [if_neg hne] at this
            have : ([41] : List Nat).isPrefixOf x0 = true := (Zmg _ _).2 ⟨_, this⟩
            rw [hp] at this; cases this
          | true =>
            obtain ⟨s', hx⟩ := (Zmg _ _).1 hp
            simp only [Bool.not_true, Zbj]
            refine ⟨⟨by omega, by rw [hx]; simp; omega, by omega⟩, ?_⟩
            rw [Yaw hx]
            apply Zdh.J20i
            have ho : Zfs (c :: s) t s' := by
              refine ⟨htok, ?_⟩
              rw [hs0, hx]
              cases t with
              | k d => simp [Ty.ps] at htps; subst htps; exact absurd rfl hne
              | u d x => simp [Ty.ps] at htps; subst htps; simp [Ty.hd] at hthd; subst hthd; simp [Ztg, Ty.txt]
              | w d x y => simp [Ty.ps] at htps; subst htps; simp [Ty.hd] at hthd; subst hthd; simp [Ztg, Ty.txt]
            exact ⟨hS, _, _, rfl, .inl ⟨t, ho, mk _ _ ho⟩⟩
        · apply Zdh.J20i
          have h0 : ps = [] := List.eq_nil_of_length_eq_zero (by omega)
          subst h0
          have ho : Zfs (c :: s) t x0 := by
            refine ⟨htok, ?_⟩
            rw [hs0]
            cases t with
            | k d => simp [Ty.hd] at hthd; subst hthd; simp [Ztg, Ty.txt]
            | u d x => simp [Ty.ps] at htps
            | w d x y => simp [Ty.ps] at htps
          exact ⟨hS, _, _, rfl, .inl ⟨t, ho, mk _ _ ho⟩⟩

theorem Ybo (s : List Nat) (h : Zaa) : Zae pg Zkp [.str s] h fun v h' => Zbd h.length h h' ∧ ∃ p, v = .ptr p ∧ (match Zlm s with | some t => Znf (Btw h.length h'.length) h' t p | none => p = none) := by
  apply Zne.call
  refine Zam (fun hl => ?_) (fun hl => ?_)
  · have : Zlm s = none := by unfold Zlm; rw [if_neg (by omega)]
    rw [this]
    exact ⟨Zbd.refl _ _, none, rfl, rfl⟩
  · refine (Zwm s.length s (Nat.le_refl _) h).mono ?_
    rintro v h1 ⟨hS, p, r, rfl, hres⟩
    simp only [Zkk, Zah, Zpw, Zal, Zap]
    have hof : Zlm s = Zqc s := by unfold Zlm; rw [if_pos (by omega)]
    rw [hof]
    rcases hres with ⟨t, ho, hn⟩ | ⟨rfl, hno⟩
    · by_cases hr : r = []
      · subst hr
        have : Zqc s = some t := Zol.2 ⟨ho.1, by simpa using ho.2⟩
        simp [this]; exact ⟨hS, hn⟩
      · have : Zqc s = none := Zme.2 fun t' ht' e => by
          have := Zfs.unique ho ⟨ht', show s = t'.txt ++ [] by simpa using e⟩
          exact hr this.2
        simp [hr, this]; exact hS
    · have : Zqc s = none := Zme.2 fun t' ht' e => hno t' [] ⟨ht', by simpa using e⟩
      rw [this]
      by_cases hr : r = []
      · simp [hr]; exact hS
      · simp [hr]; exact hS
theorem Zop (s : List Nat) (h : Zaa) : Zae pg Zgk [.str s] h fun v h' => v = .bool (Zpe s) ∧ Zbd h.length h h' := by
  apply Zll.call
  refine (Ybo s h).mono ?_
  rintro v h1 ⟨hS, p, rfl, hp⟩
  simp only [Zpw]
  unfold Zpe
  cases ho : Zlm s with
  | none => rw [ho] at hp; subst hp; simp; exact hS
  | some t => rw [ho] at hp; obtain ⟨i, rfl, _⟩ := hp.lt; simp; exact hS
end Go.Sim
