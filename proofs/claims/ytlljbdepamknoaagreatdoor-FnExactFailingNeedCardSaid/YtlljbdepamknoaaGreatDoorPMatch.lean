/- A part of the proof of a statement of this seat: see the text that holds the theorem. No condition. -/
import Derived.Test.YtlljbdepamknoaaGreatDoorPTCWLaw
import Derived.Test.YtlljbdepamknoaaGreatDoorCWLaw
import Derived.Test.YtlljbdepamknoaaGreatDoorNm
import Derived.Test.YtlljbdepamknoaaGreatDoorCVars
import Derived.Test.YtlljbdepamknoaaGreatDoorPTCSApply2
import Derived.Test.YtlljbdepamknoaaGreatDoorPTCText
import Derived.Test.YtlljbdepamknoaaGreatDoorCTy
import Derived.Test.YtlljbdepamknoaaGreatDoorSimX
import Derived.Test.YtlljbdepamknoaaGreatDoorShelf
set_option linter.unusedVariables false
set_option linter.unusedSimpArgs false
set_option linter.all false
set_option linter.unusedVariables false
set_option linter.unusedSimpArgs false
set_option maxRecDepth 20000
namespace Go.Sim
open Go Go.RowKit

def isz (i : Ins) : Nat := i.1.1.length + i.1.2.length + (i.2.length + Ybs i.2)
def Yir (l : List Ins) : Nat := (l.map isz).sum
def wsz (w : Wd) : Nat := w.cs.length + Ybs w.cs + (w.is.length + Yir w.is)
theorem Ycl {l : List Ins} {g : Nat} (h : g < l.length) : Yir (l.take (g + 1)) = Yir (l.take g) + isz l[g] := by
  unfold Yir; rw [List.take_succ_eq_append_getElem h, List.map_append, List.sum_append]; simp
theorem Yau (l : List Ins) (g : Nat) : Yir (l.take g) ≤ Yir l := by
  conv => rhs; rw [← List.take_append_drop g l]
  unfold Yir; rw [List.map_append, List.sum_append]; omega
theorem Ynd {l : List Ins} {g : Nat} (h : g < l.length) : isz l[g] ≤ Yir l := by
  have := Ycl h; have := Yau l (g + 1); omega
def Zva (n : Nat) : Prop := n ≤ 9223372036854775807
structure Yqx (w : Wd) : Prop where
  lc : Zva w.cs.length
  li : Zva w.is.length
  cs : ∀ p ∈ w.cs, Zva p.1.length ∧ Zva p.2.length ∧ ∀ b ∈ p.1, b < 256
  is : ∀ i ∈ w.is, Zva i.1.1.length ∧ Zva i.1.2.length ∧ Zva i.2.length ∧ ∀ p ∈ i.2, Zva p.1.length ∧ Zva p.2.length
theorem WB.of {w : Wd} (b : Yqx w) (h : wsz w ≤ 1048576) : WB w := by
  have h1 : ∀ p ∈ w.cs, p.1.length + p.2.length ≤ Ybs w.cs := fun p hp => by
    obtain ⟨k, hk, rfl⟩ := List.mem_iff_getElem.1 hp; exact Yfa hk
  have h2 : ∀ i ∈ w.is, isz i ≤ Yir w.is := fun p hp => by
    obtain ⟨k, hk, rfl⟩ := List.mem_iff_getElem.1 hp; exact Ynd hk
  unfold wsz at h
  refine ⟨by omega, by omega, fun p hp => ⟨by have := h1 p hp; omega, by have := h1 p hp; omega, (b.cs p hp).2.2⟩, fun i hi => ?_⟩
  have := h2 i hi
  unfold isz at this
  refine ⟨by omega, by omega, by omega, fun p hp => ?_⟩
  have h3 : p.1.length + p.2.length ≤ Ybs i.2 := by obtain ⟨k, hk, rfl⟩ := List.mem_iff_getElem.1 hp; exact Yfa hk
  omega
theorem Zyx {h : Zaa} {a : Pt} {n cp : Nat} {e : Bool} {i : Ins} {x : Int} (r : Row h.length h a (n * 2) (Zeg eP i.2)) (hb : Zva i.1.1.length ∧ Zva i.1.2.length ∧ Zva i.2.length ∧ ∀ p ∈ i.2, Zva p.1.length ∧ Zva p.2.length) (hx : 0 ≤ x ∧ x ≤ 1048576) :
    Zag pg Zkq [.agg [.str i.1.1, .str i.1.2, .slice a n cp e], .int .i64 x] h fun v h' => ∃ y, v = .int .i64 y ∧ Zbd h.length h h' ∧ (0 ≤ y → (isz i : Int) + y = x) := by
  have hl : i.2.length = n := by have := r.1; rw [Zbb Zdd] at this; omega
  apply Zny.call
  simp only [Zax]
  have s1 : Zbd h.length h (h ++ [.cells Zev [.str i.1.1, .str i.1.2, .slice a n cp e] false]) := Zam
  have hi : (h ++ [Zcg.cells Zev [.str i.1.1, .str i.1.2, .slice a n cp e] false])[h.length]? = some (.cells Zev [.str i.1.1, .str i.1.2, .slice a n cp e] false) := by simp
  simp only [Nat.add_zero]
  rw [Zds hi (by simp)]
  simp only [List.drop_zero, List.take_succ_cons, List.take_zero, Zas, Zah, Zan, Zai]
  refine (Zwq hb.1 hb.2.1 hx).mono ?_
  rintro v h2 ⟨y, rfl, s2, hy⟩
  simp only [Zav]
  have i2 := s2.get hi (Own.lt hi)
  refine Zar (fun hlt => ⟨_, rfl, s1.cat s2, by omega⟩) (fun hge => ?_)
  have hyy := hy (by omega)
  simp only [Zak i2, Nat.zero_add, List.getElem?_cons_succ, List.getElem?_cons_zero, Zaj]
  have hN := hb.2.2.1
  unfold Zva at hN
  refine (Yio (r.same' (s1.cat s2)) (fun p hp => hb.2.2.2 p hp) (by omega) (Zij := y) (by omega)).mono ?_
  rintro v h3 ⟨z, rfl, s3, hz⟩
  simp only [Zav]
  refine Zar (fun hlt => ⟨_, rfl, (s1.cat s2).cat s3, by omega⟩) (fun hge => ⟨_, rfl, (s1.cat s2).cat s3, fun h0 => ?_⟩)
  have := hz h0
  unfold isz; omega
theorem Zxp {h : Zaa} {a0 a : Pt} {n0 c0 n cp : Nat} {e : Bool} {w : Wd} {x : Int} (r : Zlx h a0 n0 c0 a n cp w) (hb : Yqx w) (hx : 0 ≤ x ∧ x ≤ 1048576) :
    Zag pg Zjq [.slice a n cp e, .int .i64 x] h fun v h' => ∃ y, v = .int .i64 y ∧ Zbd h.length h h' ∧ (0 ≤ y → (w.is.length : Int) + Yir w.is + y = x) := by
  have hl := r.len1
  have hbl := hb.li
  unfold Zva at hbl
  apply Zfu.call
  rw [IntWalk.i64_in _ (by omega)]
  refine Zar (fun hlt => ⟨_, rfl, Zbd.refl _ _, by omega⟩) (fun hge => ?_)
  refine Zfu.L5ind _ _ _ _ _ (J := fun (g : Nat) x1 x5 h' => x5 = (g : Int) ∧ Zbd h.length h h' ∧ g ≤ n ∧ 0 ≤ x1 ∧ x1 + n + Yir (w.is.take g) = x) (fun g => n - g) ?_ 0 _ 0 h ⟨rfl, Zbd.refl _ _, by omega, by omega, by simp [Yir]⟩
  rintro g x1 x5 h' ⟨rfl, hS, hg, h0, ht⟩ R hR
  unfold Zfu.L5t
  refine Zar (fun hlt => ?_) (fun hge => ?_)
  · obtain ⟨i, o, hgl, a2, n2, c2, e2, rfl, _, hr, _, _, _, hrow, hn⟩ := (r.same hS).inst (k := g) (by omega)
    simp only [Zau, Int.toNat_natCast, hr, Zas, Zah, Zan, Zai, Zaj]
    refine ⟨by omega, (Zyx (i := w.is[g]) hrow (hb.is _ (List.getElem_mem hgl)) (by omega)).mono ?_⟩
    rintro v h1 ⟨y, rfl, hs1, hy⟩
    simp only [Zav]
    have hS1 := hS.cat hs1
    refine Zar (fun hneg => ⟨_, rfl, hS1, by omega⟩) (fun hneg => ?_)
    have hyy := hy (by omega)
    rw [Zbt (by omega)]
    exact hR (g + 1) _ _ _ (by omega) ⟨rfl, hS1, by omega, by omega, by rw [Ycl hgl]; omega⟩
  · have : g = n := by omega
    subst this
    rw [List.take_of_length_le (by omega)] at ht
    exact Zfu.A5x0i _ _ _ ⟨_, rfl, hS, by omega⟩
theorem Ygt {h : Zaa} {a0 a1 : Pt} {n0 c0 n1 c1 : Nat} {e0 e1 : Bool} {w : Wd} {x : Int} (r : Zlx h a0 n0 c0 a1 n1 c1 w) (hb : Yqx w) (hx : 0 ≤ x ∧ x ≤ 1048576) :
    Zag pg Zlc [.agg [.slice a0 n0 c0 e0, .slice a1 n1 c1 e1], .int .i64 x] h fun v h' => ∃ y, v = .int .i64 y ∧ Zbd h.length h h' ∧ (0 ≤ y → (wsz w : Int) + y = x) := by
  have hl0 := r.len0
  apply Zrh.call
  simp only [Zax]
  have s1 : Zbd h.length h (h ++ [.cells Zen [.slice a0 n0 c0 e0, .slice a1 n1 c1 e1] false]) := Zam
  have hi : (h ++ [Zcg.cells Zen [.slice a0 n0 c0 e0, .slice a1 n1 c1 e1] false])[h.length]? = some (.cells Zen [.slice a0 n0 c0 e0, .slice a1 n1 c1 e1] false) := by simp
  simp only [Zak hi, Nat.add_zero, List.getElem?_cons_zero, Zaj]
  have hN := hb.lc
  unfold Zva at hN
  refine (Ybg (r.cls.same' s1) (fun p hp => ⟨(hb.cs p hp).1, (hb.cs p hp).2.1⟩) (by omega) hx).mono ?_
  rintro v h2 ⟨y, rfl, s2, hy⟩
  simp only [Zav]
  have i2 := s2.get hi (Own.lt hi)
  refine Zar (fun hlt => ⟨_, rfl, s1.cat s2, by omega⟩) (fun hge => ?_)
  have hyy := hy (by omega)
  simp only [Zak i2, Nat.zero_add, List.getElem?_cons_succ, List.getElem?_cons_zero, Zaj]
  refine (Zxp (r.same (s1.cat s2)) hb (x := y) (by omega)).mono ?_
  rintro v h3 ⟨z, rfl, s3, hz⟩
  simp only [Zav]
  refine Zar (fun hlt => ⟨_, rfl, (s1.cat s2).cat s3, by omega⟩) (fun hge => ⟨_, rfl, (s1.cat s2).cat s3, fun h0 => ?_⟩)
  have := hz h0
  unfold wsz; omega

theorem Ymb {h : Zaa} {i : Nat} {t : TypeId} {x y z v : Zaq} (hi : h[i]? = some (.cells t [x, y, z] false)) : Zbc h (.ptr (some (i, 2))) [v] = some (h.set i (.cells t [x, y, v] false)) := by
  rw [Zbv hi (by simp)]; rfl
theorem Yie {h : Zaa} {i : Nat} {t : TypeId} {x y z v u : Zaq} (hi : h[i]? = some (.cells t [x, y, z] false)) : Zbc h (.ptr (some (i, 0))) [v, u] = some (h.set i (.cells t [v, u, z] false)) := by
  rw [Zbv hi (by simp)]; rfl
theorem Yhg {h : Zaa} {i : Nat} {t : TypeId} {x y z a b c : Zaq} (hi : h[i]? = some (.cells t [x, y, z] false)) : Zbc h (.ptr (some (i, 0))) [a, b, c] = some (h.set i (.cells t [a, b, c] false)) := by
  rw [Zbv hi (by simp)]; rfl
theorem Yga {h : Zaa} {i : Nat} {t : TypeId} {x y z : Zaq} {ro : Bool} (hi : h[i]? = some (.cells t [x, y, z] ro)) : Zaw h (.ptr (some (i, 0))) 3 = some [x, y, z] := by
  rw [Zds hi (by simp)]; rfl
theorem Ymj {h : Zaa} {i : Nat} {t : TypeId} {x y z : Zaq} {ro : Bool} (hi : h[i]? = some (.cells t [x, y, z] ro)) : Zaw h (.ptr (some (i, 0))) 2 = some [x, y] := by
  rw [Zds hi (by simp)]; rfl
theorem Zbd.set' {b i : Nat} {h h1 : Zaa} {x : Zcg} (s : Zbd b h h1) (hi : b ≤ i) : Zbd b h (h1.set i x) := ⟨by simp; exact s.le, fun j hj => by rw [Zcv (by omega)]; exact s.eq j hj⟩
theorem Zeb.keep {α : Type} {ty : TypeId} {enc : α → List Zaq} {b b' : Nat} {h h' : Zaa} {a : Pt} {n : Nat} {l : List α} (f : Zeb ty enc b h a n l) (hb : b' ≤ b) (hk : ∀ i, b ≤ i → i < h.length → h'[i]? = h[i]?) : Zeb ty enc b' h' a n l :=
  ⟨f.1, f.2.imp id fun ⟨i, ha, hbi, hi⟩ => ⟨i, ha, by omega, by rw [hk i hbi (Own.lt hi)]; exact hi⟩⟩
theorem Zza {h : Zaa} {a : Pt} {n cp : Nat} {e : Bool} {i : Ins} (r : Row h.length h a (n * 2) (Zeg eP i.2)) (hn : n ≤ 1048576) :
    Zag pg Zky [.agg [.str i.1.1, .str i.1.2, .slice a n cp e]] h fun v h' => ∃ a' c' e', v = .agg [.str i.1.1, .str i.1.2, .slice a' n c' e'] ∧ Zbd h.length h h' ∧ Zeb Zab eP h.length h' a' n i.2 ∧ a' ≠ none := by
  apply Znq.call
  simp only [Zax]
  generalize hh0 : h ++ [Zcg.cells Zev [.str i.1.1, .str i.1.2, .slice a n cp e] false] = h0
  generalize hh1 : h0 ++ [Zcg.cells Zao [.str [], .str [], .slice none 0 0 true] false] = h1
  generalize hh2 : h1 ++ [Zcg.cells Zao [.str [], .str [], .slice none 0 0 true] false] = h2
  have s0 : Zbd h.length h h0 := by rw [← hh0]; exact Zam
  have s1 : Zbd h0.length h0 h1 := by rw [← hh1]; exact Zam
  have s2 : Zbd h1.length h1 h2 := by rw [← hh2]; exact Zam
  have l0 : h0.length = h.length + 1 := by rw [← hh0]; simp
  have l1 : h1.length = h.length + 2 := by rw [← hh1]; simp [l0]
  have l2 : h2.length = h.length + 3 := by rw [← hh2]; simp [l1]
  have x0 : h0[h.length]? = some (.cells Zev [.str i.1.1, .str i.1.2, .slice a n cp e] false) := by rw [← hh0]; simp
  have y1 : h1[h0.length]? = some (.cells Zao [.str [], .str [], .slice none 0 0 true] false) := by rw [← hh1]; simp
  have z2 : h2[h1.length]? = some (.cells Zao [.str [], .str [], .slice none 0 0 true] false) := by rw [← hh2]; simp
  have x2 := s2.get (s1.get x0 (by omega)) (by omega)
  have y2 := s2.get y1 (by omega)
  have S2 := (s0.cat s1).cat s2
  simp only [Nat.add_zero, Nat.zero_add]
  rw [Ymj x2]
  simp only [Zas, Zah, Zan, Zai]
  refine Zmj.mono ?_
  rintro v h3 ⟨rfl, s3⟩
  simp only [Zdp, Zah, Zan, Zai]
  have z3 := s3.get z2 (by omega)
  have x3 := s3.get x2 (by omega)
  have y3 := s3.get y2 (by omega)
  have l3 := s3.le
  rw [Yie z3]
  simp only [Zba]
  have x4 : (h3.set h1.length (.cells Zao [.str i.1.1, .str i.1.2, .slice none 0 0 true] false))[h.length]? = some (.cells Zev [.str i.1.1, .str i.1.2, .slice a n cp e] false) := by rw [Zcv (by omega)]; exact x3
  have y4 : (h3.set h1.length (.cells Zao [.str i.1.1, .str i.1.2, .slice none 0 0 true] false))[h0.length]? = some (.cells Zao [.str [], .str [], .slice none 0 0 true] false) := by rw [Zcv (by omega)]; exact y3
  have z4 : (h3.set h1.length (.cells Zao [.str i.1.1, .str i.1.2, .slice none 0 0 true] false))[h1.length]? = some (.cells Zao [.str i.1.1, .str i.1.2, .slice none 0 0 true] false) := Zdq z3
  have S4 : Zbd h.length h (h3.set h1.length (.cells Zao [.str i.1.1, .str i.1.2, .slice none 0 0 true] false)) := (S2.cat s3).set' (by omega)
  generalize hh4 : h3.set h1.length (.cells Zao [.str i.1.1, .str i.1.2, .slice none 0 0 true] false) = h4 at *
  have l4 : h4.length = h3.length := by rw [← hh4]; simp
  simp only [Zak x4, List.getElem?_cons_succ, List.getElem?_cons_zero, Zaj]
  refine (Ydd (r.same' S4) hn).mono ?_
  rintro v h5 ⟨a', c', e', rfl, s5, f5, hc5, hnn⟩
  simp only [Zaj]
  have l5 := s5.le
  have y5 := s5.get y4 (by omega)
  have z5 := s5.get z4 (by omega)
  rw [Ymb z5]
  simp only [Zba]
  rw [Yga (Zdq z5)]
  simp only [Zas, Zah, Zan, Zai, Zaj]
  have y6 : (h5.set h1.length (.cells Zao [.str i.1.1, .str i.1.2, .slice a' n c' e'] false))[h0.length]? = some (.cells Zao [.str [], .str [], .slice none 0 0 true] false) := by rw [Zcv (by omega)]; exact y5
  rw [Yhg y6]
  simp only [Zba]
  rw [Yga (Zdq y6)]
  simp only [Zas, Zah, Zan, Zai, Zaj]
  exact ⟨_, _, _, rfl, ((S4.cat s5).set' (by omega)).set' (by omega), f5.keep (by omega) fun j hj _ => by rw [Zcv (by omega), Zcv (by omega)], hnn⟩
end Go.Sim

set_option linter.unusedVariables false
set_option linter.unusedSimpArgs false
set_option maxRecDepth 20000
namespace Go.Sim
open Go Go.RowKit

theorem Ymy {α : Type} {enc : α → List Zaq} {w : Nat} (hw : ∀ x, (enc x).length = w) {ys : List α} {y : α} {k n : Nat} {z : List Zaq} (hk : ys.length = k) (hn : k < n) (hz : z.length = w) :
    putRow (Zeg enc ys ++ reps (n - k) z) (k * w) (enc y) = Zeg enc (ys ++ [y]) ++ reps (n - (k + 1)) z := by
  have h1 : (Zeg enc ys).length = k * w := by rw [Zbb hw, hk]
  have h2 : reps (n - k) z = z ++ reps (n - (k + 1)) z := by
    rw [show n - k = (n - (k + 1)) + 1 by omega]; simp [reps, List.replicate_succ]
  unfold putRow
  rw [List.take_append_of_le_length (by omega), List.take_of_length_le (by omega), Zgt, Zjs, Ynw, List.append_nil, hw, h2, List.append_assoc, List.append_assoc]
  congr 2
  rw [← h1, ← hz, List.drop_append, List.drop_of_length_le (by omega)]
  simp
theorem Ymq {α : Type} {enc : α → List Zaq} {w : Nat} (hw : ∀ x, (enc x).length = w) {ys : List α} {k n : Nat} {z : List Zaq} (hk : ys.length = k) (hn : k ≤ n) (hz : z.length = w) : (Zeg enc ys ++ reps (n - k) z).length = n * w := by
  have h1 : (reps (n - k) z).length = (n - k) * w := by unfold reps; rw [List.length_flatten]; simp [hz]
  rw [List.length_append, Zbb hw, h1, hk, ← Nat.add_mul]; congr 1; omega
theorem Zxt {h : Zaa} {a0 a : Pt} {n0 c0 n cp : Nat} {e : Bool} {w : Wd} (r : Zlx h a0 n0 c0 a n cp w) (b : WB w) :
    Zag pg Zkb [.slice a n cp e] h fun v h' => ∃ a' c' e' ys, v = .slice a' n c' e' ∧ n ≤ c' ∧ Zbd h.length h h' ∧ Zeb Zao eN h.length h' a' n ys ∧ ys.length = w.is.length ∧
      (∀ (k : Nat) (x : EI) (i : Ins), ys[k]? = some x → w.is[k]? = some i → x.c = i.1.1 ∧ x.t = i.1.2 ∧ Zeb Zab eP h.length h' x.a x.n i.2) ∧
      (∀ (j k : Nat) (x y : EI), j ≠ k → ys[j]? = some x → ys[k]? = some y → x.n ≠ 0 → y.n ≠ 0 → x.a ≠ y.a) ∧ ∀ x ∈ ys, x.a ≠ none := by
  have hl := r.len1
  have hli := b.li
  apply Zfx.call
  simp only [Zax, Int.toNat_natCast]
  refine ⟨by trivial, by trivial, ⟨by omega, by omega, by omega⟩, ?_⟩
  refine Zfx.L3ind _ _ _ _ _ _ _ _ _ (J := fun (g : Nat) x4 h' => x4 = (g : Int) ∧ g ≤ n ∧ Zbd h.length h h' ∧ ∃ ys : List EI, ys.length = g ∧ h'[h.length]? = some (.cells Zao (Zeg eN ys ++ reps (n - g) [.str [], .str [], .slice none 0 0 true]) false) ∧
      (∀ (k : Nat) (x : EI) (i : Ins), ys[k]? = some x → w.is[k]? = some i → x.c = i.1.1 ∧ x.t = i.1.2 ∧ Zeb Zab eP (h.length + 1) h' x.a x.n i.2) ∧
      (∀ (j k : Nat) (x y : EI), j ≠ k → ys[j]? = some x → ys[k]? = some y → x.n ≠ 0 → y.n ≠ 0 → x.a ≠ y.a) ∧ ∀ x ∈ ys, x.a ≠ none) (fun g => n - g) ?_ 0 _ _
    ⟨rfl, by omega, Zbd.app (Nat.le_refl _) _, [], rfl, by simp, by simp, by simp, by simp⟩
  rintro g x4 h' ⟨rfl, hg, hs, ys, hy, ho, hrep, hsep, hnn⟩ R hR
  unfold Zfx.L3t
  refine Zar (fun hlt => ?_) (fun hge => ?_)
  · have hlt' : g < n := by omega
    obtain ⟨i, o, hgl, a2, n2, c2, e2, rfl, _, hr, _, _, _, hrow, hn⟩ := (r.same hs).inst (k := g) (by omega)
    simp only [Zau, Int.toNat_natCast, hr, Zas, Zah, Zan, Zai, Zaj]
    have hb := b.is _ (List.getElem_mem hgl)
    refine ⟨by omega, (Zza (i := w.is[g]) hrow (by omega)).mono ?_⟩
    rintro v h1 ⟨a', c', e', rfl, s1, f1, hnn1⟩
    simp only [Zdp, Zah, Zan, Zai, Zaj]
    have hol := Own.lt ho
    have ho1 := s1.get ho hol
    have hlen := Ymq (enc := eN) Ybx (ys := ys) (k := g) (n := n) (z := [.str [], .str [], .slice none 0 0 true]) hy hg rfl
    rw [Zbv ho1 (by rw [hlen]; simp; omega)]
    simp only [Zba]
    have hput := Ymy (enc := eN) Ybx (ys := ys) (y := ⟨w.is[g].1.1, w.is[g].1.2, a', n2, c', e'⟩) (k := g) (n := n) (z := [.str [], .str [], .slice none 0 0 true]) hy hlt' rfl
    rw [Nat.zero_add, show ([.str w.is[g].1.1, .str w.is[g].1.2, .slice a' n2 c' e'] : List Zaq) = eN ⟨w.is[g].1.1, w.is[g].1.2, a', n2, c', e'⟩ from rfl, hput, Zbt (by omega)]
    refine ⟨by omega, hR (g + 1) _ _ (by omega) ⟨rfl, by omega, (hs.cat s1).set' (Nat.le_refl _), ys ++ [⟨w.is[g].1.1, w.is[g].1.2, a', n2, c', e'⟩], by simp [hy], Zdq ho1, ?_, ?_, fun x hx => by
      rcases List.mem_append.1 hx with hx | hx
      · exact hnn x hx
      · rw [List.mem_singleton] at hx; subst hx; exact hnn1⟩⟩
    · intro k x j hx hj
      by_cases hk : k < g
      · rw [List.getElem?_append_left (by omega)] at hx
        obtain ⟨p1, p2, p3⟩ := hrep k x j hx hj
        refine ⟨p1, p2, p3.keep (Nat.le_refl _) fun q hq hq2 => ?_⟩
        rw [Zcv (by omega)]; exact s1.eq q hq2
      · have hkl := (List.getElem?_eq_some_iff.1 hx).1
        simp [hy] at hkl
        have : k = g := by omega
        subst this
        rw [List.getElem?_append_right (by omega), hy, Nat.sub_self] at hx
        simp at hx
        subst hx
        rw [List.getElem?_eq_getElem hgl] at hj
        cases hj
        exact ⟨rfl, rfl, f1.keep (by omega) fun q hq hq2 => by rw [Zcv (by omega)]⟩
    · have old : ∀ (j : Nat) (x : EI), ys[j]? = some x → x.n ≠ 0 → x.a ≠ a' ∨ n2 = 0 := by
        intro j x hx hn
        have hjl := (List.getElem?_eq_some_iff.1 hx).1
        obtain ⟨_, _, _, p3⟩ := hrep j x (w.is[j]'(by omega)) hx (List.getElem?_eq_getElem (by omega))
        rcases p3 with h0 | ⟨q, hq, _, hq2⟩
        · exact absurd h0 hn
        · have := Own.lt hq2
          rcases f1.2 with h0 | ⟨q', hq', hb', _⟩
          · exact .inr h0
          · refine .inl ?_
            rw [hq, hq']; intro e; cases e; omega
      intro j k x y hjk hx hy' hxn hyn
      by_cases hj : j < g <;> by_cases hk : k < g
      · rw [List.getElem?_append_left (by omega)] at hx hy'
        exact hsep j k x y hjk hx hy' hxn hyn
      · have hkl := (List.getElem?_eq_some_iff.1 hy').1
        simp [hy] at hkl
        have : k = g := by omega
        subst this
        rw [List.getElem?_append_right (by omega), hy, Nat.sub_self] at hy'
        simp at hy'
        subst hy'
        rw [List.getElem?_append_left (by omega)] at hx
        rcases old j x hx hxn with h1 | h1
        · exact h1
        · exact absurd h1 hyn
      · have hkl := (List.getElem?_eq_some_iff.1 hx).1
        simp [hy] at hkl
        have : j = g := by omega
        subst this
        rw [List.getElem?_append_right (by omega), hy, Nat.sub_self] at hx
        simp at hx
        subst hx
        rw [List.getElem?_append_left (by omega)] at hy'
        rcases old k y hy' hyn with h1 | h1
        · exact fun e => h1 e.symm
        · exact absurd h1 hxn
      · have h1 := (List.getElem?_eq_some_iff.1 hx).1
        have h2 := (List.getElem?_eq_some_iff.1 hy').1
        simp [hy] at h1 h2
        omega
  · have : g = n := by omega
    subst this
    apply Zfx.A3x0i
    simp [reps] at ho
    refine ⟨_, _, _, ys, rfl, Nat.le_refl _, hs, ⟨hy, .inr ⟨h.length, rfl, Nat.le_refl _, ho⟩⟩, by omega, fun k x i hx hi => ?_, hsep, hnn⟩
    obtain ⟨p1, p2, p3⟩ := hrep k x i hx hi
    exact ⟨p1, p2, p3.keep (by omega) fun _ _ _ => rfl⟩
theorem Ybd {h : Zaa} {i : Nat} {t : TypeId} {x y v : Zaq} (hi : h[i]? = some (.cells t [x, y] false)) : Zbc h (.ptr (some (i, 0))) [v] = some (h.set i (.cells t [v, y] false)) := by
  rw [Zbv hi (by simp)]; rfl
theorem Yad {h : Zaa} {i : Nat} {t : TypeId} {x y v : Zaq} (hi : h[i]? = some (.cells t [x, y] false)) : Zbc h (.ptr (some (i, 1))) [v] = some (h.set i (.cells t [x, v] false)) := by
  rw [Zbv hi (by simp)]; rfl
theorem Ygx {h : Zaa} {i : Nat} {t : TypeId} {x y a b : Zaq} (hi : h[i]? = some (.cells t [x, y] false)) : Zbc h (.ptr (some (i, 0))) [a, b] = some (h.set i (.cells t [a, b] false)) := by
  rw [Zbv hi (by simp)]; rfl
theorem Zay {h : Zaa} {i : Nat} {t : TypeId} {x y : Zaq} {ro : Bool} (hi : h[i]? = some (.cells t [x, y] ro)) : Zaw h (.ptr (some (i, 0))) 2 = some [x, y] := by
  rw [Zds hi (by simp)]; rfl
theorem Zqv {h : Zaa} {a0 a1 : Pt} {n0 c0 n1 c1 : Nat} {e0 e1 : Bool} {w : Wd} (r : Zlx h a0 n0 c0 a1 n1 c1 w) (b : WB w) :
    Zag pg Zdu [.agg [.slice a0 n0 c0 e0, .slice a1 n1 c1 e1]] h fun v h' => ∃ b0 d0 f0 b1 d1 f1 ys, v = .agg [.slice b0 n0 d0 f0, .slice b1 n1 d1 f1] ∧ n0 ≤ d0 ∧ n1 ≤ d1 ∧ Zbd h.length h h' ∧ Zuh h.length h' b0 n0 b1 n1 ys w := by
  have hl0 := r.len0
  have hlc := b.lc
  apply Zrf.call
  simp only [Zax]
  generalize hh0 : h ++ [Zcg.cells Zen [.slice a0 n0 c0 e0, .slice a1 n1 c1 e1] false] = h0
  generalize hh1 : h0 ++ [Zcg.cells Zal [.slice none 0 0 true, .slice none 0 0 true] false] = h1
  generalize hh2 : h1 ++ [Zcg.cells Zal [.slice none 0 0 true, .slice none 0 0 true] false] = h2
  have s0 : Zbd h.length h h0 := by rw [← hh0]; exact Zam
  have s1 : Zbd h0.length h0 h1 := by rw [← hh1]; exact Zam
  have s2 : Zbd h1.length h1 h2 := by rw [← hh2]; exact Zam
  have l0 : h0.length = h.length + 1 := by rw [← hh0]; simp
  have l1 : h1.length = h.length + 2 := by rw [← hh1]; simp [l0]
  have l2 : h2.length = h.length + 3 := by rw [← hh2]; simp [l1]
  have x0 : h0[h.length]? = some (.cells Zen [.slice a0 n0 c0 e0, .slice a1 n1 c1 e1] false) := by rw [← hh0]; simp
  have y1 : h1[h0.length]? = some (.cells Zal [.slice none 0 0 true, .slice none 0 0 true] false) := by rw [← hh1]; simp
  have z2 : h2[h1.length]? = some (.cells Zal [.slice none 0 0 true, .slice none 0 0 true] false) := by rw [← hh2]; simp
  have x2 := s2.get (s1.get x0 (by omega)) (by omega)
  have y2 := s2.get y1 (by omega)
  have S2 := (s0.cat s1).cat s2
  simp only [Nat.add_zero, Nat.zero_add, Zak x2, List.getElem?_cons_zero, Zaj]
  refine (Yap (r.cls.same' S2) (by omega)).mono ?_
  rintro v h3 ⟨b0, d0, f0, rfl, s3, g3, hd0⟩
  simp only [Zaj]
  have z3 := s3.get z2 (by omega)
  have x3 := s3.get x2 (by omega)
  have y3 := s3.get y2 (by omega)
  have l3 := s3.le
  rw [Ybd z3]
  simp only [Zba]
  have x4 : (h3.set h1.length (.cells Zal [.slice b0 n0 d0 f0, .slice none 0 0 true] false))[h.length]? = some (.cells Zen [.slice a0 n0 c0 e0, .slice a1 n1 c1 e1] false) := by rw [Zcv (by omega)]; exact x3
  have y4 : (h3.set h1.length (.cells Zal [.slice b0 n0 d0 f0, .slice none 0 0 true] false))[h0.length]? = some (.cells Zal [.slice none 0 0 true, .slice none 0 0 true] false) := by rw [Zcv (by omega)]; exact y3
  have z4 : (h3.set h1.length (.cells Zal [.slice b0 n0 d0 f0, .slice none 0 0 true] false))[h1.length]? = some (.cells Zal [.slice b0 n0 d0 f0, .slice none 0 0 true] false) := Zdq z3
  have S4 : Zbd h.length h (h3.set h1.length (.cells Zal [.slice b0 n0 d0 f0, .slice none 0 0 true] false)) := (S2.cat s3).set' (by omega)
  have g4 : Zeb Zbz eP (h.length + 3) (h3.set h1.length (.cells Zal [.slice b0 n0 d0 f0, .slice none 0 0 true] false)) b0 n0 w.cs := g3.keep (by omega) fun j hj _ => by rw [Zcv (by omega)]
  generalize hh4 : h3.set h1.length (.cells Zal [.slice b0 n0 d0 f0, .slice none 0 0 true] false) = h4 at *
  have l4 : h4.length = h3.length := by rw [← hh4]; simp
  simp only [Zak x4, List.getElem?_cons_succ, List.getElem?_cons_zero, Zaj]
  refine (Zxt (r.same S4) b).mono ?_
  rintro v h5 ⟨b1, d1, f1, ys, rfl, hd1, s5, g5, hyl, hrep, hsep, hnn⟩
  simp only [Zaj]
  have l5 := s5.le
  have y5 := s5.get y4 (by omega)
  have z5 := s5.get z4 (by omega)
  rw [Yad z5]
  simp only [Zba]
  rw [Zay (Zdq z5)]
  simp only [Zas, Zah, Zan, Zaj]
  have y6 : (h5.set h1.length (.cells Zal [.slice b0 n0 d0 f0, .slice b1 n1 d1 f1] false))[h0.length]? = some (.cells Zal [.slice none 0 0 true, .slice none 0 0 true] false) := by rw [Zcv (by omega)]; exact y5
  rw [Ygx y6]
  simp only [Zba]
  rw [Zay (Zdq y6)]
  simp only [Zas, Zah, Zan, Zaj]
  refine ⟨_, _, _, _, _, _, ys, rfl, hd0, hd1, ((S4.cat s5).set' (by omega)).set' (by omega), ?_⟩
  have kp : ∀ j, h.length + 3 ≤ j → j < h5.length → ((h5.set h1.length (.cells Zal [.slice b0 n0 d0 f0, .slice b1 n1 d1 f1] false)).set h0.length (.cells Zal [.slice b0 n0 d0 f0, .slice b1 n1 d1 f1] false))[j]? = h5[j]? := fun j hj _ => by rw [Zcv (by omega), Zcv (by omega)]
  exact ⟨(g4.same s5).keep (by omega) fun j hj hj2 => kp j hj hj2, g5.keep (by omega) fun j hj hj2 => kp j (by omega) hj2, hyl, fun k x i hx hi => by
    obtain ⟨p1, p2, p3⟩ := hrep k x i hx hi
    exact ⟨p1, p2, p3.keep (by omega) fun j hj hj2 => kp j (by omega) hj2⟩, hsep, hnn⟩

theorem Zzw {h : Zaa} {a a' : Pt} {n n' c c' : Nat} {e e' : Bool} {i : Ins} (r : Row h.length h a (n * 2) (Zeg eP i.2)) (r' : Row h.length h a' (n' * 2) (Zeg eP i.2)) (hn : n ≤ 1048576) :
    Zag pg Zkt [.agg [.str i.1.1, .str i.1.2, .slice a n c e], .agg [.str i.1.1, .str i.1.2, .slice a' n' c' e']] h fun v h' => v = .bool true ∧ Zbd h.length h h' := by
  apply Zod.call
  simp only [Zax]
  generalize hh0 : h ++ [Zcg.cells Zao [.str i.1.1, .str i.1.2, .slice a n c e] false] = h0
  generalize hh1 : h0 ++ [Zcg.cells Zao [.str i.1.1, .str i.1.2, .slice a' n' c' e'] false] = h1
  have s0 : Zbd h.length h h0 := by rw [← hh0]; exact Zam
  have s1 : Zbd h0.length h0 h1 := by rw [← hh1]; exact Zam
  have x0 : h0[h.length]? = some (.cells Zao [.str i.1.1, .str i.1.2, .slice a n c e] false) := by rw [← hh0]; simp
  have y1 : h1[h0.length]? = some (.cells Zao [.str i.1.1, .str i.1.2, .slice a' n' c' e'] false) := by rw [← hh1]; simp
  have x1 := s1.get x0 (Own.lt x0)
  simp only [Nat.add_zero, Nat.zero_add]
  rw [Ymj x1, Ymj y1]
  simp only [Zas, Zah, Zan, Zai]
  refine Zvn.mono ?_
  rintro v h2 ⟨rfl, s2⟩
  simp only [Zap, decide_true, Bool.and_self, Bool.not_true, Zbn]
  simp only [Zak (s2.get x1 (Own.lt x1)), Zak (s2.get y1 (Own.lt y1)), List.getElem?_cons_succ, List.getElem?_cons_zero, Zaj]
  have S2 := (s0.cat s1).cat s2
  refine (Ygq (r.same' S2) (r'.same' S2) (by omega) rfl).mono ?_
  rintro v h3 ⟨rfl, s3⟩
  simp only [Zap, Bool.not_true, Zbn]
  exact ⟨by trivial, S2.cat s3⟩
theorem Zxu {h : Zaa} {a a' x x' : Pt} {n n' c c' m m' d d' : Nat} {e e' : Bool} {w : Wd} (r : Zlx h x m d a n c w) (r' : Zlx h x' m' d' a' n' c' w) (b : WB w) :
    Zag pg Zjj [.slice a n c e, .slice a' n' c' e'] h fun v h' => v = .bool true ∧ Zbd h.length h h' := by
  have hl := r.len1
  have hl' := r'.len1
  have hli := b.li
  have : n' = n := by omega
  subst this
  apply Zfy.call
  simp only [beq_self_eq_true, Bool.not_true, Zbn]
  refine Zfy.L4ind _ _ _ _ _ _ _ _ _ (J := fun (k : Nat) x5 h' => Zbd h.length h h' ∧ x5 = (k : Int) ∧ k ≤ n') (fun k => n' - k) ?_ 0 0 h ⟨Zbd.refl _ _, rfl, by omega⟩
  rintro k x5 h' ⟨hs, rfl, hk⟩ R hR
  unfold Zfy.L4t
  refine Zar (fun hlt => ?_) (fun hge => Zfy.A4x0i _ _ ⟨rfl, hs⟩)
  obtain ⟨i, o, hgl, a2, n2, c2, e2, rfl, _, hr, _, _, _, hrow, hn⟩ := (r.same hs).inst (k := k) (by omega)
  obtain ⟨i', o', hgl', a2', n2', c2', e2', rfl, _, hr', _, _, _, hrow', hn'⟩ := (r'.same hs).inst (k := k) (by omega)
  have hb := b.is _ (List.getElem_mem hgl)
  simp only [Zau, Int.toNat_natCast, hr, hr', Zas, Zah, Zan, Zai, Zaj, true_and]
  refine ⟨⟨by omega, by omega⟩, ⟨by omega, by omega⟩, (Zzw (i := w.is[k]) hrow hrow' (by omega)).mono ?_⟩
  rintro v h1 ⟨rfl, s1⟩
  simp only [Zap, Bool.not_true, Zbn]
  rw [Zbt (by omega)]
  exact hR (k + 1) _ _ (by omega) ⟨hs.cat s1, rfl, by omega⟩
theorem Ygo {h : Zaa} {a0 a1 b0 b1 : Pt} {n0 c0 n1 c1 m0 d0 m1 d1 : Nat} {e0 e1 f0 f1 : Bool} {w : Wd} (r : Zlx h a0 n0 c0 a1 n1 c1 w) (r' : Zlx h b0 m0 d0 b1 m1 d1 w) (b : WB w) :
    Zag pg Znf [.agg [.slice a0 n0 c0 e0, .slice a1 n1 c1 e1], .agg [.slice b0 m0 d0 f0, .slice b1 m1 d1 f1]] h fun v h' => v = .bool true ∧ Zbd h.length h h' := by
  have hl := r.len0
  have hlc := b.lc
  apply Zrb.call
  simp only [Zax]
  generalize hh0 : h ++ [Zcg.cells Zal [.slice a0 n0 c0 e0, .slice a1 n1 c1 e1] false] = h0
  generalize hh1 : h0 ++ [Zcg.cells Zal [.slice b0 m0 d0 f0, .slice b1 m1 d1 f1] false] = h1
  have s0 : Zbd h.length h h0 := by rw [← hh0]; exact Zam
  have s1 : Zbd h0.length h0 h1 := by rw [← hh1]; exact Zam
  have x0 : h0[h.length]? = some (.cells Zal [.slice a0 n0 c0 e0, .slice a1 n1 c1 e1] false) := by rw [← hh0]; simp
  have y1 : h1[h0.length]? = some (.cells Zal [.slice b0 m0 d0 f0, .slice b1 m1 d1 f1] false) := by rw [← hh1]; simp
  have x1 := s1.get x0 (Own.lt x0)
  simp only [Nat.add_zero, Nat.zero_add, Zak x1, Zak y1, List.getElem?_cons_zero, Zaj]
  have S1 := s0.cat s1
  refine (Ybr (r.cls.same' S1) (r'.cls.same' S1) (by omega) rfl).mono ?_
  rintro v h2 ⟨rfl, s2⟩
  simp only [Zap, Bool.not_true, Zbn, Zak (s2.get x1 (Own.lt x1)), Zak (s2.get y1 (Own.lt y1)), List.getElem?_cons_succ, List.getElem?_cons_zero, Zaj]
  refine (Zxu (r.same (S1.cat s2)) (r'.same (S1.cat s2)) b).mono ?_
  rintro v h3 ⟨rfl, s3⟩
  simp only [Zap, Bool.not_true, Zbn]
  exact ⟨by trivial, (S1.cat s2).cat s3⟩
end Go.Sim

set_option linter.unusedVariables false
set_option linter.unusedSimpArgs false
set_option maxRecDepth 20000
namespace Go.Sim
open Go Go.RowKit

def Ype (p : Nd) : Prop := Zva p.1.length ∧ Zva p.2.length ∧ (∀ b ∈ p.1, b < 256) ∧ ∀ b ∈ p.2, b < 256
theorem rd_pair {P : Program} {h : Zaa} {f : Nat} {e : TypeId} {f0 f1 : Field} {v : List Zaq} {d : Dt} (he : P.underlying e = some (.struct #[f0, f1])) (h0 : P.underlying f0.type = some .string) (h1 : P.underlying f1.type = some .string) (hr : rd P h (f + 2) e v d) :
    ∃ p : Nd, v = eP p ∧ Ype p := by
  unfold rd at hr
  rw [he] at hr
  obtain ⟨ds', vs', rfl, hd1, hd2, rfl, hall'⟩ := hr
  match vs', ds', hd2, hd1 with
  | [u, w], [x, y], _, _ =>
    have g0 := (hall' 0 f0 u x rfl rfl rfl).2
    have g1 := (hall' 1 f1 w y rfl rfl rfl).2
    simp only [rd, h0] at g0
    simp only [rd, h1] at g1
    obtain ⟨s, rfl, _, hs1, hs2⟩ := g0
    obtain ⟨t, rfl, _, ht1, ht2⟩ := g1
    exact ⟨(s, t), rfl, hs1, ht1, hs2, ht2⟩
theorem Ylr {P : Program} {h : Zaa} {f : Nat} {e : TypeId} {α : Type} {enc : α → List Zaq} {G : α → Prop} (el : ∀ v d, rd P h f e v d → ∃ x : α, v = enc x ∧ G x) :
    ∀ (vs : List (List Zaq)) (ds : List Dt), ds.length = vs.length → (∀ (i : Nat) (v : List Zaq) (x : Dt), vs[i]? = some v → ds[i]? = some x → v.length = P.cellsOf e ∧ rd P h f e v x) →
    ∃ l : List α, l.length = vs.length ∧ vs.flatten = Zeg enc l ∧ ∀ x ∈ l, G x
  | [], _, _, _ => ⟨[], rfl, rfl, by simp⟩
  | v :: vs, [], h, _ => by simp at h
  | v :: vs, d :: ds, hl, hall => by
    obtain ⟨l, hll, hfl, hs⟩ := Ylr el vs ds (by simpa using hl) fun i v x hv hx => hall (i + 1) v x (by simpa using hv) (by simpa using hx)
    obtain ⟨x, rfl, hx⟩ := el v d (hall 0 v d rfl rfl).2
    exact ⟨x :: l, by simp [hll], by simp [hfl], fun y hy => (List.mem_cons.1 hy).elim (fun e => e ▸ hx) (hs y)⟩
theorem Yki {P : Program} {h : Zaa} {f : Nat} {t e : TypeId} {α : Type} {enc : α → List Zaq} {G : α → Prop} {cs : List Zaq} {d : Dt} (ht : P.underlying t = some (.slice e)) (el : ∀ v d, rd P h f e v d → ∃ x : α, v = enc x ∧ G x) (hr : rd P h (f + 1) t cs d) :
    ∃ a n c ex, ∃ l : List α, cs = [.slice a n c ex] ∧ Row h.length h a (n * P.cellsOf e) (Zeg enc l) ∧ Zva n ∧ l.length = n ∧ ∀ x ∈ l, G x := by
  unfold rd at hr
  rw [ht] at hr
  obtain ⟨a, n, c, ex, ds, vs, rfl, rfl, hdl, hn, hvl, hrow, hall⟩ := hr
  obtain ⟨l, hll, hfl, hs⟩ := Ylr el vs ds (by omega) hall
  rw [hfl] at hrow
  exact ⟨a, n, c, ex, l, rfl, hrow, hn, by omega, hs⟩
theorem Yfz {P : Program} {h : Zaa} {f : Nat} {t e : TypeId} {f0 f1 : Field} {cs : List Zaq} {d : Dt} (ht : P.underlying t = some (.slice e)) (he : P.underlying e = some (.struct #[f0, f1])) (h0 : P.underlying f0.type = some .string) (h1 : P.underlying f1.type = some .string) (hc : P.cellsOf e = 2)
    (hr : rd P h (f + 3) t cs d) : ∃ a n c ex, ∃ l : List Nd, cs = [.slice a n c ex] ∧ Row h.length h a (n * 2) (Zeg eP l) ∧ Zva n ∧ l.length = n ∧ ∀ p ∈ l, Ype p := by
  have := Yki (enc := eP) (G := Ype) ht (fun v d hr => rd_pair he h0 h1 hr) hr
  rwa [hc] at this
def Ysy (h : Zaa) (x : EI) : Prop := ∃ i : Ins, Ypo h x i ∧ Ype i.1 ∧ Zva i.2.length ∧ ∀ p ∈ i.2, Ype p
theorem Ypk {P : Program} {h : Zaa} {f : Nat} {ti tn ts : TypeId} {g0 g1 f0 f1 : Field} {v : List Zaq} {d : Dt} (hi : P.underlying ti = some (.struct #[g0, g1])) (hg0 : g0.type = tn) (hg1 : g1.type = ts)
    (he : P.underlying tn = some (.struct #[f0, f1])) (h0 : P.underlying f0.type = some .string) (h1 : P.underlying f1.type = some .string) (hc : P.cellsOf tn = 2) (ht : P.underlying ts = some (.slice tn)) (hr : rd P h (f + 4) ti v d) :
    ∃ x : EI, v = eN x ∧ Ysy h x := by
  unfold rd at hr
  rw [hi] at hr
  obtain ⟨ds', vs', rfl, hd1, hd2, rfl, hall'⟩ := hr
  match vs', ds', hd2, hd1 with
  | [u, w], [x, y], _, _ =>
    have k0 := (hall' 0 g0 u x rfl rfl rfl).2
    have k1 := (hall' 1 g1 w y rfl rfl rfl).2
    rw [hg0] at k0
    rw [hg1] at k1
    obtain ⟨p, rfl, hp⟩ := rd_pair (f := f + 1) he h0 h1 k0
    obtain ⟨a, n, c, ex, l, rfl, hrow, hn, hll, hl⟩ := Yfz (f := f) ht he h0 h1 hc k1
    exact ⟨⟨p.1, p.2, a, n, c, ex⟩, rfl, (p, l), ⟨rfl, rfl, hrow⟩, hp, by rw [hll]; exact hn, hl⟩
theorem Zwh {h : Zaa} : ∀ {xs : List EI}, (∀ x ∈ xs, Ysy h x) → ∃ is : List Ins, Ykw h xs is ∧ ∀ i ∈ is, Ype i.1 ∧ Zva i.2.length ∧ ∀ p ∈ i.2, Ype p
  | [], _ => ⟨[], ⟨rfl, by simp⟩, by simp⟩
  | x :: xs, hx => by
    obtain ⟨is, ⟨hl, hr⟩, hb⟩ := Zwh (xs := xs) fun y hy => hx y (by simp [hy])
    obtain ⟨i, hi, hib⟩ := hx x (by simp)
    refine ⟨i :: is, ⟨by simp [hl], fun k y j hy hj => ?_⟩, fun j hj => (List.mem_cons.1 hj).elim (fun e => e ▸ hib) (hb j)⟩
    cases k with
    | zero => simp at hy hj; subst hy; subst hj; exact hi
    | succ k => simp at hy hj; exact hr k y j hy hj
theorem rd_world {P : Program} {h : Zaa} {f : Nat} {tw tc tcs ti tis tn ts : TypeId} {w0 w1 q0 q1 g0 g1 f0 f1 : Field} {cs : List Zaq} {d : Dt} (hw : P.underlying tw = some (.struct #[w0, w1])) (hw0 : w0.type = tcs) (hw1 : w1.type = tis)
    (hcs : P.underlying tcs = some (.slice tc)) (hct : P.underlying tc = some (.struct #[q0, q1])) (hq0 : P.underlying q0.type = some .string) (hq1 : P.underlying q1.type = some .string) (hcc : P.cellsOf tc = 2)
    (his : P.underlying tis = some (.slice ti)) (hic : P.cellsOf ti = 3) (hi : P.underlying ti = some (.struct #[g0, g1])) (hg0 : g0.type = tn) (hg1 : g1.type = ts)
    (he : P.underlying tn = some (.struct #[f0, f1])) (h0 : P.underlying f0.type = some .string) (h1 : P.underlying f1.type = some .string) (hc : P.cellsOf tn = 2) (ht : P.underlying ts = some (.slice tn)) (hr : rd P h (f + 6) tw cs d) :
    ∃ a0 n0 c0 e0 a1 n1 c1 e1, ∃ w : Wd, cs = [.slice a0 n0 c0 e0, .slice a1 n1 c1 e1] ∧ (n0 ≤ c0 → n1 ≤ c1 → Zlx h a0 n0 c0 a1 n1 c1 w) ∧ Yqx w := by
  unfold rd at hr
  rw [hw] at hr
  obtain ⟨ds', vs', rfl, hd1, hd2, rfl, hall'⟩ := hr
  match vs', ds', hd2, hd1 with
  | [u, v], [x, y], _, _ =>
    have k0 := (hall' 0 w0 u x rfl rfl rfl).2
    have k1 := (hall' 1 w1 v y rfl rfl rfl).2
    rw [hw0] at k0
    rw [hw1] at k1
    obtain ⟨a0, n0, c0, e0, l0, rfl, hrow0, hn0, hl0, hb0⟩ := Yfz (f := f + 2) hcs hct hq0 hq1 hcc k0
    obtain ⟨a1, n1, c1, e1, l1, rfl, hrow1, hn1, hl1, hb1⟩ := Yki (f := f + 4) (enc := eN) (G := Ysy h) his (fun v d hr => Ypk hi hg0 hg1 he h0 h1 hc ht hr) k1
    rw [hic] at hrow1
    obtain ⟨is, hrep, hib⟩ := Zwh hb1
    refine ⟨a0, n0, c0, e0, a1, n1, c1, e1, ⟨l0, is⟩, rfl, fun k0 k1 => ⟨hrow0, ⟨l1, hrow1, hrep⟩, k0, k1⟩, ?_⟩
    refine ⟨by rw [show (Wd.mk l0 is).cs.length = n0 from hl0]; exact hn0, ?_, fun p hp => ⟨(hb0 p hp).1, (hb0 p hp).2.1, (hb0 p hp).2.2.1⟩, fun i hi => ?_⟩
    · have : is.length = n1 := by have := hrep.1; omega
      show Zva is.length
      rw [this]; exact hn1
    · obtain ⟨p1, p2, p3⟩ := hib i hi
      exact ⟨p1.1, p1.2.1, p2, fun p hp => ⟨(p3 p hp).1, (p3 p hp).2.1⟩⟩

end Go.Sim

set_option linter.unusedVariables false
set_option linter.unusedSimpArgs false
set_option maxRecDepth 20000
namespace Go.Sim
open Go Go.RowKit

theorem Ty.size_ps (t : Ty) : t.size = 1 + (t.ps.map Ty.size).sum := by cases t <;> simp [Ty.size, Ty.ps] <;> omega
theorem Zhv.same {S : Nat → Prop} {h h' : Zaa} (s : Zbd h.length h h') : ∀ {t : Ty} {v : List Zaq}, Zhv S h t v → Zhv S h' t v
  | .k d, _, h => h
  | .u d x, _, ⟨j, c, e, r, hv, sj, hj, hr⟩ => ⟨j, c, e, r, hv, sj, s.get hj (Own.lt hj), hr.same s⟩
  | .w d x y, _, ⟨j, c, e, r, r', hv, sj, hj, hr, hr'⟩ => ⟨j, c, e, r, r', hv, sj, s.get hj (Own.lt hj), hr.same s, hr'.same s⟩
end Go.Sim

set_option linter.unusedVariables false
set_option linter.unusedSimpArgs false
set_option maxRecDepth 20000
namespace Go.Sim
open Go Go.RowKit

theorem Ykn : pg.underlying Yek = some (.slice Zlu) := by kernel_rfl
theorem Yqz : pg.cellsOf Zlu = 1 := by kernel_rfl
theorem Yrf : pg.okElem Zlu = true := by kernel_rfl
theorem Yri : pg.bytesOf Zlu ≤ 127 := Nat.le_of_ble_eq_true (by kernel_rfl)
def ixs {α : Type} (f : α → Bool) (l : List α) : List Int := (l.zipIdx.filter fun p => f p.1).map fun p => (p.2 : Int)
theorem Yez {α : Type} (f : α → Bool) {l : List α} {g : Nat} (h : g < l.length) : ixs f (l.take (g + 1)) = ixs f (l.take g) ++ if f l[g] then [(g : Int)] else [] := by
  unfold ixs
  rw [List.take_succ_eq_append_getElem h, List.zipIdx_append, List.filter_append, List.map_append]
  congr 1
  simp only [List.length_take, Nat.min_eq_left (by omega : g ≤ l.length), Nat.zero_add, List.zipIdx_singleton, List.filter_cons, List.filter_nil]
  split <;> simp
theorem Zzl {α : Type} (f : α → Bool) (l : List α) : (ixs f l).length ≤ l.length := by
  unfold ixs; rw [List.length_map]; exact Nat.le_trans (List.length_filter_le _ _) (by simp)
theorem fa1 {j o : Nat} {K : Zaq → Prop} : Zhc pg Zab (.ptr (some (j, o))) 1 K = K (.ptr (some (j, o + 1))) := by kernel_rfl
end Go.Sim

set_option linter.unusedVariables false
set_option linter.unusedSimpArgs false
set_option maxRecDepth 20000
namespace Go.Sim
open Go Go.RowKit

end Go.Sim

set_option linter.unusedVariables false
set_option linter.unusedSimpArgs false
set_option maxRecDepth 20000
namespace Go.Sim
open Go Go.RowKit

end Go.Sim

set_option linter.unusedVariables false
set_option linter.unusedSimpArgs false
set_option maxRecDepth 20000
namespace Go.Sim
open Go Go.RowKit
theorem Zeb.off {α : Type} {ty : TypeId} {enc : α → List Zaq} {b : Nat} {h h' : Zaa} {a : Pt} {n : Nat} {l : List α} (f : Zeb ty enc b h a n l) (hk : ∀ i, a = some (i, 0) → n ≠ 0 → i < h.length → h'[i]? = h[i]?) : Zeb ty enc b h' a n l := by
  obtain ⟨hl, h0 | ⟨i, ha, hb, hi⟩⟩ := f
  · exact ⟨hl, .inl h0⟩
  · by_cases hn : n = 0
    · exact ⟨hl, .inl hn⟩
    · exact ⟨hl, .inr ⟨i, ha, hb, by rw [hk i ha hn (Own.lt hi)]; exact hi⟩⟩
structure Ytj (H : Nat) (a0 : Pt) (n0 : Nat) (a1 : Pt) (n1 : Nat) (ys : List EI) : Prop where
  cls : ∀ i, a0 = some (i, 0) → n0 ≠ 0 → i < H
  ins : ∀ i, a1 = some (i, 0) → n1 ≠ 0 → i < H
  need : ∀ (q : Nat) (x : EI), ys[q]? = some x → ∀ j, x.a = some (j, 0) → x.n ≠ 0 → j < H
theorem Zuh.bel {b : Nat} {h : Zaa} {a0 a1 : Pt} {n0 n1 : Nat} {ys : List EI} {w : Wd} (f : Zuh b h a0 n0 a1 n1 ys w) : Ytj h.length a0 n0 a1 n1 ys :=
  ⟨fun i hi hn => (f.cls.in i hi hn).2, fun i hi hn => (f.ins.in i hi hn).2, fun q x hx j hj hn => by
    have hq := (List.getElem?_eq_some_iff.1 hx).1
    exact ((f.need q x (w.is[q]'(by have := f.len; omega)) hx (List.getElem?_eq_getElem _)).2.2.in j hj hn).2⟩
end Go.Sim

set_option linter.unusedVariables false
namespace Go.Sim
open Go Go.RowKit
end Go.Sim

set_option linter.unusedVariables false
set_option maxRecDepth 100000
namespace Go.Sim
open Go Go.RowKit
def Yrs (Q : QT) (lh pw : Nat) (bw : Bool) (lw : Nat) (hG : Zaa) (pg0 : Nat) (sg tg : List Nat) (bg : Bool) : Prop :=
 Zbw (Zbc hG (.ptr (some (pg0, 0))) [.str sg, .str tg]) fun h_164 => Zce (Zaw h_164 (.ptr (some (pg0, 0))) 2) fun cs_165 => Zad cs_165 fun c_166 r_167 => Zaz (some c_166) fun s_168 => Zad r_167 fun c_169 r_170 => Zaz (some c_169) fun s_171 => Zbl r_170 (Zce (Zaw h_164 (.ptr (some (pw, 0))) 2) fun cs_172 => Zad cs_172 fun c_173 r_174 => Zaz (some c_173) fun s_175 => Zad r_174 fun c_176 r_177 => Zaz (some c_176) fun s_178 => Zbl r_177 (Zag pg Zdb [.agg [.str s_168, .str s_171], .agg [.str s_175, .str s_178]] h_164 fun v_179 h_180 =>
 Zbr (some v_179) fun b_181 => bcase (!b_181) (Q (.bool false) h_180) (bcase (!(bg == bw)) (Q (.bool false) h_180) (Zet.J13 Q lw 0 lh 0 h_180))))
def Yic (Q : QT) (lh lh0 : Nat) (hW : Zaa) (pw : Nat) (sw tw : List Nat) (bw : Bool) : Prop :=
 Zbw (Zbc hW (.ptr (some (pw, 0))) [.str sw, .str tw]) fun h_88 => Zce (Zaw h_88 (.ptr (some (lh, 0))) 2) fun cs_89 => Zad cs_89 fun c_90 r_91 => xSl (some c_90) fun a_92 n_93 c_94 e_95 => Zad r_91 fun c_96 r_97 => xSl (some c_96) fun a_98 n_99 c_100 e_101 => Zbl r_97 (Zag pg Zdu [.agg [.slice a_92 n_93 c_94 e_95, .slice a_98 n_99 c_100 e_101]] h_88 fun v_102 h_103 =>
 Zic v_102 fun cs_104 => Zad cs_104 fun c_105 r_106 => xSl (some c_105) fun a_107 n_108 c_109 e_110 => Zad r_106 fun c_111 r_112 => xSl (some c_111) fun a_113 n_114 c_115 e_116 => Zbl r_112 (Zck (h_103 ++ [.cells Zal [.slice none 0 0 true, .slice none 0 0 true] false]) fun h_117 => Zbw (Zbc h_117 (.ptr (some (List.length h_103, 0))) [.slice a_107 n_108 c_109 e_110, .slice a_113 n_114 c_115 e_116]) fun h_118 => Zce (Zaw h_118 (.ptr (some (List.length h_103, 0))) 2) fun cs_119 => Zad cs_119 fun c_120 r_121 => xSl (some c_120) fun a_122 n_123 c_124 e_125 => Zad r_121 fun c_126 r_127 => xSl (some c_126) fun a_128 n_129 c_130 e_131 => Zbl r_127 (Zce (Zaw h_118 (.ptr (some (lh0, 0))) 2) fun cs_132 => Zad cs_132 fun c_133 r_134 => Zaz (some c_133) fun s_135 => Zad r_134 fun c_136 r_137 => Zaz (some c_136) fun s_138 => Zbl r_137 ((Zag pg Zcm [.agg [.str s_135, .str s_138]] h_118 fun v_139 h_140 =>
 Zic v_139 fun cs_141 => Zad cs_141 fun c_142 r_143 => Zaz (some c_142) fun s_144 => Zad r_143 fun c_145 r_146 => Zaz (some c_145) fun s_147 => Zbl r_146 ((Zaw h_140 (.ptr (some (List.length h_103, 0))) 2 = Zaw h_118 (.ptr (some (List.length h_103, 0))) 2) ∧ (Zag pg Zbx [.agg [.slice a_122 n_123 c_124 e_125, .slice a_128 n_129 c_130 e_131], .agg [.str s_144, .str s_147]] h_140 fun v_148 h_149 =>
 Zjg v_148 fun cs_150 => Zad cs_150 fun c_151 r_152 => Zic c_151 fun cs_153 => Zad cs_153 fun c_154 r_155 => Zaz (some c_154) fun s_156 => Zad r_155 fun c_157 r_158 => Zaz (some c_157) fun s_159 => Zbl r_158 (Zad r_152 fun c_160 r_161 => Zbr (some c_160) fun b_162 => Zbl r_161 ((Zaw h_149 (.ptr (some (lh0, 0))) 2 = Zaw h_140 (.ptr (some (lh0, 0))) 2) ∧ Zck (h_149 ++ [.cells Zab [.str [], .str []] false]) fun h_163 => (Zaw h_163 (.ptr (some (lh0, 0))) 2 = Zaw h_149 (.ptr (some (lh0, 0))) 2) ∧ (Zaw h_163 (.ptr (some (List.length h_103, 0))) 2 = Zaw h_149 (.ptr (some (List.length h_103, 0))) 2) ∧ Yrs Q lh pw bw (List.length h_103) h_163 (List.length h_149) s_156 s_159 b_162))) ∧ (Zck (h_140 ++ [.cells Zab [.str [], .str []] false]) fun h_182 => (Zaw h_182 (.ptr (some (lh0, 0))) 2 = Zaw h_140 (.ptr (some (lh0, 0))) 2) ∧ (Zaw h_182 (.ptr (some (List.length h_103, 0))) 2 = Zaw h_140 (.ptr (some (List.length h_103, 0))) 2) ∧ Zag pg Zbx [.agg [.slice a_122 n_123 c_124 e_125, .slice a_128 n_129 c_130 e_131], .agg [.str s_144, .str s_147]] h_182 fun v_183 h_184 =>
 Zjg v_183 fun cs_185 => Zad cs_185 fun c_186 r_187 => Zic c_186 fun cs_188 => Zad cs_188 fun c_189 r_190 => Zaz (some c_189) fun s_191 => Zad r_190 fun c_192 r_193 => Zaz (some c_192) fun s_194 => Zbl r_193 (Zad r_187 fun c_195 r_196 => Zbr (some c_195) fun b_197 => Zbl r_196 ((Zaw h_184 (.ptr (some (lh0, 0))) 2 = Zaw h_182 (.ptr (some (lh0, 0))) 2) ∧ Yrs Q lh pw bw (List.length h_103) h_184 (List.length h_140) s_191 s_194 b_197))))) ∧ (Zck (h_118 ++ [.cells Zab [.str [], .str []] false]) fun h_216 => (Zaw h_216 (.ptr (some (lh0, 0))) 2 = Zaw h_118 (.ptr (some (lh0, 0))) 2) ∧ (Zaw h_216 (.ptr (some (List.length h_103, 0))) 2 = Zaw h_118 (.ptr (some (List.length h_103, 0))) 2) ∧ Zag pg Zcm [.agg [.str s_135, .str s_138]] h_216 fun v_217 h_218 =>
 Zic v_217 fun cs_219 => Zad cs_219 fun c_220 r_221 => Zaz (some c_220) fun s_222 => Zad r_221 fun c_223 r_224 => Zaz (some c_223) fun s_225 => Zbl r_224 ((Zaw h_218 (.ptr (some (List.length h_103, 0))) 2 = Zaw h_216 (.ptr (some (List.length h_103, 0))) 2) ∧ Zag pg Zbx [.agg [.slice a_122 n_123 c_124 e_125, .slice a_128 n_129 c_130 e_131], .agg [.str s_222, .str s_225]] h_218 fun v_226 h_227 =>
 Zjg v_226 fun cs_228 => Zad cs_228 fun c_229 r_230 => Zic c_229 fun cs_231 => Zad cs_231 fun c_232 r_233 => Zaz (some c_232) fun s_234 => Zad r_233 fun c_235 r_236 => Zaz (some c_235) fun s_237 => Zbl r_236 (Zad r_230 fun c_238 r_239 => Zbr (some c_238) fun b_240 => Zbl r_239 ((Zaw h_227 (.ptr (some (lh0, 0))) 2 = Zaw h_218 (.ptr (some (lh0, 0))) 2) ∧ Yrs Q lh pw bw (List.length h_103) h_227 (List.length h_118) s_234 s_237 b_240))))))))
theorem Yil (a0x0 : Pt) (n0x0 c0x0 : Nat) (e0x0 : Bool) (a0x1 : Pt) (n0x1 c0x1 : Nat) (e0x1 : Bool) (x1x0 x1x1 : List Nat) (h : Zaa) (Q : QT) (ht :
 Zck (h ++ [.cells Zen [.slice a0x0 n0x0 c0x0 e0x0, .slice a0x1 n0x1 c0x1 e0x1] false]) fun h_0 => Zck (h_0 ++ [.cells Zja [.str x1x0, .str x1x1] false]) fun h_1 => Zce (Zaw h_1 (.ptr (some (List.length h, 0))) 2) fun cs_2 => Zad cs_2 fun c_3 r_4 => xSl (some c_3) fun a_5 n_6 c_7 e_8 => Zad r_4 fun c_9 r_10 => xSl (some c_9) fun a_11 n_12 c_13 e_14 => Zbl r_10 (Zag pg Zlc [.agg [.slice a_5 n_6 c_7 e_8, .slice a_11 n_12 c_13 e_14], .int .i64 1048576] h_1 fun v_15 h_16 =>
 Zem .i64 (some v_15) fun x_17 => bcase (decide ((x_17 : Int) < 0)) (Q (.bool true) h_16) (Zce (Zaw h_16 (.ptr (some (List.length h_0, 0))) 2) fun cs_18 => Zad cs_18 fun c_19 r_20 => Zaz (some c_19) fun s_21 => Zad r_20 fun c_22 r_23 => Zaz (some c_22) fun s_24 => Zbl r_23 (Zag pg Zib [.agg [.str s_21, .str s_24], .int .i64 x_17] h_16 fun v_25 h_26 =>
 Zem .i64 (some v_25) fun x_27 => bcase (decide ((x_27 : Int) < 0)) (Q (.bool true) h_26) (Zce (Zaw h_26 (.ptr (some (List.length h, 0))) 2) fun cs_28 => Zad cs_28 fun c_29 r_30 => xSl (some c_29) fun a_31 n_32 c_33 e_34 => Zad r_30 fun c_35 r_36 => xSl (some c_35) fun a_37 n_38 c_39 e_40 => Zbl r_36 (Zce (Zaw h_26 (.ptr (some (List.length h_0, 0))) 2) fun cs_41 => Zad cs_41 fun c_42 r_43 => Zaz (some c_42) fun s_44 => Zad r_43 fun c_45 r_46 => Zaz (some c_45) fun s_47 => Zbl r_46 ((Zag pg Zdu [.agg [.slice a_31 n_32 c_33 e_34, .slice a_37 n_38 c_39 e_40]] h_26 fun v_48 h_49 =>
 Zic v_48 fun cs_50 => Zad cs_50 fun c_51 r_52 => xSl (some c_51) fun a_53 n_54 c_55 e_56 => Zad r_52 fun c_57 r_58 => xSl (some c_57) fun a_59 n_60 c_61 e_62 => Zbl r_58 ((Zaw h_49 (.ptr (some (List.length h_0, 0))) 2 = Zaw h_26 (.ptr (some (List.length h_0, 0))) 2) ∧ (Zag pg Zcm [.agg [.str s_44, .str s_47]] h_49 fun v_63 h_64 =>
 Zic v_63 fun cs_65 => Zad cs_65 fun c_66 r_67 => Zaz (some c_66) fun s_68 => Zad r_67 fun c_69 r_70 => Zaz (some c_69) fun s_71 => Zbl r_70 ((Zaw h_64 (.ptr (some (List.length h, 0))) 2 = Zaw h_49 (.ptr (some (List.length h, 0))) 2) ∧ (Zag pg Zdf [.agg [.slice a_53 n_54 c_55 e_56, .slice a_59 n_60 c_61 e_62], .agg [.str s_68, .str s_71]] h_64 fun v_72 h_73 =>
 Zjg v_72 fun cs_74 => Zad cs_74 fun c_75 r_76 => Zic c_75 fun cs_77 => Zad cs_77 fun c_78 r_79 => Zaz (some c_78) fun s_80 => Zad r_79 fun c_81 r_82 => Zaz (some c_81) fun s_83 => Zbl r_82 (Zad r_76 fun c_84 r_85 => Zbr (some c_84) fun b_86 => Zbl r_85 ((Zaw h_73 (.ptr (some (List.length h_0, 0))) 2 = Zaw h_64 (.ptr (some (List.length h_0, 0))) 2) ∧ (Zaw h_73 (.ptr (some (List.length h, 0))) 2 = Zaw h_64 (.ptr (some (List.length h, 0))) 2) ∧ Zck (h_73 ++ [.cells Zab [.str [], .str []] false]) fun h_87 => (Zaw h_87 (.ptr (some (List.length h_0, 0))) 2 = Zaw h_73 (.ptr (some (List.length h_0, 0))) 2) ∧ (Zaw h_87 (.ptr (some (List.length h, 0))) 2 = Zaw h_73 (.ptr (some (List.length h, 0))) 2) ∧ Yic Q (List.length h) (List.length h_0) h_87 (List.length h_73) s_80 s_83 b_86))) ∧ (Zck (h_64 ++ [.cells Zab [.str [], .str []] false]) fun h_259 => (Zaw h_259 (.ptr (some (List.length h_0, 0))) 2 = Zaw h_64 (.ptr (some (List.length h_0, 0))) 2) ∧ (Zaw h_259 (.ptr (some (List.length h, 0))) 2 = Zaw h_64 (.ptr (some (List.length h, 0))) 2) ∧ Zag pg Zdf [.agg [.slice a_53 n_54 c_55 e_56, .slice a_59 n_60 c_61 e_62], .agg [.str s_68, .str s_71]] h_259 fun v_260 h_261 =>
 Zjg v_260 fun cs_262 => Zad cs_262 fun c_263 r_264 => Zic c_263 fun cs_265 => Zad cs_265 fun c_266 r_267 => Zaz (some c_266) fun s_268 => Zad r_267 fun c_269 r_270 => Zaz (some c_269) fun s_271 => Zbl r_270 (Zad r_264 fun c_272 r_273 => Zbr (some c_272) fun b_274 => Zbl r_273 ((Zaw h_261 (.ptr (some (List.length h_0, 0))) 2 = Zaw h_259 (.ptr (some (List.length h_0, 0))) 2) ∧ (Zaw h_261 (.ptr (some (List.length h, 0))) 2 = Zaw h_259 (.ptr (some (List.length h, 0))) 2) ∧ Yic Q (List.length h) (List.length h_0) h_261 (List.length h_64) s_268 s_271 b_274))))) ∧ (Zck (h_49 ++ [.cells Zab [.str [], .str []] false]) fun h_446 => (Zaw h_446 (.ptr (some (List.length h_0, 0))) 2 = Zaw h_49 (.ptr (some (List.length h_0, 0))) 2) ∧ (Zaw h_446 (.ptr (some (List.length h, 0))) 2 = Zaw h_49 (.ptr (some (List.length h, 0))) 2) ∧ Zag pg Zcm [.agg [.str s_44, .str s_47]] h_446 fun v_447 h_448 =>
 Zic v_447 fun cs_449 => Zad cs_449 fun c_450 r_451 => Zaz (some c_450) fun s_452 => Zad r_451 fun c_453 r_454 => Zaz (some c_453) fun s_455 => Zbl r_454 ((Zaw h_448 (.ptr (some (List.length h, 0))) 2 = Zaw h_446 (.ptr (some (List.length h, 0))) 2) ∧ Zag pg Zdf [.agg [.slice a_53 n_54 c_55 e_56, .slice a_59 n_60 c_61 e_62], .agg [.str s_452, .str s_455]] h_448 fun v_456 h_457 =>
 Zjg v_456 fun cs_458 => Zad cs_458 fun c_459 r_460 => Zic c_459 fun cs_461 => Zad cs_461 fun c_462 r_463 => Zaz (some c_462) fun s_464 => Zad r_463 fun c_465 r_466 => Zaz (some c_465) fun s_467 => Zbl r_466 (Zad r_460 fun c_468 r_469 => Zbr (some c_468) fun b_470 => Zbl r_469 ((Zaw h_457 (.ptr (some (List.length h_0, 0))) 2 = Zaw h_448 (.ptr (some (List.length h_0, 0))) 2) ∧ (Zaw h_457 (.ptr (some (List.length h, 0))) 2 = Zaw h_448 (.ptr (some (List.length h, 0))) 2) ∧ Yic Q (List.length h) (List.length h_0) h_457 (List.length h_49) s_464 s_467 b_470)))))) ∧ (Zck (h_26 ++ [.cells Zab [.str [], .str []] false]) fun h_642 => (Zaw h_642 (.ptr (some (List.length h_0, 0))) 2 = Zaw h_26 (.ptr (some (List.length h_0, 0))) 2) ∧ (Zaw h_642 (.ptr (some (List.length h, 0))) 2 = Zaw h_26 (.ptr (some (List.length h, 0))) 2) ∧ Zag pg Zdu [.agg [.slice a_31 n_32 c_33 e_34, .slice a_37 n_38 c_39 e_40]] h_642 fun v_643 h_644 =>
 Zic v_643 fun cs_645 => Zad cs_645 fun c_646 r_647 => xSl (some c_646) fun a_648 n_649 c_650 e_651 => Zad r_647 fun c_652 r_653 => xSl (some c_652) fun a_654 n_655 c_656 e_657 => Zbl r_653 ((Zaw h_644 (.ptr (some (List.length h_0, 0))) 2 = Zaw h_642 (.ptr (some (List.length h_0, 0))) 2) ∧ Zag pg Zcm [.agg [.str s_44, .str s_47]] h_644 fun v_658 h_659 =>
 Zic v_658 fun cs_660 => Zad cs_660 fun c_661 r_662 => Zaz (some c_661) fun s_663 => Zad r_662 fun c_664 r_665 => Zaz (some c_664) fun s_666 => Zbl r_665 ((Zaw h_659 (.ptr (some (List.length h, 0))) 2 = Zaw h_644 (.ptr (some (List.length h, 0))) 2) ∧ Zag pg Zdf [.agg [.slice a_648 n_649 c_650 e_651, .slice a_654 n_655 c_656 e_657], .agg [.str s_663, .str s_666]] h_659 fun v_667 h_668 =>
 Zjg v_667 fun cs_669 => Zad cs_669 fun c_670 r_671 => Zic c_670 fun cs_672 => Zad cs_672 fun c_673 r_674 => Zaz (some c_673) fun s_675 => Zad r_674 fun c_676 r_677 => Zaz (some c_676) fun s_678 => Zbl r_677 (Zad r_671 fun c_679 r_680 => Zbr (some c_679) fun b_681 => Zbl r_680 ((Zaw h_668 (.ptr (some (List.length h_0, 0))) 2 = Zaw h_659 (.ptr (some (List.length h_0, 0))) 2) ∧ (Zaw h_668 (.ptr (some (List.length h, 0))) 2 = Zaw h_659 (.ptr (some (List.length h, 0))) 2) ∧ Yic Q (List.length h) (List.length h_0) h_668 (List.length h_26) s_675 s_678 b_681)))))))))))) : Zag pg Zgb [.agg [.slice a0x0 n0x0 c0x0 e0x0, .slice a0x1 n0x1 c0x1 e0x1], .agg [.str x1x0, .str x1x1]] h Q :=
  Zet.call a0x0 n0x0 c0x0 e0x0 a0x1 n0x1 c0x1 e0x1 x1x0 x1x1 h Q ht
end Go.Sim

set_option linter.unusedVariables false
set_option linter.unusedSimpArgs false
set_option maxRecDepth 20000
namespace Go.Sim
open Go Go.RowKit

theorem Vec.lt' {ty : TypeId} {h : Zaa} {a : Pt} {i n c : Nat} {cs : List Zaq} (x : Vec ty h a n c cs) (e : a = some (i, 0)) : i < h.length := by subst e; exact x.lt
theorem Zro.keep {S : Nat → Prop} {h h' : Zaa} (hh : ∀ j, S j → j < h.length → h'[j]? = h[j]?) : ∀ {t : Ty} {p : Pt}, Zro S h t p → Zro S h' t p
  | .k d, p, ⟨i, a, c, e, hp, si, hi⟩ => ⟨i, a, c, e, hp, si, by rw [hh i si (Own.lt hi)]; exact hi⟩
  | .u d x, p, ⟨i, j, c, e, q, hp, si, hi, sj, hj, hq⟩ => ⟨i, j, c, e, q, hp, si, by rw [hh i si (Own.lt hi)]; exact hi, sj, by rw [hh j sj (Own.lt hj)]; exact hj, hq.keep hh⟩
  | .w d x y, p, ⟨i, j, c, e, q, r, hp, si, hi, sj, hj, hq, hr⟩ => ⟨i, j, c, e, q, r, hp, si, by rw [hh i si (Own.lt hi)]; exact hi, sj, by rw [hh j sj (Own.lt hj)]; exact hj, hq.keep hh, hr.keep hh⟩
theorem Zro.same {S : Nat → Prop} {h h' : Zaa} {t : Ty} {p : Pt} (r : Zro S h t p) (s : Zbd h.length h h') : Zro S h' t p := r.keep fun j _ hj => s.eq j hj
theorem Zhv.keep {S : Nat → Prop} {h h' : Zaa} (hh : ∀ j, S j → j < h.length → h'[j]? = h[j]?) : ∀ {t : Ty} {v : List Zaq}, Zhv S h t v → Zhv S h' t v
  | .k d, _, h => h
  | .u d x, _, ⟨j, c, e, r, hv, sj, hj, hr⟩ => ⟨j, c, e, r, hv, sj, by rw [hh j sj (Own.lt hj)]; exact hj, hr.keep hh⟩
  | .w d x y, _, ⟨j, c, e, r, r', hv, sj, hj, hr, hr'⟩ => ⟨j, c, e, r, r', hv, sj, by rw [hh j sj (Own.lt hj)]; exact hj, hr.keep hh, hr'.keep hh⟩
theorem Ty.txt_inter (t : Ty) (h : t.ps ≠ []) : t.txt = ([t.hd] ++ [40]) ++ [44].intercalate (t.ps.map Ty.txt) ++ [41] := by
  cases t with
  | k c => simp [Ty.ps] at h
  | u c a => simp [Ty.ps, Ty.txt, Ty.hd, List.intercalate]
  | w c a b => simp [Ty.ps, Ty.txt, Ty.hd, List.intercalate]
theorem Ty.size_part {t x : Ty} (h : x ∈ t.ps) : x.size < t.size := by
  cases t with
  | k c => simp [Ty.ps] at h
  | u c a => simp [Ty.ps] at h; subst h; simp [Ty.size]
  | w c a b => simp [Ty.ps] at h; rcases h with rfl | rfl <;> simp [Ty.size] <;> omega
theorem Ty.len_part {t x : Ty} (h : x ∈ t.ps) : x.txt.length < t.txt.length := by
  cases t with
  | k c => simp [Ty.ps] at h
  | u c a => simp [Ty.ps] at h; subst h; simp [Ty.txt]; omega
  | w c a b => simp [Ty.ps] at h; rcases h with rfl | rfl <;> simp [Ty.txt] <;> omega
theorem Ymi : ∀ (N : Nat) {S : Nat → Prop} {h : Zaa} {t : Ty} {p : Pt}, t.size ≤ N → t.txt.length ≤ 1048576 → Zro S h t p → Zag pg Ziu [.ptr p] h fun x h' => x = .str t.txt ∧ Zbd h.length h h'
  | 0, S, h, t, p, hN, _, _ => by have := t.size_ps; omega
  | N + 1, S, h, t, p, hN, hB, r => by
    obtain ⟨i, a, c, e, qs, rfl, si, hi, hrow, hS, hql, hq⟩ := r.parts
    have hps2 : t.ps.length ≤ 2 := by cases t <;> simp [Ty.ps]
    apply Zgx.call
    simp only [Zau, Zak hi, Nat.zero_add, List.getElem?_cons_succ, List.getElem?_cons_zero, Zaj, Zai]
    refine Zfq (fun hz0 => ?_) (fun hz0 => ?_)
    · have : t.ps.length = 0 := by omega
      refine ⟨?_, Zbd.refl _ _⟩
      cases t <;> simp [Ty.ps] at this
      rfl
    · simp only [Zax]
      generalize hh0 : h ++ [Zcg.cells Zdm [] false] = h0
      have s0 : Zbd h.length h h0 := by rw [← hh0]; exact Zam
      have i0 := s0.get hi (Own.lt hi)
      have l0 : h0.length = h.length + 1 := by rw [← hh0]; simp
      have v0 : h0[h.length]? = some (.cells Zdm [] false) := by rw [← hh0]; simp
      simp only [Zak i0, List.getElem?_cons_succ, List.getElem?_cons_zero, Zaj]
      refine Zgx.L5ind _ _ _ _ _ _ _ (J := fun (g : Nat) a3 n3 c3 e3 x22 h' => x22 = (g : Int) ∧ g ≤ t.ps.length ∧ Zbd h.length h h' ∧ n3 = g ∧ Vec Zdm h' a3 n3 c3 (strs ((t.ps.take g).map Ty.txt)) ∧ (∀ i, a3 = some (i, 0) → h.length ≤ i)) (fun g => t.ps.length - g) ?_ 0 _ _ _ _ _ _
        ⟨rfl, by omega, s0, rfl, Vec.mk1 (by simpa using v0), fun i hi => by cases hi; omega⟩
      rintro g a3 n3 c3 e3 x22 h' ⟨rfl, hg, hSm, rfl, hv, ha⟩ R hR
      unfold Zgx.L5t
      have i1 := hSm.get hi (Own.lt hi)
      refine Zar (fun hlt => ?_) (fun hge => ?_)
      · have hg' : n3 < t.ps.length := by omega
        obtain ⟨j, o, rfl, hj, hc⟩ := (hrow.same hSm).at hg'
        have hqg : n3 < qs.length := by omega
        rw [List.getElem?_map, List.getElem?_eq_getElem hqg] at hc
        simp only [Zau, Int.toNat_natCast, Nat.mul_one, hc, Option.map_some, Zeo]
        have hk := hq n3 qs[n3] t.ps[n3] (List.getElem?_eq_getElem hqg) (List.getElem?_eq_getElem hg')
        have hm := List.getElem_mem hg'
        have h1 := Ty.size_part hm
        have h2 := Ty.len_part hm
        refine ⟨by omega, (Ymi N (by omega) (by omega) (hk.same hSm)).mono ?_⟩
        rintro x h2 ⟨rfl, s2⟩
        simp only [Zai, Zax]
        refine (hv.same s2).push Zwe Yax Ybl Yct (by simp; omega) rfl (by omega) (fun h4 hl4 hi4 hk4 => ?_)
        simp only [Zaj]
        rw [Zbt (by omega)]
        have S2 := hSm.cat s2
        have hle := S2.le
        refine hR (n3 + 1) _ _ _ _ _ _ (by omega) ⟨rfl, by omega, ⟨by omega, fun j hj => ?_⟩, rfl, Vec.mk1 ?_, fun i hi => by cases hi; omega⟩
        · rw [hk4 j (by omega) fun i hi => by have := ha i hi; omega]; exact S2.eq j hj
        · rw [hi4, List.take_succ_eq_append_getElem hg', List.map_append, Ydt]; rfl
      · apply Zgx.A5x0i
        have : n3 = t.ps.length := by omega
        subst this
        rw [List.take_length] at hv
        have hne : t.ps ≠ [] := fun e => hz0 (by rw [e]; rfl)
        have htx := t.txt_inter hne
        have hln := congrArg List.length htx
        simp at hln
        simp only [Zau, Zak i1, Nat.zero_add, List.getElem?_cons_zero, Zai]
        refine ⟨by simp, ?_⟩
        refine (Yno (hv.row (by simp)) (by omega) (by omega)).mono ?_
        rintro v h3 ⟨rfl, rfl⟩
        simp only [Zai]
        refine ⟨Zak i1, by simp; omega, by simp; omega, ?_⟩
        exact ⟨by rw [htx], hSm⟩
theorem Zhv.get {S : Nat → Prop} {h : Zaa} {t : Ty} {a : Pt} {vs : List (List Zaq)} (hrow : Row h.length h a (t.ps.length * 2) vs.flatten) (hvl : vs.length = t.ps.length) (hp : ∀ (k : Nat) (w : List Zaq) (x : Ty), vs[k]? = some w → t.ps[k]? = some x → Zhv S h x w) {g : Nat} (hg' : g < t.ps.length) :
    ∃ i o a2 c2 e2, a = some (i, o) ∧ Zaw h (.ptr (some (i, o + g * 2))) 2 = some [.int .u8 (t.ps[g].hd : Int), .slice a2 t.ps[g].ps.length c2 e2] ∧ Zhv S h t.ps[g] [.int .u8 (t.ps[g].hd : Int), .slice a2 t.ps[g].ps.length c2 e2] := by
  have hgv : g < vs.length := by omega
  have hk := hp g vs[g] t.ps[g] (List.getElem?_eq_getElem hgv) (List.getElem?_eq_getElem hg')
  have hz : ∀ v ∈ vs, v.length = 2 := fun v hv => by
    obtain ⟨k, hk, rfl⟩ := List.mem_iff_getElem.1 hv
    exact (hp k vs[k] (t.ps[k]'(by omega)) (List.getElem?_eq_getElem hk) (List.getElem?_eq_getElem (by omega))).len
  have hfl : vs.flatten = Zeg (fun (v : {v : List Zaq // v.length = 2}) => v.1) (vs.attach.map fun v => ⟨v.1, hz v.1 v.2⟩) := by
    unfold Zeg; rw [List.flatMap_map]; simp
  rw [hfl] at hrow
  obtain ⟨i, o, hk', ha, _, hr, _⟩ := Row.el (enc := fun (v : {v : List Zaq // v.length = 2}) => v.1) (fun x => x.2) hrow (by simp [hvl]) (k := g) hg' (by omega)
  obtain ⟨a2, c2, e2, hv2⟩ := hk.shape
  rw [hv2] at hk
  exact ⟨i, o, a2, c2, e2, ha, by rw [hr]; simp [hv2], hk⟩
theorem Ykc {g : Nat} (hg : g < 2) : sub [40, 44] (g : Int) ((g : Int) + 1) = [Zpk g] := by
  rcases g with _ | _ | g
  · rfl
  · rfl
  · omega
theorem Ty.hd_lt (t : Ty) (h : t.ok = true) : t.hd < 256 := by
  have := Ty.ok_ar h
  unfold arN Zni Zdj at this
  simp only [Bool.or_eq_true, beq_iff_eq] at this
  split at this
  · omega
  · split at this
    · omega
    · split at this
      · omega
      · omega
def Zoi : Nat → List Ty → List Nat
  | _, [] => []
  | g, x :: l => Zpk g :: (x.txt ++ Zoi (g + 1) l)
theorem Ztl : ∀ (l : List Ty) (g k : Nat) (h : k < l.length), Zoi g (l.take (k + 1)) = Zoi g (l.take k) ++ Zpk (g + k) :: l[k].txt
  | x :: l, g, 0, _ => by simp [Zoi]
  | x :: l, g, k + 1, h => by
    have := Ztl l (g + 1) k (by simpa using h)
    simp only [List.take_succ_cons, Zoi, this, List.getElem_cons_succ, List.cons_append, List.append_assoc]
    rw [show g + 1 + k = g + (k + 1) by omega]
theorem Zxj : ∀ (l : List Ty) (g k : Nat), (Zoi g (l.take k)).length ≤ (Zoi g l).length
  | [], g, k => by simp [Zoi]
  | x :: l, g, 0 => by simp [Zoi]
  | x :: l, g, k + 1 => by
    have := Zxj l (g + 1) k
    simp only [List.take_succ_cons, Zoi, List.length_cons, List.length_append]; omega
theorem Ty.txt_mids (t : Ty) : t.txt = t.hd :: Zoi 0 t.ps ++ (if t.ps = [] then [] else [41]) := by
  cases t <;> simp [Ty.ps, Ty.txt, Ty.hd, Zoi, Zpk]
theorem Zqe : ∀ (N : Nat) {S : Nat → Prop} {h : Zaa} {t : Ty} {v : List Zaq}, t.size ≤ N → t.txt.length ≤ 1048576 → t.ok = true → Zhv S h t v → Zag pg Zgl [.agg v] h fun x h' => x = .str t.txt ∧ Zbd h.length h h'
  | 0, S, h, t, v, hN, _, _, _ => by have := t.size_ps; omega
  | N + 1, S, h, t, v, hN, hB, hok, r => by
    obtain ⟨a, c, e, vs, rfl, hrow, hS, hvl, hp⟩ := r.parts
    have hps2 : t.ps.length ≤ 2 := by cases t <;> simp [Ty.ps]
    have htx := t.txt_mids
    have hln := congrArg List.length htx
    rw [List.length_append, List.length_cons] at hln
    apply Zgn.call
    simp only [Zax, Zez, Nat.zero_add, List.getElem?_cons_succ, List.getElem?_cons_zero, Zaj, Zav]
    generalize hh0 : h ++ [Zcg.cells Zaf [.int .u8 (t.hd : Int), .slice a t.ps.length c e] false] = h0
    have s0 : Zbd h.length h h0 := by rw [← hh0]; exact Zam
    have o0 : h0[h.length]? = some (.cells Zaf [.int .u8 (t.hd : Int), .slice a t.ps.length c e] false) := by rw [← hh0]; simp
    generalize hh1 : h0 ++ [Zcg.cells Zzd [.int .u8 (t.hd : Int)] false] = h1
    have s1 : Zbd h0.length h0 h1 := by rw [← hh1]; exact Zam
    have o1 := s1.get o0 (Own.lt o0)
    have hro : rowOf h1 (some (h0.length, 0)) 1 = some [.int .u8 (t.hd : Int)] := by rw [← hh1]; simp [rowOf, Zaw]
    rw [hro]
    simp only [Zas, Zml, chk, decide_true]
    rw [show ((t.hd : Int)).toNat = t.hd from Int.toNat_natCast _]
    refine ⟨⟨by omega, by have := t.hd_lt hok; omega⟩, ?_⟩
    simp only [Zak o1, List.getElem?_cons_succ, List.getElem?_cons_zero, Zaj]
    refine Zgn.L3ind _ _ _ _ _ _ _ _ (J := fun (g : Nat) x3 x13 h' => x13 = (g : Int) ∧ g ≤ t.ps.length ∧ Zbd h.length h h' ∧ Zbd h1.length h1 h' ∧ x3 = t.hd :: Zoi 0 (t.ps.take g)) (fun g => t.ps.length - g) ?_ 0 _ _ _ ⟨rfl, by omega, s0.cat s1, Zbd.refl _ _, by simp [Zoi]⟩
    rintro g x3 x13 h' ⟨rfl, hg, hSm, hS1, rfl⟩ R hR
    unfold Zgn.L3t
    have o2 := hS1.get o1 (Own.lt o1)
    refine Zar (fun hlt => ?_) (fun hge => ?_)
    · have hg' : g < t.ps.length := by omega
      obtain ⟨i, o, a2, c2, e2, rfl, hr, hk⟩ := Zhv.get (hrow.same' hSm) hvl (fun k w x h1 h2 => (hp k w x h1 h2).same hSm) hg'
      simp only [Zau, Int.toNat_natCast, hr, Zas, Zah, Zan, Zav, Zaj, Zax]
      rw [Zhm]
      simp only [Zba]
      rw [Ymt]
      simp only [Zas, Zah, Zan, Zav, Zaj]
      rw [Zbt (by omega), show (((g + 1 : Nat) : Int)) = (g : Int) + 1 by omega, Ykc (by omega)]
      have hm := List.getElem_mem hg'
      have h1 := Ty.size_part hm
      have h2 := Ty.len_part hm
      have hmt := Ztl t.ps 0 g hg'
      have hml : (Zoi 0 (t.ps.take (g + 1))).length ≤ (Zoi 0 t.ps).length := Zxj _ _ _
      have hmtl := congrArg List.length hmt
      simp only [List.length_append, List.length_cons, Nat.zero_add] at hmtl
      have s2 : Zbd h'.length h' (h' ++ [.cells Zaf [.int .u8 (t.ps[g].hd : Int), .slice a2 t.ps[g].ps.length c2 e2] false]) := Zam
      refine ⟨by omega, ⟨by omega, by omega, by simp; omega⟩, by simp; omega, (Zqe N (by omega) (by omega) (Ty.ok_ps hok _ hm) (hk.same s2)).mono ?_⟩
      rintro x h3 ⟨rfl, s3⟩
      simp only [Zai]
      refine ⟨by simp; omega, ?_⟩
      exact hR (g + 1) _ _ _ (by omega) ⟨by omega, by omega, (hSm.cat s2).cat s3, (hS1.cat s2).cat s3, by rw [hmt, Nat.zero_add]; simp⟩
    · apply Zgn.A3x0i
      have : g = t.ps.length := by omega
      subst this
      simp only [Zak o2, Nat.zero_add, List.getElem?_cons_succ, List.getElem?_cons_zero, Zaj]
      rw [List.take_length]
      refine Zar (fun hpos => ?_) (fun hneg => ?_)
      · have hne : t.ps ≠ [] := fun e => by rw [e] at hpos; simp at hpos
        rw [if_neg hne] at htx hln
        refine ⟨by simp; simp at hln; omega, ?_⟩
        apply Zgn.J9i
        exact ⟨by rw [htx], hSm⟩
      · have hne : t.ps = [] := List.eq_nil_of_length_eq_zero (by omega)
        rw [if_pos hne, List.append_nil] at htx
        apply Zgn.J9i
        exact ⟨by rw [htx], hSm⟩
end Go.Sim

set_option linter.unusedVariables false
namespace Go.Sim
open Go Go.RowKit Go.Maps Go.Sort Go.Shelf Go.Proofs
theorem Yms (m : Nat) : AnyZ.SortsIn Tryz.prog Tryz.sorted166_ren Fence.wide m :=
  ⟨fun blk off cap ss W hH hblk hsz => callsIn_wide.2 (Tryz.slices_Sort_string blk off cap ss W hH hblk hsz), fun p cap W => callsIn_wide.2 (Tryz.slices_Sort_string_none p cap W)⟩
theorem Ymx {h : Zaa} {m : Option Nat} : Zag pg Zei [.map m] h fun v h' => v = .fn Zdz [.ptr (some (h.length, 0))] ∧ h' = h ++ [.cells Zgo [.map m] false] :=
  Zag.keys ⟨_, Tryz.func167, by kernel_rfl, by kernel_rfl⟩ (fun mb W => callsIn_wide.1 (AnyZ.keys_in Tryz.keys167 Fence.wide 5 trivial rfl mb W))
set_option maxHeartbeats 1000000 in
theorem Zxq {h : Zaa} {i m : Nat} {es : List ME} {clk : Nat} (hi : h[i]? = some (.cells Zgo [.map (some m)] false)) (hm : h[m]? = some (.map es clk)) {vs : List Nat} (hks : es.map (·.1) = vs.map fun v => .str [v]) (nd : vs.Nodup) (born : (es.map (·.2.2)).Nodup) (lt : ∀ e ∈ es, e.2.2 < clk) (hl : es.length ≤ 1048576) :
    Zag pg Zkj [.fn Zdz [.ptr (some (i, 0))]] h fun v h' => ∃ us : List Nat, us.Perm vs ∧ us.Pairwise (· ≤ ·) ∧ ((us = [] ∧ v = .slice none 0 0 true ∧ h' = h) ∨ (∃ c, v = .slice (some (h.length, 0)) us.length c false ∧ us.length ≤ c ∧ h' = h ++ [.cells Zdm (us.map fun v => .str [v]) false])) :=
  Zag.sortedKeys (M := Zgo) (K := Zdm) Tryz.underlying9 (by kernel_rfl) ⟨_, Tryz.func166, by kernel_rfl, by kernel_rfl⟩
    (fun Bm b nn D0 R w hown hBm hcell hmax hbytes => callsIn_wide.1 (by
      have hseq : SeqGives Fence.wide 2 Tryz.prog 181 #[.pointer (some ⟨Bm, 0, none⟩)] encStr (fun ss => ss.Perm (strKeys D0)) (Maps.size D0) w :=
        AnyZ.keys_gives (ρ := Tryz.keys167_ren) { Tryz.keys167 with } Fence.wide _ trivial rfl (by omega) Bm b nn D0 w hBm hcell hown
      exact AnyZ.sorted_in Tryz.sorted166 Fence.wide 5 trivial trivial trivial trivial rfl (by omega) (Yms _) (enters_of Tryz.func180 (by kernel_rfl) rfl) 181 #[.pointer (some ⟨Bm, 0, none⟩)] trivial (enters_of Tryz.func181 (by kernel_rfl) rfl) _ _ hmax hbytes _ hseq))
    hi hm hks nd born lt hl
end Go.Sim

set_option linter.unusedSimpArgs false
set_option linter.unusedVariables false
namespace Go.Sim

abbrev Bd := List (Nat × Ty)
def Zhr : Bd → Nat → Option Ty
  | [], _ => none
  | (v, t) :: m, x => if v = x then some t else Zhr m x
def Zox (m : Bd) (v : Nat) (t : Ty) : Option Bd := match Zhr m v with | some t' => if t' = t then some m else none | none => some (m ++ [(v, t)])
def matchT : Bd → Ty → Ty → Option Bd
  | m, .k c, t => if Zdj c then Zox m c t else if c = t.hd then some m else none
  | m, .u c a, t => if c = t.hd then (match t.ps with | [x] => matchT m a x | _ => none) else none
  | m, .w c a b, t => if c = t.hd then (match t.ps with | [x, y] => (match matchT m a x with | some m1 => matchT m1 b y | none => none) | _ => none) else none
def matchL : Bd → List Ty → List Ty → Option Bd
  | m, [], _ => some m
  | m, a :: xs, [] => none
  | m, a :: xs, t :: ys => match matchT m a t with | some m1 => matchL m1 xs ys | none => none
theorem Zpl {a : Ty} (h : a.ok = true) (hv : Zdj a.hd = true) : a = .k a.hd := by
  cases a with
  | k c => rfl
  | u c a => simp only [Ty.ok, Bool.and_eq_true, Bool.or_eq_true, beq_iff_eq] at h; rcases h.1 with rfl | rfl <;> simp [Ty.hd, Zdj] at hv
  | w c a b => simp only [Ty.ok, Bool.and_eq_true, beq_iff_eq] at h; rcases h.1.1 with rfl; simp [Ty.hd, Zdj] at hv
theorem Yfh {a t : Ty} (ha : a.ok = true) (ht : t.ok = true) (h : a.hd = t.hd) : a.ps.length = t.ps.length := by
  have h1 := Ty.ok_ar ha; have h2 := Ty.ok_ar ht
  rw [h, h2] at h1; omega
theorem Ybz {m : Bd} {a t : Ty} (ha : a.ok = true) (ht : t.ok = true) :
    matchT m a t = if Zdj a.hd then Zox m a.hd t else if a.hd = t.hd then matchL m a.ps t.ps else none := by
  cases a with
  | k c =>
    show matchT m (.k c) t = if Zdj c then Zox m c t else if c = t.hd then matchL m [] t.ps else none
    rw [matchT, matchL]
  | u c a =>
    have hnv : Zdj c = false := by
      cases h : Zdj c with
      | false => rfl
      | true => have := Zpl ha h; cases this
    show matchT m (.u c a) t = if Zdj c then Zox m c t else if c = t.hd then matchL m [a] t.ps else none
    rw [matchT, hnv, if_neg (show ¬ (false = true) by decide)]
    by_cases h : c = t.hd
    · have hl : 1 = t.ps.length := Yfh ha ht h
      rw [if_pos h, if_pos h]
      match t.ps, hl with
      | [x], _ => simp only [matchL]; cases matchT m a x <;> rfl
    · rw [if_neg h, if_neg h]
  | w c a b =>
    have hnv : Zdj c = false := by
      cases h : Zdj c with
      | false => rfl
      | true => have := Zpl ha h; cases this
    show matchT m (.w c a b) t = if Zdj c then Zox m c t else if c = t.hd then matchL m [a, b] t.ps else none
    rw [matchT, hnv, if_neg (show ¬ (false = true) by decide)]
    by_cases h : c = t.hd
    · have hl : 2 = t.ps.length := Yfh ha ht h
      rw [if_pos h, if_pos h]
      match t.ps, hl with
      | [x, y], _ =>
        simp only [matchL]
        cases matchT m a x with
        | none => rfl
        | some m1 => simp only []; cases matchT m1 b y <;> rfl
    · rw [if_neg h, if_neg h]
theorem Zsd : ∀ (xs ys : List Ty) (m : Bd) (g : Nat) (h1 : g < xs.length) (h2 : g < ys.length), matchL m (xs.take (g + 1)) (ys.take (g + 1)) = match matchL m (xs.take g) (ys.take g) with | some m1 => matchT m1 xs[g] ys[g] | none => none
  | a :: xs, t :: ys, m, 0, _, _ => by
    simp only [List.take_succ_cons, List.take_zero, matchL, List.getElem_cons_zero]
    cases matchT m a t <;> rfl
  | a :: xs, t :: ys, m, g + 1, h1, h2 => by
    simp only [List.length_cons, Nat.add_lt_add_iff_right] at h1 h2
    simp only [List.take_succ_cons, matchL, List.getElem_cons_succ]
    cases hm : matchT m a t with
    | none => rfl
    | some m1 =>
      have := Zsd xs ys m1 g h1 h2
      simpa only [List.take_succ_cons] using this
theorem Zrw : ∀ (xs ys : List Ty) (m : Bd) (g : Nat), xs.length = ys.length → matchL m (xs.take g) (ys.take g) = none → matchL m xs ys = none
  | [], _, m, g, _, h => by simp [matchL] at h
  | a :: xs, [], m, g, hl, h => by simp at hl
  | a :: xs, t :: ys, m, 0, _, h => by simp [matchL] at h
  | a :: xs, t :: ys, m, g + 1, hl, h => by
    simp only [List.take_succ_cons, matchL] at h ⊢
    cases hm : matchT m a t with
    | none => rfl
    | some m1 =>
      rw [hm] at h
      exact Zrw xs ys m1 g (by simpa using hl) h

structure BOk (n : Nat) (m : Bd) : Prop where
  var : ∀ p ∈ m, Zdj p.1 = true ∧ p.2.ok = true ∧ p.2.txt.length ≤ n
  nd : (m.map (·.1)).Nodup
theorem Zqt : ∀ {m : Bd} {v : Nat} {t : Ty}, Zhr m v = some t → (v, t) ∈ m
  | (w, u) :: m, v, t, h => by
    simp only [Zhr] at h
    split at h
    · rename_i e; cases h; subst e; simp
    · exact List.mem_cons_of_mem _ (Zqt h)
theorem Ztc : ∀ {m : Bd} {v : Nat}, Zhr m v = none ↔ v ∉ m.map (·.1)
  | [], v => by simp [Zhr]
  | (w, u) :: m, v => by
    simp only [Zhr]
    by_cases e : w = v
    · simp [e]
    · simp only [e, if_false, Ztc (m := m), List.map_cons, List.mem_cons, not_or]
      exact ⟨fun h => ⟨fun e' => e e'.symm, h⟩, fun h => h.2⟩
theorem Ydk {m : Bd} {v : Nat} : (Zhr m v).isSome = true ↔ v ∈ m.map (·.1) := by
  cases h : Zhr m v with
  | none => simp [Ztc.1 h]
  | some t => simp only [Option.isSome_some, true_iff]; exact List.mem_map.2 ⟨_, Zqt h, rfl⟩
theorem Ygd {m : Bd} {v x : Nat} {t : Ty} : Zhr (m ++ [(v, t)]) x = match Zhr m x with | some u => some u | none => if v = x then some t else none := by
  induction m with
  | nil => simp [Zhr]
  | cons p m ih =>
    obtain ⟨w, u⟩ := p
    simp only [List.cons_append, Zhr, ih]
    split <;> rfl
theorem BOk.nil {n : Nat} : BOk n [] := ⟨by simp, by simp⟩
theorem BOk.note {n : Nat} {m m' : Bd} {v : Nat} {t : Ty} (b : BOk n m) (hv : Zdj v = true) (ht : t.ok = true) (hn : t.txt.length ≤ n) (h : Zox m v t = some m') : BOk n m' := by
  unfold Zox at h
  split at h
  · split at h
    · cases h; exact b
    · cases h
  · rename_i hg
    cases h
    refine ⟨?_, ?_⟩
    · intro p hp
      rcases List.mem_append.1 hp with hp | hp
      · exact b.var p hp
      · simp at hp; subst hp; exact ⟨hv, ht, hn⟩
    · rw [List.map_append, List.nodup_append]
      refine ⟨b.nd, by simp, ?_⟩
      intro x hx y hy e
      simp at hy; subst hy; subst e
      exact Ztc.1 hg hx
theorem Yaf {t x : Ty} (h : x ∈ t.ps) : x.txt.length ≤ t.txt.length := by
  cases t with
  | k c => simp [Ty.ps] at h
  | u c a => simp [Ty.ps] at h; subst h; simp [Ty.txt]; omega
  | w c a b => simp [Ty.ps] at h; rcases h with rfl | rfl <;> simp [Ty.txt] <;> omega
theorem BOk.matchT {n : Nat} : ∀ {a t : Ty} {m m' : Bd}, a.ok = true → t.ok = true → t.txt.length ≤ n → BOk n m → Go.Sim.matchT m a t = some m' → BOk n m'
  | .k c, t, m, m', ha, ht, hn, b, h => by
    simp only [Go.Sim.matchT] at h
    split at h
    · rename_i hv; exact b.note hv ht hn h
    · split at h
      · cases h; exact b
      · cases h
  | .u c a, t, m, m', ha, ht, hn, b, h => by
    simp only [Ty.ok, Bool.and_eq_true] at ha
    simp only [Go.Sim.matchT] at h
    split at h
    · split at h
      · rename_i x hx
        have hm : x ∈ t.ps := by rw [hx]; simp
        exact BOk.matchT ha.2 (Ty.ok_ps ht x hm) (Nat.le_trans (Yaf hm) hn) b h
      · cases h
    · cases h
  | .w c a a2, t, m, m', ha, ht, hn, b, h => by
    simp only [Ty.ok, Bool.and_eq_true] at ha
    simp only [Go.Sim.matchT] at h
    split at h
    · split at h
      · rename_i x y hx
        have hm : x ∈ t.ps := by rw [hx]; simp
        have hm2 : y ∈ t.ps := by rw [hx]; simp
        split at h
        · rename_i m1 h1
          exact BOk.matchT ha.2 (Ty.ok_ps ht y hm2) (Nat.le_trans (Yaf hm2) hn) (BOk.matchT ha.1.2 (Ty.ok_ps ht x hm) (Nat.le_trans (Yaf hm) hn) b h1) h
        · cases h
      · cases h
    · cases h
theorem BOk.matchL {n : Nat} : ∀ {xs ys : List Ty} {m m' : Bd}, (∀ a ∈ xs, a.ok = true) → (∀ t ∈ ys, t.ok = true ∧ t.txt.length ≤ n) → BOk n m → Go.Sim.matchL m xs ys = some m' → BOk n m'
  | [], _, m, m', _, _, b, h => by simp [Go.Sim.matchL] at h; subst h; exact b
  | a :: xs, [], m, m', _, _, b, h => by simp [Go.Sim.matchL] at h
  | a :: xs, t :: ys, m, m', ha, ht, b, h => by
    simp only [Go.Sim.matchL] at h
    split at h
    · rename_i m1 h1
      exact BOk.matchL (fun a h => ha a (by simp [h])) (fun t h => ht t (by simp [h])) (BOk.matchT (ha a (by simp)) (ht t (by simp)).1 (ht t (by simp)).2 b h1) h
    · cases h
def bdL (m : Bd) : List Nd := Zfn.filterMap fun v => (Zhr m v).map fun t => ([v], t.txt)
noncomputable def Zkf (p s : List Nat) : Option Bd := match Zjh p, Zjh s with | some a, some b => matchT [] a b | _, _ => none
noncomputable def Zpj (p s : List Nat) : Bool := (Zkf p s).isSome
noncomputable def Zjv (p s : List Nat) : List Nd := match Zkf p s with | some m => bdL m | none => []
theorem Zxh {p s : List Nat} {m : Bd} (h : Zkf p s = some m) : BOk 60 m := by
  unfold Zkf at h
  split at h
  · rename_i a b ha hb
    obtain ⟨h1, _, _⟩ := Zfs.1 ha
    obtain ⟨h2, h3, h4⟩ := Zfs.1 hb
    exact BOk.matchT h1 h2 (by rw [← h3]; exact h4) BOk.nil h
  · cases h
theorem Zsb : Zfn.Nodup := by decide
theorem Zum : Zfn.Pairwise (· < ·) := by decide
theorem Yfc (m : Bd) : bdL m = (Zfn.filter fun v => (Zhr m v).isSome).map fun v => ([v], ((Zhr m v).getD default).txt) := by
  unfold bdL
  induction Zfn with
  | nil => rfl
  | cons v l ih =>
    simp only [List.filterMap_cons, List.filter_cons]
    cases h : Zhr m v with
    | none => simpa [h] using ih
    | some t => simp [h, ih]
theorem Yes {n : Nat} {m : Bd} (b : BOk n m) {ks : List Nat} (hp : ks.Perm (m.map (·.1))) (hs : ks.Pairwise (· ≤ ·)) : ks = Zfn.filter fun v => (Zhr m v).isSome := by
  have hnd : ks.Nodup := hp.nodup_iff.2 b.nd
  have h1 : ks.Pairwise (· < ·) := by
    have := List.pairwise_and_iff.2 ⟨hs, hnd⟩
    exact this.imp fun h => by have := h.1; have := h.2; omega
  have h2 : (Zfn.filter fun v => (Zhr m v).isSome).Pairwise (· < ·) := Zum.filter _
  have hp2 : ks.Perm (Zfn.filter fun v => (Zhr m v).isSome) := by
    rw [List.perm_ext_iff_of_nodup hnd (Zsb.filter _)]
    intro v
    rw [hp.mem_iff, List.mem_filter, Ydk]
    constructor
    · intro hv
      obtain ⟨p, hp, rfl⟩ := List.mem_map.1 hv
      exact ⟨(Zpq _).2 (b.var p hp).1, hv⟩
    · exact fun h => h.2
  exact hp2.eq_of_pairwise (fun a b _ _ h1 h2 => by omega) h1 h2
theorem Ygl {α : Type} {f : α → Bool} {l : List α} {g : Nat} (hg : g < l.length) (h : (l.take g).find? f = none) (k : f l[g] = true) : l.find? f = some l[g] := by
  have h1 : l = l.take g ++ l[g] :: l.drop (g + 1) := by rw [← List.drop_eq_getElem_cons hg, List.take_append_drop]
  conv => lhs; rw [h1]
  rw [List.find?_append, h, List.find?_cons, k]; rfl
theorem Zxc {α : Type} {f : α → Bool} {l : List α} {g : Nat} (hg : g < l.length) (h : (l.take g).find? f = none) (k : f l[g] = false) : (l.take (g + 1)).find? f = none := by
  rw [List.take_succ_eq_append_getElem hg, List.find?_append, h]; simp [k]
end Go.Sim
