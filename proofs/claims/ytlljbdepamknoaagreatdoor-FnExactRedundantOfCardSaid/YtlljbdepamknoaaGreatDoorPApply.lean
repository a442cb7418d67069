/- A part of the proof of a statement of this seat: see the text that holds the theorem. No condition. -/
import Derived.Test.YtlljbdepamknoaaGreatDoorPTCWVar2
import Derived.Test.YtlljbdepamknoaaGreatDoorCWLaw
import Derived.Test.YtlljbdepamknoaaGreatDoorPTCWLaw3
import Derived.Test.YtlljbdepamknoaaGreatDoorCWRep
import Derived.Test.YtlljbdepamknoaaGreatDoorNm
import Derived.Test.YtlljbdepamknoaaGreatDoorCTy
import Derived.Test.YtlljbdepamknoaaGreatDoorSimX
import Derived.Test.YtlljbdepamknoaaGreatDoorShelf
set_option linter.unusedVariables false
set_option linter.unusedSimpArgs false
set_option linter.all false
set_option linter.unusedVariables false
set_option linter.unusedSimpArgs false
set_option maxRecDepth 20000
namespace Go.Sim
open Go Go.RowKit

def isz (i : Ins) : Nat := i.1.1.length + i.1.2.length + (i.2.length + Ybb i.2)
def Yjh (l : List Ins) : Nat := (l.map isz).sum
def wsz (w : Wd) : Nat := w.cs.length + Ybb w.cs + (w.is.length + Yjh w.is)
theorem Ycu {l : List Ins} {g : Nat} (h : g < l.length) : Yjh (l.take (g + 1)) = Yjh (l.take g) + isz l[g] := by
 unfold Yjh; rw [List.take_succ_eq_append_getElem h, List.map_append, List.sum_append]; simp
theorem Ycr (l : List Ins) (g : Nat) : Yjh (l.take g) ≤ Yjh l := by
 conv => rhs; rw [← List.take_append_drop g l]
 unfold Yjh; rw [List.map_append, List.sum_append]; omega
theorem Yop {l : List Ins} {g : Nat} (h : g < l.length) : isz l[g] ≤ Yjh l := by
 have := Ycu h; have := Ycr l (g + 1); omega
def Zvh (n : Nat) : Prop := n ≤ 9223372036854775807
structure Yts (w : Wd) : Prop where
 lc : Zvh w.cs.length
 li : Zvh w.is.length
 cs : ∀ p ∈ w.cs, Zvh p.1.length ∧ Zvh p.2.length ∧ ∀ b ∈ p.1, b < 256
 is : ∀ i ∈ w.is, Zvh i.1.1.length ∧ Zvh i.1.2.length ∧ Zvh i.2.length ∧ ∀ p ∈ i.2, Zvh p.1.length ∧ Zvh p.2.length
theorem WB.of {w : Wd} (b : Yts w) (h : wsz w ≤ 1048576) : WB w := by
 have h1 : ∀ p ∈ w.cs, p.1.length + p.2.length ≤ Ybb w.cs := fun p hp => by
  obtain ⟨k, hk, rfl⟩ := List.mem_iff_getElem.1 hp; exact Yfx hk
 have h2 : ∀ i ∈ w.is, isz i ≤ Yjh w.is := fun p hp => by
  obtain ⟨k, hk, rfl⟩ := List.mem_iff_getElem.1 hp; exact Yop hk
 unfold wsz at h
 refine ⟨by omega, by omega, fun p hp => ⟨by have := h1 p hp; omega, by have := h1 p hp; omega, (b.cs p hp).2.2⟩, fun i hi => ?_⟩
 have := h2 i hi
 unfold isz at this
 refine ⟨by omega, by omega, by omega, fun p hp => ?_⟩
 have h3 : p.1.length + p.2.length ≤ Ybb i.2 := by obtain ⟨k, hk, rfl⟩ := List.mem_iff_getElem.1 hp; exact Yfx hk
 omega
theorem Zzn {h : Zaa} {a : Pt} {n cp : Nat} {e : Bool} {i : Ins} {x : Int} (r : Row h.length h a (n * 2) (Zcf eP i.2)) (hb : Zvh i.1.1.length ∧ Zvh i.1.2.length ∧ Zvh i.2.length ∧ ∀ p ∈ i.2, Zvh p.1.length ∧ Zvh p.2.length) (hx : 0 ≤ x ∧ x ≤ 1048576) :
  Zae pg Zkw [.agg [.str i.1.1, .str i.1.2, .slice a n cp e], .int .i64 x] h fun v h' => ∃ y, v = .int .i64 y ∧ Zbb h.length h h' ∧ (0 ≤ y → (isz i : Int) + y = x) := by
 have hl : i.2.length = n := by have := r.1; rw [Zay Zek] at this; omega
 apply Zod.call
 simp only [Zaz]
 have s1 : Zbb h.length h (h ++ [.cells Zfc [.str i.1.1, .str i.1.2, .slice a n cp e] false]) := Zas
 have hi : (h ++ [Zco.cells Zfc [.str i.1.1, .str i.1.2, .slice a n cp e] false])[h.length]? = some (.cells Zfc [.str i.1.1, .str i.1.2, .slice a n cp e] false) := by simp
 simp only [Nat.add_zero]
 rw [Zem hi (by simp)]
 simp only [List.drop_zero, List.take_succ_cons, List.take_zero, Zar, Zah, Zat, Zai]
 refine (Ybp hb.1 hb.2.1 hx).mono ?_
 rintro v h2 ⟨y, rfl, s2, hy⟩
 simp only [Zau]
 have i2 := s2.get hi (Own.lt hi)
 refine Zan (fun hlt => ⟨_, rfl, s1.cat s2, by omega⟩) (fun hge => ?_)
 have hyy := hy (by omega)
 simp only [Zaq i2, Nat.zero_add, List.getElem?_cons_succ, List.getElem?_cons_zero, Zag]
 have hN := hb.2.2.1
 unfold Zvh at hN
 refine (Yhx (r.same' (s1.cat s2)) (fun p hp => hb.2.2.2 p hp) (by omega) (left := y) (by omega)).mono ?_
 rintro v h3 ⟨z, rfl, s3, hz⟩
 simp only [Zau]
 refine Zan (fun hlt => ⟨_, rfl, (s1.cat s2).cat s3, by omega⟩) (fun hge => ⟨_, rfl, (s1.cat s2).cat s3, fun h0 => ?_⟩)
 have := hz h0
 unfold isz; omega
theorem Zxm {h : Zaa} {a0 a : Pt} {n0 c0 n cp : Nat} {e : Bool} {w : Wd} {x : Int} (r : Zmm h a0 n0 c0 a n cp w) (hb : Yts w) (hx : 0 ≤ x ∧ x ≤ 1048576) :
  Zae pg Zkj [.slice a n cp e, .int .i64 x] h fun v h' => ∃ y, v = .int .i64 y ∧ Zbb h.length h h' ∧ (0 ≤ y → (w.is.length : Int) + Yjh w.is + y = x) := by
 have hl := r.len1
 have hbl := hb.li
 unfold Zvh at hbl
 apply Zfv.call
 rw [IntWalk.i64_in _ (by omega)]
 refine Zan (fun hlt => ⟨_, rfl, Zbb.refl _ _, by omega⟩) (fun hge => ?_)
 refine Zfv.L5ind _ _ _ _ _ (J := fun (g : Nat) x1 x5 h' => x5 = (g : Int) ∧ Zbb h.length h h' ∧ g ≤ n ∧ 0 ≤ x1 ∧ x1 + n + Yjh (w.is.take g) = x) (fun g => n - g) ?_ 0 _ 0 h ⟨rfl, Zbb.refl _ _, by omega, by omega, by simp [Yjh]⟩
 rintro g x1 x5 h' ⟨rfl, hS, hg, h0, ht⟩ R hR
 unfold Zfv.L5t
 refine Zan (fun hlt => ?_) (fun hge => ?_)
 ·obtain ⟨i, o, hgl, a2, n2, c2, e2, rfl, _, hr, _, _, _, hrow, hn⟩ := (r.same hS).inst (k := g) (by omega)
  simp only [Zax, Int.toNat_natCast, hr, Zar, Zah, Zat, Zai, Zag]
  refine ⟨by omega, (Zzn (i := w.is[g]) hrow (hb.is _ (List.getElem_mem hgl)) (by omega)).mono ?_⟩
  rintro v h1 ⟨y, rfl, hs1, hy⟩
  simp only [Zau]
  have hS1 := hS.cat hs1
  refine Zan (fun hneg => ⟨_, rfl, hS1, by omega⟩) (fun hneg => ?_)
  have hyy := hy (by omega)
  rw [Zbj (by omega)]
  exact hR (g + 1) _ _ _ (by omega) ⟨rfl, hS1, by omega, by omega, by rw [Ycu hgl]; omega⟩
 ·have : g = n := by omega
  subst this
  rw [List.take_of_length_le (by omega)] at ht
  exact Zfv.A5x0i _ _ _ ⟨_, rfl, hS, by omega⟩
theorem Yhk {h : Zaa} {a0 a1 : Pt} {n0 c0 n1 c1 : Nat} {e0 e1 : Bool} {w : Wd} {x : Int} (r : Zmm h a0 n0 c0 a1 n1 c1 w) (hb : Yts w) (hx : 0 ≤ x ∧ x ≤ 1048576) :
  Zae pg Znn [.agg [.slice a0 n0 c0 e0, .slice a1 n1 c1 e1], .int .i64 x] h fun v h' => ∃ y, v = .int .i64 y ∧ Zbb h.length h h' ∧ (0 ≤ y → (wsz w : Int) + y = x) := by
 have hl0 := r.len0
 apply Zrg.call
 simp only [Zaz]
 have s1 : Zbb h.length h (h ++ [.cells Zez [.slice a0 n0 c0 e0, .slice a1 n1 c1 e1] false]) := Zas
 have hi : (h ++ [Zco.cells Zez [.slice a0 n0 c0 e0, .slice a1 n1 c1 e1] false])[h.length]? = some (.cells Zez [.slice a0 n0 c0 e0, .slice a1 n1 c1 e1] false) := by simp
 simp only [Zaq hi, Nat.add_zero, List.getElem?_cons_zero, Zag]
 have hN := hb.lc
 unfold Zvh at hN
 refine (Ybu (r.cls.same' s1) (fun p hp => ⟨(hb.cs p hp).1, (hb.cs p hp).2.1⟩) (by omega) hx).mono ?_
 rintro v h2 ⟨y, rfl, s2, hy⟩
 simp only [Zau]
 have i2 := s2.get hi (Own.lt hi)
 refine Zan (fun hlt => ⟨_, rfl, s1.cat s2, by omega⟩) (fun hge => ?_)
 have hyy := hy (by omega)
 simp only [Zaq i2, Nat.zero_add, List.getElem?_cons_succ, List.getElem?_cons_zero, Zag]
 refine (Zxm (r.same (s1.cat s2)) hb (x := y) (by omega)).mono ?_
 rintro v h3 ⟨z, rfl, s3, hz⟩
 simp only [Zau]
 refine Zan (fun hlt => ⟨_, rfl, (s1.cat s2).cat s3, by omega⟩) (fun hge => ⟨_, rfl, (s1.cat s2).cat s3, fun h0 => ?_⟩)
 have := hz h0
 unfold wsz; omega

theorem Yjq {h : Zaa} {i : Nat} {t : TypeId} {x y z v : Zam} (hi : h[i]? = some (.cells t [x, y, z] false)) : Zbk h (.ptr (some (i, 2))) [v] = some (h.set i (.cells t [x, y, v] false)) := by
 rw [Zbr hi (by simp)]; rfl
theorem Yhl {h : Zaa} {i : Nat} {t : TypeId} {x y z v u : Zam} (hi : h[i]? = some (.cells t [x, y, z] false)) : Zbk h (.ptr (some (i, 0))) [v, u] = some (h.set i (.cells t [v, u, z] false)) := by
 rw [Zbr hi (by simp)]; rfl
theorem Yim {h : Zaa} {i : Nat} {t : TypeId} {x y z a b c : Zam} (hi : h[i]? = some (.cells t [x, y, z] false)) : Zbk h (.ptr (some (i, 0))) [a, b, c] = some (h.set i (.cells t [a, b, c] false)) := by
 rw [Zbr hi (by simp)]; rfl
theorem Zzh {h : Zaa} {i : Nat} {t : TypeId} {x y z : Zam} {ro : Bool} (hi : h[i]? = some (.cells t [x, y, z] ro)) : Zbv h (.ptr (some (i, 0))) 3 = some [x, y, z] := by
 rw [Zem hi (by simp)]; rfl
theorem Zwf {h : Zaa} {i : Nat} {t : TypeId} {x y z : Zam} {ro : Bool} (hi : h[i]? = some (.cells t [x, y, z] ro)) : Zbv h (.ptr (some (i, 0))) 2 = some [x, y] := by
 rw [Zem hi (by simp)]; rfl
theorem Zbb.set' {b i : Nat} {h h1 : Zaa} {x : Zco} (s : Zbb b h h1) (hi : b ≤ i) : Zbb b h (h1.set i x) := ⟨by simp; exact s.le, fun j hj => by rw [Zcj (by omega)]; exact s.eq j hj⟩
theorem Zcv.keep {α : Type} {ty : TypeId} {enc : α → List Zam} {b b' : Nat} {h h' : Zaa} {a : Pt} {n : Nat} {l : List α} (f : Zcv ty enc b h a n l) (hb : b' ≤ b) (hk : ∀ i, b ≤ i → i < h.length → h'[i]? = h[i]?) : Zcv ty enc b' h' a n l :=
 ⟨f.1, f.2.imp id fun ⟨i, ha, hbi, hi⟩ => ⟨i, ha, by omega, by rw [hk i hbi (Own.lt hi)]; exact hi⟩⟩
theorem Zzi {h : Zaa} {a : Pt} {n cp : Nat} {e : Bool} {i : Ins} (r : Row h.length h a (n * 2) (Zcf eP i.2)) (hn : n ≤ 1048576) :
  Zae pg Zkx [.agg [.str i.1.1, .str i.1.2, .slice a n cp e]] h fun v h' => ∃ a' c' e', v = .agg [.str i.1.1, .str i.1.2, .slice a' n c' e'] ∧ Zbb h.length h h' ∧ Zcv Zaj eP h.length h' a' n i.2 ∧ a' ≠ none := by
 apply Zop.call
 simp only [Zaz]
 generalize hh0 : h ++ [Zco.cells Zfc [.str i.1.1, .str i.1.2, .slice a n cp e] false] = h0
 generalize hh1 : h0 ++ [Zco.cells Zac [.str [], .str [], .slice none 0 0 true] false] = h1
 generalize hh2 : h1 ++ [Zco.cells Zac [.str [], .str [], .slice none 0 0 true] false] = h2
 have s0 : Zbb h.length h h0 := by rw [← hh0]; exact Zas
 have s1 : Zbb h0.length h0 h1 := by rw [← hh1]; exact Zas
 have s2 : Zbb h1.length h1 h2 := by rw [← hh2]; exact Zas
 have l0 : h0.length = h.length + 1 := by rw [← hh0]; simp
 have l1 : h1.length = h.length + 2 := by rw [← hh1]; simp [l0]
 have l2 : h2.length = h.length + 3 := by rw [← hh2]; simp [l1]
 have x0 : h0[h.length]? = some (.cells Zfc [.str i.1.1, .str i.1.2, .slice a n cp e] false) := by rw [← hh0]; simp
 have y1 : h1[h0.length]? = some (.cells Zac [.str [], .str [], .slice none 0 0 true] false) := by rw [← hh1]; simp
 have z2 : h2[h1.length]? = some (.cells Zac [.str [], .str [], .slice none 0 0 true] false) := by rw [← hh2]; simp
 have x2 := s2.get (s1.get x0 (by omega)) (by omega)
 have y2 := s2.get y1 (by omega)
 have S2 := (s0.cat s1).cat s2
 simp only [Nat.add_zero, Nat.zero_add]
 rw [Zwf x2]
 simp only [Zar, Zah, Zat, Zai]
 refine Ycg.mono ?_
 rintro v h3 ⟨rfl, s3⟩
 simp only [Zdp, Zah, Zat, Zai]
 have z3 := s3.get z2 (by omega)
 have x3 := s3.get x2 (by omega)
 have y3 := s3.get y2 (by omega)
 have l3 := s3.le
 rw [Yhl z3]
 simp only [Zaw]
 have x4 : (h3.set h1.length (.cells Zac [.str i.1.1, .str i.1.2, .slice none 0 0 true] false))[h.length]? = some (.cells Zfc [.str i.1.1, .str i.1.2, .slice a n cp e] false) := by rw [Zcj (by omega)]; exact x3
 have y4 : (h3.set h1.length (.cells Zac [.str i.1.1, .str i.1.2, .slice none 0 0 true] false))[h0.length]? = some (.cells Zac [.str [], .str [], .slice none 0 0 true] false) := by rw [Zcj (by omega)]; exact y3
 have z4 : (h3.set h1.length (.cells Zac [.str i.1.1, .str i.1.2, .slice none 0 0 true] false))[h1.length]? = some (.cells Zac [.str i.1.1, .str i.1.2, .slice none 0 0 true] false) := Zcq z3
 have S4 : Zbb h.length h (h3.set h1.length (.cells Zac [.str i.1.1, .str i.1.2, .slice none 0 0 true] false)) := (S2.cat s3).set' (by omega)
 generalize hh4 : h3.set h1.length (.cells Zac [.str i.1.1, .str i.1.2, .slice none 0 0 true] false) = h4 at *
 have l4 : h4.length = h3.length := by rw [← hh4]; simp
 simp only [Zaq x4, List.getElem?_cons_succ, List.getElem?_cons_zero, Zag]
 refine (Yej (r.same' S4) hn).mono ?_
 rintro v h5 ⟨a', c', e', rfl, s5, f5, hc5, hnn⟩
 simp only [Zag]
 have l5 := s5.le
 have y5 := s5.get y4 (by omega)
 have z5 := s5.get z4 (by omega)
 rw [Yjq z5]
 simp only [Zaw]
 rw [Zzh (Zcq z5)]
 simp only [Zar, Zah, Zat, Zai, Zag]
 have y6 : (h5.set h1.length (.cells Zac [.str i.1.1, .str i.1.2, .slice a' n c' e'] false))[h0.length]? = some (.cells Zac [.str [], .str [], .slice none 0 0 true] false) := by rw [Zcj (by omega)]; exact y5
 rw [Yim y6]
 simp only [Zaw]
 rw [Zzh (Zcq y6)]
 simp only [Zar, Zah, Zat, Zai, Zag]
 exact ⟨_, _, _, rfl, ((S4.cat s5).set' (by omega)).set' (by omega), f5.keep (by omega) fun j hj _ => by rw [Zcj (by omega), Zcj (by omega)], hnn⟩
end Go.Sim

set_option linter.unusedVariables false
set_option linter.unusedSimpArgs false
set_option maxRecDepth 20000
namespace Go.Sim
open Go Go.RowKit

theorem Ype {α : Type} {enc : α → List Zam} {w : Nat} (hw : ∀ x, (enc x).length = w) {ys : List α} {y : α} {k n : Nat} {z : List Zam} (hk : ys.length = k) (hn : k < n) (hz : z.length = w) :
  putRow (Zcf enc ys ++ reps (n - k) z) (k * w) (enc y) = Zcf enc (ys ++ [y]) ++ reps (n - (k + 1)) z := by
 have h1 : (Zcf enc ys).length = k * w := by rw [Zay hw, hk]
 have h2 : reps (n - k) z = z ++ reps (n - (k + 1)) z := by
  rw [show n - k = (n - (k + 1)) + 1 by omega]; simp [reps, List.replicate_succ]
 unfold putRow
 rw [List.take_append_of_le_length (by omega), List.take_of_length_le (by omega), Zeg, Zfu, Ypa, List.append_nil, hw, h2, List.append_assoc, List.append_assoc]
 congr 2
 rw [← h1, ← hz, List.drop_append, List.drop_of_length_le (by omega)]
 simp
theorem Ynk {α : Type} {enc : α → List Zam} {w : Nat} (hw : ∀ x, (enc x).length = w) {ys : List α} {k n : Nat} {z : List Zam} (hk : ys.length = k) (hn : k ≤ n) (hz : z.length = w) : (Zcf enc ys ++ reps (n - k) z).length = n * w := by
 have h1 : (reps (n - k) z).length = (n - k) * w := by unfold reps; rw [List.length_flatten]; simp [hz]
 rw [List.length_append, Zay hw, h1, hk, ← Nat.add_mul]; congr 1; omega
theorem Zxr {h : Zaa} {a0 a : Pt} {n0 c0 n cp : Nat} {e : Bool} {w : Wd} (r : Zmm h a0 n0 c0 a n cp w) (b : WB w) :
  Zae pg Zkc [.slice a n cp e] h fun v h' => ∃ a' c' e' ys, v = .slice a' n c' e' ∧ n ≤ c' ∧ Zbb h.length h h' ∧ Zcv Zac eN h.length h' a' n ys ∧ ys.length = w.is.length ∧
   (∀ (k : Nat) (x : EI) (i : Ins), ys[k]? = some x → w.is[k]? = some i → x.c = i.1.1 ∧ x.t = i.1.2 ∧ Zcv Zaj eP h.length h' x.a x.n i.2) ∧
   (∀ (j k : Nat) (x y : EI), j ≠ k → ys[j]? = some x → ys[k]? = some y → x.n ≠ 0 → y.n ≠ 0 → x.a ≠ y.a) ∧ ∀ x ∈ ys, x.a ≠ none := by
 have hl := r.len1
 have hli := b.li
 apply Zfy.call
 simp only [Zaz, Int.toNat_natCast]
 refine ⟨by trivial, by trivial, ⟨by omega, by omega, by omega⟩, ?_⟩
 refine Zfy.L3ind _ _ _ _ _ _ _ _ _ (J := fun (g : Nat) x4 h' => x4 = (g : Int) ∧ g ≤ n ∧ Zbb h.length h h' ∧ ∃ ys : List EI, ys.length = g ∧ h'[h.length]? = some (.cells Zac (Zcf eN ys ++ reps (n - g) [.str [], .str [], .slice none 0 0 true]) false) ∧
   (∀ (k : Nat) (x : EI) (i : Ins), ys[k]? = some x → w.is[k]? = some i → x.c = i.1.1 ∧ x.t = i.1.2 ∧ Zcv Zaj eP (h.length + 1) h' x.a x.n i.2) ∧
   (∀ (j k : Nat) (x y : EI), j ≠ k → ys[j]? = some x → ys[k]? = some y → x.n ≠ 0 → y.n ≠ 0 → x.a ≠ y.a) ∧ ∀ x ∈ ys, x.a ≠ none) (fun g => n - g) ?_ 0 _ _
  ⟨rfl, by omega, Zbb.app (Nat.le_refl _) _, [], rfl, by simp, by simp, by simp, by simp⟩
 rintro g x4 h' ⟨rfl, hg, hs, ys, hy, ho, hrep, hsep, hnn⟩ R hR
 unfold Zfy.L3t
 refine Zan (fun hlt => ?_) (fun hge => ?_)
 ·have hlt' : g < n := by omega
  obtain ⟨i, o, hgl, a2, n2, c2, e2, rfl, _, hr, _, _, _, hrow, hn⟩ := (r.same hs).inst (k := g) (by omega)
  simp only [Zax, Int.toNat_natCast, hr, Zar, Zah, Zat, Zai, Zag]
  have hb := b.is _ (List.getElem_mem hgl)
  refine ⟨by omega, (Zzi (i := w.is[g]) hrow (by omega)).mono ?_⟩
  rintro v h1 ⟨a', c', e', rfl, s1, f1, hnn1⟩
  simp only [Zdp, Zah, Zat, Zai, Zag]
  have hol := Own.lt ho
  have ho1 := s1.get ho hol
  have hlen := Ynk (enc := eN) Ziy (ys := ys) (k := g) (n := n) (z := [.str [], .str [], .slice none 0 0 true]) hy hg rfl
  rw [Zbr ho1 (by rw [hlen]; simp; omega)]
  simp only [Zaw]
  have hput := Ype (enc := eN) Ziy (ys := ys) (y := ⟨w.is[g].1.1, w.is[g].1.2, a', n2, c', e'⟩) (k := g) (n := n) (z := [.str [], .str [], .slice none 0 0 true]) hy hlt' rfl
  rw [Nat.zero_add, show ([.str w.is[g].1.1, .str w.is[g].1.2, .slice a' n2 c' e'] : List Zam) = eN ⟨w.is[g].1.1, w.is[g].1.2, a', n2, c', e'⟩ from rfl, hput, Zbj (by omega)]
  refine ⟨by omega, hR (g + 1) _ _ (by omega) ⟨rfl, by omega, (hs.cat s1).set' (Nat.le_refl _), ys ++ [⟨w.is[g].1.1, w.is[g].1.2, a', n2, c', e'⟩], by simp [hy], Zcq ho1, ?_, ?_, fun x hx => by
   rcases List.mem_append.1 hx with hx | hx
   ·exact hnn x hx
   ·rw [List.mem_singleton] at hx; subst hx; exact hnn1⟩⟩
  ·intro k x j hx hj
   by_cases hk : k < g
   ·rw [List.getElem?_append_left (by omega)] at hx
    obtain ⟨p1, p2, p3⟩ := hrep k x j hx hj
    refine ⟨p1, p2, p3.keep (Nat.le_refl _) fun q hq hq2 => ?_⟩
    rw [Zcj (by omega)]; exact s1.eq q hq2
   ·have hkl := (List.getElem?_eq_some_iff.1 hx).1
    simp [hy] at hkl
    have : k = g := by omega
    subst this
    rw [List.getElem?_append_right (by omega), hy, Nat.sub_self] at hx
    simp at hx
    subst hx
    rw [List.getElem?_eq_getElem hgl] at hj
    cases hj
    exact ⟨rfl, rfl, f1.keep (by omega) fun q hq hq2 => by rw [Zcj (by omega)]⟩
  ·have old : ∀ (j : Nat) (x : EI), ys[j]? = some x → x.n ≠ 0 → x.a ≠ a' ∨ n2 = 0 := by
    intro j x hx hn
    have hjl := (List.getElem?_eq_some_iff.1 hx).1
    obtain ⟨_, _, _, p3⟩ := hrep j x (w.is[j]'(by omega)) hx (List.getElem?_eq_getElem (by omega))
    rcases p3 with h0 | ⟨q, hq, _, hq2⟩
    ·exact absurd h0 hn
    ·have := Own.lt hq2
     rcases f1.2 with h0 | ⟨q', hq', hb', _⟩
     ·exact .inr h0
     ·refine .inl ?_
      rw [hq, hq']; intro e; cases e; omega
   intro j k x y hjk hx hy' hxn hyn
   by_cases hj : j < g <;> by_cases hk : k < g
   ·rw [List.getElem?_append_left (by omega)] at hx hy'
    exact hsep j k x y hjk hx hy' hxn hyn
   ·have hkl := (List.getElem?_eq_some_iff.1 hy').1
    simp [hy] at hkl
    have : k = g := by omega
    subst this
    rw [List.getElem?_append_right (by omega), hy, Nat.sub_self] at hy'
    simp at hy'
    subst hy'
    rw [List.getElem?_append_left (by omega)] at hx
    rcases old j x hx hxn with h1 | h1
    ·exact h1
    ·exact absurd h1 hyn
   ·have hkl := (List.getElem?_eq_some_iff.1 hx).1
    simp [hy] at hkl
    have : j = g := by omega
    subst this
    rw [List.getElem?_append_right (by omega), hy, Nat.sub_self] at hx
    simp at hx
    subst hx
    rw [List.getElem?_append_left (by omega)] at hy'
    rcases old k y hy' hyn with h1 | h1
    ·exact fun e => h1 e.symm
    ·exact absurd h1 hxn
   ·have h1 := (List.getElem?_eq_some_iff.1 hx).1
    have h2 := (List.getElem?_eq_some_iff.1 hy').1
    simp [hy] at h1 h2
    omega
 ·have : g = n := by omega
  subst this
  apply Zfy.A3x0i
  simp [reps] at ho
  refine ⟨_, _, _, ys, rfl, Nat.le_refl _, hs, ⟨hy, .inr ⟨h.length, rfl, Nat.le_refl _, ho⟩⟩, by omega, fun k x i hx hi => ?_, hsep, hnn⟩
  obtain ⟨p1, p2, p3⟩ := hrep k x i hx hi
  exact ⟨p1, p2, p3.keep (by omega) fun _ _ _ => rfl⟩
theorem Ybz {h : Zaa} {i : Nat} {t : TypeId} {x y v : Zam} (hi : h[i]? = some (.cells t [x, y] false)) : Zbk h (.ptr (some (i, 0))) [v] = some (h.set i (.cells t [v, y] false)) := by
 rw [Zbr hi (by simp)]; rfl
theorem Zzm {h : Zaa} {i : Nat} {t : TypeId} {x y v : Zam} (hi : h[i]? = some (.cells t [x, y] false)) : Zbk h (.ptr (some (i, 1))) [v] = some (h.set i (.cells t [x, v] false)) := by
 rw [Zbr hi (by simp)]; rfl
theorem Yhv {h : Zaa} {i : Nat} {t : TypeId} {x y a b : Zam} (hi : h[i]? = some (.cells t [x, y] false)) : Zbk h (.ptr (some (i, 0))) [a, b] = some (h.set i (.cells t [a, b] false)) := by
 rw [Zbr hi (by simp)]; rfl
theorem Zby {h : Zaa} {i : Nat} {t : TypeId} {x y : Zam} {ro : Bool} (hi : h[i]? = some (.cells t [x, y] ro)) : Zbv h (.ptr (some (i, 0))) 2 = some [x, y] := by
 rw [Zem hi (by simp)]; rfl
theorem Zqt {h : Zaa} {a0 a1 : Pt} {n0 c0 n1 c1 : Nat} {e0 e1 : Bool} {w : Wd} (r : Zmm h a0 n0 c0 a1 n1 c1 w) (b : WB w) :
  Zae pg Zhc [.agg [.slice a0 n0 c0 e0, .slice a1 n1 c1 e1]] h fun v h' => ∃ b0 d0 f0 b1 d1 f1 ys, v = .agg [.slice b0 n0 d0 f0, .slice b1 n1 d1 f1] ∧ n0 ≤ d0 ∧ n1 ≤ d1 ∧ Zbb h.length h h' ∧ Zne h.length h' b0 n0 b1 n1 ys w := by
 have hl0 := r.len0
 have hlc := b.lc
 apply Zrj.call
 simp only [Zaz]
 generalize hh0 : h ++ [Zco.cells Zez [.slice a0 n0 c0 e0, .slice a1 n1 c1 e1] false] = h0
 generalize hh1 : h0 ++ [Zco.cells Zaf [.slice none 0 0 true, .slice none 0 0 true] false] = h1
 generalize hh2 : h1 ++ [Zco.cells Zaf [.slice none 0 0 true, .slice none 0 0 true] false] = h2
 have s0 : Zbb h.length h h0 := by rw [← hh0]; exact Zas
 have s1 : Zbb h0.length h0 h1 := by rw [← hh1]; exact Zas
 have s2 : Zbb h1.length h1 h2 := by rw [← hh2]; exact Zas
 have l0 : h0.length = h.length + 1 := by rw [← hh0]; simp
 have l1 : h1.length = h.length + 2 := by rw [← hh1]; simp [l0]
 have l2 : h2.length = h.length + 3 := by rw [← hh2]; simp [l1]
 have x0 : h0[h.length]? = some (.cells Zez [.slice a0 n0 c0 e0, .slice a1 n1 c1 e1] false) := by rw [← hh0]; simp
 have y1 : h1[h0.length]? = some (.cells Zaf [.slice none 0 0 true, .slice none 0 0 true] false) := by rw [← hh1]; simp
 have z2 : h2[h1.length]? = some (.cells Zaf [.slice none 0 0 true, .slice none 0 0 true] false) := by rw [← hh2]; simp
 have x2 := s2.get (s1.get x0 (by omega)) (by omega)
 have y2 := s2.get y1 (by omega)
 have S2 := (s0.cat s1).cat s2
 simp only [Nat.add_zero, Nat.zero_add, Zaq x2, List.getElem?_cons_zero, Zag]
 refine (Ybc (r.cls.same' S2) (by omega)).mono ?_
 rintro v h3 ⟨b0, d0, f0, rfl, s3, g3, hd0⟩
 simp only [Zag]
 have z3 := s3.get z2 (by omega)
 have x3 := s3.get x2 (by omega)
 have y3 := s3.get y2 (by omega)
 have l3 := s3.le
 rw [Ybz z3]
 simp only [Zaw]
 have x4 : (h3.set h1.length (.cells Zaf [.slice b0 n0 d0 f0, .slice none 0 0 true] false))[h.length]? = some (.cells Zez [.slice a0 n0 c0 e0, .slice a1 n1 c1 e1] false) := by rw [Zcj (by omega)]; exact x3
 have y4 : (h3.set h1.length (.cells Zaf [.slice b0 n0 d0 f0, .slice none 0 0 true] false))[h0.length]? = some (.cells Zaf [.slice none 0 0 true, .slice none 0 0 true] false) := by rw [Zcj (by omega)]; exact y3
 have z4 : (h3.set h1.length (.cells Zaf [.slice b0 n0 d0 f0, .slice none 0 0 true] false))[h1.length]? = some (.cells Zaf [.slice b0 n0 d0 f0, .slice none 0 0 true] false) := Zcq z3
 have S4 : Zbb h.length h (h3.set h1.length (.cells Zaf [.slice b0 n0 d0 f0, .slice none 0 0 true] false)) := (S2.cat s3).set' (by omega)
 have g4 : Zcv Zbc eP (h.length + 3) (h3.set h1.length (.cells Zaf [.slice b0 n0 d0 f0, .slice none 0 0 true] false)) b0 n0 w.cs := g3.keep (by omega) fun j hj _ => by rw [Zcj (by omega)]
 generalize hh4 : h3.set h1.length (.cells Zaf [.slice b0 n0 d0 f0, .slice none 0 0 true] false) = h4 at *
 have l4 : h4.length = h3.length := by rw [← hh4]; simp
 simp only [Zaq x4, List.getElem?_cons_succ, List.getElem?_cons_zero, Zag]
 refine (Zxr (r.same S4) b).mono ?_
 rintro v h5 ⟨b1, d1, f1, ys, rfl, hd1, s5, g5, hyl, hrep, hsep, hnn⟩
 simp only [Zag]
 have l5 := s5.le
 have y5 := s5.get y4 (by omega)
 have z5 := s5.get z4 (by omega)
 rw [Zzm z5]
 simp only [Zaw]
 rw [Zby (Zcq z5)]
 simp only [Zar, Zah, Zat, Zag]
 have y6 : (h5.set h1.length (.cells Zaf [.slice b0 n0 d0 f0, .slice b1 n1 d1 f1] false))[h0.length]? = some (.cells Zaf [.slice none 0 0 true, .slice none 0 0 true] false) := by rw [Zcj (by omega)]; exact y5
 rw [Yhv y6]
 simp only [Zaw]
 rw [Zby (Zcq y6)]
 simp only [Zar, Zah, Zat, Zag]
 refine ⟨_, _, _, _, _, _, ys, rfl, hd0, hd1, ((S4.cat s5).set' (by omega)).set' (by omega), ?_⟩
 have kp : ∀ j, h.length + 3 ≤ j → j < h5.length → ((h5.set h1.length (.cells Zaf [.slice b0 n0 d0 f0, .slice b1 n1 d1 f1] false)).set h0.length (.cells Zaf [.slice b0 n0 d0 f0, .slice b1 n1 d1 f1] false))[j]? = h5[j]? := fun j hj _ => by rw [Zcj (by omega), Zcj (by omega)]
 exact ⟨(g4.same s5).keep (by omega) fun j hj hj2 => kp j hj hj2, g5.keep (by omega) fun j hj hj2 => kp j (by omega) hj2, hyl, fun k x i hx hi => by
  obtain ⟨p1, p2, p3⟩ := hrep k x i hx hi
  exact ⟨p1, p2, p3.keep (by omega) fun j hj hj2 => kp j (by omega) hj2⟩, hsep, hnn⟩

theorem Zzv {h : Zaa} {a a' : Pt} {n n' c c' : Nat} {e e' : Bool} {i : Ins} (r : Row h.length h a (n * 2) (Zcf eP i.2)) (r' : Row h.length h a' (n' * 2) (Zcf eP i.2)) (hn : n ≤ 1048576) :
  Zae pg Zky [.agg [.str i.1.1, .str i.1.2, .slice a n c e], .agg [.str i.1.1, .str i.1.2, .slice a' n' c' e']] h fun v h' => v = .bool true ∧ Zbb h.length h h' := by
 apply Zon.call
 simp only [Zaz]
 generalize hh0 : h ++ [Zco.cells Zac [.str i.1.1, .str i.1.2, .slice a n c e] false] = h0
 generalize hh1 : h0 ++ [Zco.cells Zac [.str i.1.1, .str i.1.2, .slice a' n' c' e'] false] = h1
 have s0 : Zbb h.length h h0 := by rw [← hh0]; exact Zas
 have s1 : Zbb h0.length h0 h1 := by rw [← hh1]; exact Zas
 have x0 : h0[h.length]? = some (.cells Zac [.str i.1.1, .str i.1.2, .slice a n c e] false) := by rw [← hh0]; simp
 have y1 : h1[h0.length]? = some (.cells Zac [.str i.1.1, .str i.1.2, .slice a' n' c' e'] false) := by rw [← hh1]; simp
 have x1 := s1.get x0 (Own.lt x0)
 simp only [Nat.add_zero, Nat.zero_add]
 rw [Zwf x1, Zwf y1]
 simp only [Zar, Zah, Zat, Zai]
 refine Yde.mono ?_
 rintro v h2 ⟨rfl, s2⟩
 simp only [Zal, decide_true, Bool.and_self, Bool.not_true, Zbh]
 simp only [Zaq (s2.get x1 (Own.lt x1)), Zaq (s2.get y1 (Own.lt y1)), List.getElem?_cons_succ, List.getElem?_cons_zero, Zag]
 have S2 := (s0.cat s1).cat s2
 refine (Yho (r.same' S2) (r'.same' S2) (by omega) rfl).mono ?_
 rintro v h3 ⟨rfl, s3⟩
 simp only [Zal, Bool.not_true, Zbh]
 exact ⟨by trivial, S2.cat s3⟩
theorem Zxx {h : Zaa} {a a' x x' : Pt} {n n' c c' m m' d d' : Nat} {e e' : Bool} {w : Wd} (r : Zmm h x m d a n c w) (r' : Zmm h x' m' d' a' n' c' w) (b : WB w) :
  Zae pg Zkk [.slice a n c e, .slice a' n' c' e'] h fun v h' => v = .bool true ∧ Zbb h.length h h' := by
 have hl := r.len1
 have hl' := r'.len1
 have hli := b.li
 have : n' = n := by omega
 subst this
 apply Zfw.call
 simp only [beq_self_eq_true, Bool.not_true, Zbh]
 refine Zfw.L4ind _ _ _ _ _ _ _ _ _ (J := fun (k : Nat) x5 h' => Zbb h.length h h' ∧ x5 = (k : Int) ∧ k ≤ n') (fun k => n' - k) ?_ 0 0 h ⟨Zbb.refl _ _, rfl, by omega⟩
 rintro k x5 h' ⟨hs, rfl, hk⟩ R hR
 unfold Zfw.L4t
 refine Zan (fun hlt => ?_) (fun hge => Zfw.A4x0i _ _ ⟨rfl, hs⟩)
 obtain ⟨i, o, hgl, a2, n2, c2, e2, rfl, _, hr, _, _, _, hrow, hn⟩ := (r.same hs).inst (k := k) (by omega)
 obtain ⟨i', o', hgl', a2', n2', c2', e2', rfl, _, hr', _, _, _, hrow', hn'⟩ := (r'.same hs).inst (k := k) (by omega)
 have hb := b.is _ (List.getElem_mem hgl)
 simp only [Zax, Int.toNat_natCast, hr, hr', Zar, Zah, Zat, Zai, Zag, true_and]
 refine ⟨⟨by omega, by omega⟩, ⟨by omega, by omega⟩, (Zzv (i := w.is[k]) hrow hrow' (by omega)).mono ?_⟩
 rintro v h1 ⟨rfl, s1⟩
 simp only [Zal, Bool.not_true, Zbh]
 rw [Zbj (by omega)]
 exact hR (k + 1) _ _ (by omega) ⟨hs.cat s1, rfl, by omega⟩
theorem Yhf {h : Zaa} {a0 a1 b0 b1 : Pt} {n0 c0 n1 c1 m0 d0 m1 d1 : Nat} {e0 e1 f0 f1 : Bool} {w : Wd} (r : Zmm h a0 n0 c0 a1 n1 c1 w) (r' : Zmm h b0 m0 d0 b1 m1 d1 w) (b : WB w) :
  Zae pg Znx [.agg [.slice a0 n0 c0 e0, .slice a1 n1 c1 e1], .agg [.slice b0 m0 d0 f0, .slice b1 m1 d1 f1]] h fun v h' => v = .bool true ∧ Zbb h.length h h' := by
 have hl := r.len0
 have hlc := b.lc
 apply Zrt.call
 simp only [Zaz]
 generalize hh0 : h ++ [Zco.cells Zaf [.slice a0 n0 c0 e0, .slice a1 n1 c1 e1] false] = h0
 generalize hh1 : h0 ++ [Zco.cells Zaf [.slice b0 m0 d0 f0, .slice b1 m1 d1 f1] false] = h1
 have s0 : Zbb h.length h h0 := by rw [← hh0]; exact Zas
 have s1 : Zbb h0.length h0 h1 := by rw [← hh1]; exact Zas
 have x0 : h0[h.length]? = some (.cells Zaf [.slice a0 n0 c0 e0, .slice a1 n1 c1 e1] false) := by rw [← hh0]; simp
 have y1 : h1[h0.length]? = some (.cells Zaf [.slice b0 m0 d0 f0, .slice b1 m1 d1 f1] false) := by rw [← hh1]; simp
 have x1 := s1.get x0 (Own.lt x0)
 simp only [Nat.add_zero, Nat.zero_add, Zaq x1, Zaq y1, List.getElem?_cons_zero, Zag]
 have S1 := s0.cat s1
 refine (Ybg (r.cls.same' S1) (r'.cls.same' S1) (by omega) rfl).mono ?_
 rintro v h2 ⟨rfl, s2⟩
 simp only [Zal, Bool.not_true, Zbh, Zaq (s2.get x1 (Own.lt x1)), Zaq (s2.get y1 (Own.lt y1)), List.getElem?_cons_succ, List.getElem?_cons_zero, Zag]
 refine (Zxx (r.same (S1.cat s2)) (r'.same (S1.cat s2)) b).mono ?_
 rintro v h3 ⟨rfl, s3⟩
 simp only [Zal, Bool.not_true, Zbh]
 exact ⟨by trivial, (S1.cat s2).cat s3⟩
end Go.Sim

set_option linter.unusedVariables false
set_option linter.unusedSimpArgs false
set_option maxRecDepth 20000
namespace Go.Sim
open Go Go.RowKit

theorem Ty.size_ps (t : Ty) : t.size = 1 + (t.ps.map Ty.size).sum := by cases t <;> simp [Ty.size, Ty.ps] <;> omega
theorem Zhy.same {S : Nat → Prop} {h h' : Zaa} (s : Zbb h.length h h') : ∀ {t : Ty} {v : List Zam}, Zhy S h t v → Zhy S h' t v
 | .k d, _, h => h
 | .u d x, _, ⟨j, c, e, r, hv, sj, hj, hr⟩ => ⟨j, c, e, r, hv, sj, s.get hj (Own.lt hj), hr.same s⟩
 | .w d x y, _, ⟨j, c, e, r, r', hv, sj, hj, hr, hr'⟩ => ⟨j, c, e, r, r', hv, sj, s.get hj (Own.lt hj), hr.same s, hr'.same s⟩
end Go.Sim

set_option linter.unusedVariables false
set_option linter.unusedSimpArgs false
set_option maxRecDepth 20000
namespace Go.Sim
open Go Go.RowKit

theorem Vec.lt' {ty : TypeId} {h : Zaa} {a : Pt} {i n c : Nat} {cs : List Zam} (x : Vec ty h a n c cs) (e : a = some (i, 0)) : i < h.length := by subst e; exact x.lt
theorem Zrn.keep {S : Nat → Prop} {h h' : Zaa} (hh : ∀ j, S j → j < h.length → h'[j]? = h[j]?) : ∀ {t : Ty} {p : Pt}, Zrn S h t p → Zrn S h' t p
 | .k d, p, ⟨i, a, c, e, hp, si, hi⟩ => ⟨i, a, c, e, hp, si, by rw [hh i si (Own.lt hi)]; exact hi⟩
 | .u d x, p, ⟨i, j, c, e, q, hp, si, hi, sj, hj, hq⟩ => ⟨i, j, c, e, q, hp, si, by rw [hh i si (Own.lt hi)]; exact hi, sj, by rw [hh j sj (Own.lt hj)]; exact hj, hq.keep hh⟩
 | .w d x y, p, ⟨i, j, c, e, q, r, hp, si, hi, sj, hj, hq, hr⟩ => ⟨i, j, c, e, q, r, hp, si, by rw [hh i si (Own.lt hi)]; exact hi, sj, by rw [hh j sj (Own.lt hj)]; exact hj, hq.keep hh, hr.keep hh⟩
theorem Zrn.same {S : Nat → Prop} {h h' : Zaa} {t : Ty} {p : Pt} (r : Zrn S h t p) (s : Zbb h.length h h') : Zrn S h' t p := r.keep fun j _ hj => s.eq j hj
theorem Zhy.keep {S : Nat → Prop} {h h' : Zaa} (hh : ∀ j, S j → j < h.length → h'[j]? = h[j]?) : ∀ {t : Ty} {v : List Zam}, Zhy S h t v → Zhy S h' t v
 | .k d, _, h => h
 | .u d x, _, ⟨j, c, e, r, hv, sj, hj, hr⟩ => ⟨j, c, e, r, hv, sj, by rw [hh j sj (Own.lt hj)]; exact hj, hr.keep hh⟩
 | .w d x y, _, ⟨j, c, e, r, r', hv, sj, hj, hr, hr'⟩ => ⟨j, c, e, r, r', hv, sj, by rw [hh j sj (Own.lt hj)]; exact hj, hr.keep hh, hr'.keep hh⟩
theorem Ty.txt_inter (t : Ty) (h : t.ps ≠ []) : t.txt = ([t.hd] ++ [40]) ++ [44].intercalate (t.ps.map Ty.txt) ++ [41] := by
 cases t with
 | k c => simp [Ty.ps] at h
 | u c a => simp [Ty.ps, Ty.txt, Ty.hd, List.intercalate]
 | w c a b => simp [Ty.ps, Ty.txt, Ty.hd, List.intercalate]
theorem Ty.size_part {t x : Ty} (h : x ∈ t.ps) : x.size < t.size := by
 cases t with
 | k c => simp [Ty.ps] at h
 | u c a => simp [Ty.ps] at h; subst h; simp [Ty.size]
 | w c a b => simp [Ty.ps] at h; rcases h with rfl | rfl <;> simp [Ty.size] <;> omega
theorem Ty.len_part {t x : Ty} (h : x ∈ t.ps) : x.txt.length < t.txt.length := by
 cases t with
 | k c => simp [Ty.ps] at h
 | u c a => simp [Ty.ps] at h; subst h; simp [Ty.txt]; omega
 | w c a b => simp [Ty.ps] at h; rcases h with rfl | rfl <;> simp [Ty.txt] <;> omega
theorem Ymp : ∀ (N : Nat) {S : Nat → Prop} {h : Zaa} {t : Ty} {p : Pt}, t.size ≤ N → t.txt.length ≤ 1048576 → Zrn S h t p → Zae pg Zjf [.ptr p] h fun x h' => x = .str t.txt ∧ Zbb h.length h h'
 | 0, S, h, t, p, hN, _, _ => by have := t.size_ps; omega
 | N + 1, S, h, t, p, hN, hB, r => by
  obtain ⟨i, a, c, e, qs, rfl, si, hi, hrow, hS, hql, hq⟩ := r.parts
  have hps2 : t.ps.length ≤ 2 := by cases t <;> simp [Ty.ps]
  apply Zgw.call
  simp only [Zax, Zaq hi, Nat.zero_add, List.getElem?_cons_succ, List.getElem?_cons_zero, Zag, Zai]
  refine Zfh (fun hz0 => ?_) (fun hz0 => ?_)
  ·have : t.ps.length = 0 := by omega
   refine ⟨?_, Zbb.refl _ _⟩
   cases t <;> simp [Ty.ps] at this
   rfl
  ·simp only [Zaz]
   generalize hh0 : h ++ [Zco.cells Zcm [] false] = h0
   have s0 : Zbb h.length h h0 := by rw [← hh0]; exact Zas
   have i0 := s0.get hi (Own.lt hi)
   have l0 : h0.length = h.length + 1 := by rw [← hh0]; simp
   have v0 : h0[h.length]? = some (.cells Zcm [] false) := by rw [← hh0]; simp
   simp only [Zaq i0, List.getElem?_cons_succ, List.getElem?_cons_zero, Zag]
   refine Zgw.L5ind _ _ _ _ _ _ _ (J := fun (g : Nat) a3 n3 c3 e3 x22 h' => x22 = (g : Int) ∧ g ≤ t.ps.length ∧ Zbb h.length h h' ∧ n3 = g ∧ Vec Zcm h' a3 n3 c3 (strs ((t.ps.take g).map Ty.txt)) ∧ (∀ i, a3 = some (i, 0) → h.length ≤ i)) (fun g => t.ps.length - g) ?_ 0 _ _ _ _ _ _
    ⟨rfl, by omega, s0, rfl, Vec.mk1 (by simpa using v0), fun i hi => by cases hi; omega⟩
   rintro g a3 n3 c3 e3 x22 h' ⟨rfl, hg, hSm, rfl, hv, ha⟩ R hR
   unfold Zgw.L5t
   have i1 := hSm.get hi (Own.lt hi)
   refine Zan (fun hlt => ?_) (fun hge => ?_)
   ·have hg' : n3 < t.ps.length := by omega
    obtain ⟨j, o, rfl, hj, hc⟩ := (hrow.same hSm).at hg'
    have hqg : n3 < qs.length := by omega
    rw [List.getElem?_map, List.getElem?_eq_getElem hqg] at hc
    simp only [Zax, Int.toNat_natCast, Nat.mul_one, hc, Option.map_some, Zgb]
    have hk := hq n3 qs[n3] t.ps[n3] (List.getElem?_eq_getElem hqg) (List.getElem?_eq_getElem hg')
    have hm := List.getElem_mem hg'
    have h1 := Ty.size_part hm
    have h2 := Ty.len_part hm
    refine ⟨by omega, (Ymp N (by omega) (by omega) (hk.same hSm)).mono ?_⟩
    rintro x h2 ⟨rfl, s2⟩
    simp only [Zai, Zaz]
    refine (hv.same s2).push Zwg Ybv Ybq Ydg (by simp; omega) rfl (by omega) (fun h4 hl4 hi4 hk4 => ?_)
    simp only [Zag]
    rw [Zbj (by omega)]
    have S2 := hSm.cat s2
    have hle := S2.le
    refine hR (n3 + 1) _ _ _ _ _ _ (by omega) ⟨rfl, by omega, ⟨by omega, fun j hj => ?_⟩, rfl, Vec.mk1 ?_, fun i hi => by cases hi; omega⟩
    ·rw [hk4 j (by omega) fun i hi => by have := ha i hi; omega]; exact S2.eq j hj
    ·rw [hi4, List.take_succ_eq_append_getElem hg', List.map_append, Yeh]; rfl
   ·apply Zgw.A5x0i
    have : n3 = t.ps.length := by omega
    subst this
    rw [List.take_length] at hv
    have hne : t.ps ≠ [] := fun e => hz0 (by rw [e]; rfl)
    have htx := t.txt_inter hne
    have hln := congrArg List.length htx
    simp at hln
    simp only [Zax, Zaq i1, Nat.zero_add, List.getElem?_cons_zero, Zai]
    refine ⟨by simp, ?_⟩
    refine (Yoi (hv.row (by simp)) (by omega) (by omega)).mono ?_
    rintro v h3 ⟨rfl, rfl⟩
    simp only [Zai]
    refine ⟨Zaq i1, by simp; omega, by simp; omega, ?_⟩
    exact ⟨by rw [htx], hSm⟩
theorem Zhy.get {S : Nat → Prop} {h : Zaa} {t : Ty} {a : Pt} {vs : List (List Zam)} (hrow : Row h.length h a (t.ps.length * 2) vs.flatten) (hvl : vs.length = t.ps.length) (hp : ∀ (k : Nat) (w : List Zam) (x : Ty), vs[k]? = some w → t.ps[k]? = some x → Zhy S h x w) {g : Nat} (hg' : g < t.ps.length) :
  ∃ i o a2 c2 e2, a = some (i, o) ∧ Zbv h (.ptr (some (i, o + g * 2))) 2 = some [.int .u8 (t.ps[g].hd : Int), .slice a2 t.ps[g].ps.length c2 e2] ∧ Zhy S h t.ps[g] [.int .u8 (t.ps[g].hd : Int), .slice a2 t.ps[g].ps.length c2 e2] := by
 have hgv : g < vs.length := by omega
 have hk := hp g vs[g] t.ps[g] (List.getElem?_eq_getElem hgv) (List.getElem?_eq_getElem hg')
 have hz : ∀ v ∈ vs, v.length = 2 := fun v hv => by
  obtain ⟨k, hk, rfl⟩ := List.mem_iff_getElem.1 hv
  exact (hp k vs[k] (t.ps[k]'(by omega)) (List.getElem?_eq_getElem hk) (List.getElem?_eq_getElem (by omega))).len
 have hfl : vs.flatten = Zcf (fun (v : {v : List Zam // v.length = 2}) => v.1) (vs.attach.map fun v => ⟨v.1, hz v.1 v.2⟩) := by
  unfold Zcf; rw [List.flatMap_map]; simp
 rw [hfl] at hrow
 obtain ⟨i, o, hk', ha, _, hr, _⟩ := Row.el (enc := fun (v : {v : List Zam // v.length = 2}) => v.1) (fun x => x.2) hrow (by simp [hvl]) (k := g) hg' (by omega)
 obtain ⟨a2, c2, e2, hv2⟩ := hk.shape
 rw [hv2] at hk
 exact ⟨i, o, a2, c2, e2, ha, by rw [hr]; simp [hv2], hk⟩
theorem Yji {g : Nat} (hg : g < 2) : sub [40, 44] (g : Int) ((g : Int) + 1) = [Zqc g] := by
 rcases g with _ | _ | g
 ·rfl
 ·rfl
 ·omega
theorem Ty.hd_lt (t : Ty) (h : t.ok = true) : t.hd < 256 := by
 have := Ty.ok_ar h
 unfold arN Znw Zdi at this
 simp only [Bool.or_eq_true, beq_iff_eq] at this
 split at this
 ·omega
 ·split at this
  ·omega
  ·split at this
   ·omega
   ·omega
def Zou : Nat → List Ty → List Nat
 | _, [] => []
 | g, x :: l => Zqc g :: (x.txt ++ Zou (g + 1) l)
theorem Zuc : ∀ (l : List Ty) (g k : Nat) (h : k < l.length), Zou g (l.take (k + 1)) = Zou g (l.take k) ++ Zqc (g + k) :: l[k].txt
 | x :: l, g, 0, _ => by simp [Zou]
 | x :: l, g, k + 1, h => by
  have := Zuc l (g + 1) k (by simpa using h)
  simp only [List.take_succ_cons, Zou, this, List.getElem_cons_succ, List.cons_append, List.append_assoc]
  rw [show g + 1 + k = g + (k + 1) by omega]
theorem Zwy : ∀ (l : List Ty) (g k : Nat), (Zou g (l.take k)).length ≤ (Zou g l).length
 | [], g, k => by simp [Zou]
 | x :: l, g, 0 => by simp [Zou]
 | x :: l, g, k + 1 => by
  have := Zwy l (g + 1) k
  simp only [List.take_succ_cons, Zou, List.length_cons, List.length_append]; omega
theorem Ty.txt_mids (t : Ty) : t.txt = t.hd :: Zou 0 t.ps ++ (if t.ps = [] then [] else [41]) := by
 cases t <;> simp [Ty.ps, Ty.txt, Ty.hd, Zou, Zqc]
theorem Zqd : ∀ (N : Nat) {S : Nat → Prop} {h : Zaa} {t : Ty} {v : List Zam}, t.size ≤ N → t.txt.length ≤ 1048576 → t.ok = true → Zhy S h t v → Zae pg Zgl [.agg v] h fun x h' => x = .str t.txt ∧ Zbb h.length h h'
 | 0, S, h, t, v, hN, _, _, _ => by have := t.size_ps; omega
 | N + 1, S, h, t, v, hN, hB, hok, r => by
  obtain ⟨a, c, e, vs, rfl, hrow, hS, hvl, hp⟩ := r.parts
  have hps2 : t.ps.length ≤ 2 := by cases t <;> simp [Ty.ps]
  have htx := t.txt_mids
  have hln := congrArg List.length htx
  rw [List.length_append, List.length_cons] at hln
  apply Zgo.call
  simp only [Zaz, Zff, Nat.zero_add, List.getElem?_cons_succ, List.getElem?_cons_zero, Zag, Zau]
  generalize hh0 : h ++ [Zco.cells Zad [.int .u8 (t.hd : Int), .slice a t.ps.length c e] false] = h0
  have s0 : Zbb h.length h h0 := by rw [← hh0]; exact Zas
  have o0 : h0[h.length]? = some (.cells Zad [.int .u8 (t.hd : Int), .slice a t.ps.length c e] false) := by rw [← hh0]; simp
  generalize hh1 : h0 ++ [Zco.cells Zxc [.int .u8 (t.hd : Int)] false] = h1
  have s1 : Zbb h0.length h0 h1 := by rw [← hh1]; exact Zas
  have o1 := s1.get o0 (Own.lt o0)
  have hro : rowOf h1 (some (h0.length, 0)) 1 = some [.int .u8 (t.hd : Int)] := by rw [← hh1]; simp [rowOf, Zbv]
  rw [hro]
  simp only [Zar, Zll, chk, decide_true]
  rw [show ((t.hd : Int)).toNat = t.hd from Int.toNat_natCast _]
  refine ⟨⟨by omega, by have := t.hd_lt hok; omega⟩, ?_⟩
  simp only [Zaq o1, List.getElem?_cons_succ, List.getElem?_cons_zero, Zag]
  refine Zgo.L3ind _ _ _ _ _ _ _ _ (J := fun (g : Nat) x3 x13 h' => x13 = (g : Int) ∧ g ≤ t.ps.length ∧ Zbb h.length h h' ∧ Zbb h1.length h1 h' ∧ x3 = t.hd :: Zou 0 (t.ps.take g)) (fun g => t.ps.length - g) ?_ 0 _ _ _ ⟨rfl, by omega, s0.cat s1, Zbb.refl _ _, by simp [Zou]⟩
  rintro g x3 x13 h' ⟨rfl, hg, hSm, hS1, rfl⟩ R hR
  unfold Zgo.L3t
  have o2 := hS1.get o1 (Own.lt o1)
  refine Zan (fun hlt => ?_) (fun hge => ?_)
  ·have hg' : g < t.ps.length := by omega
   obtain ⟨i, o, a2, c2, e2, rfl, hr, hk⟩ := Zhy.get (hrow.same' hSm) hvl (fun k w x h1 h2 => (hp k w x h1 h2).same hSm) hg'
   simp only [Zax, Int.toNat_natCast, hr, Zar, Zah, Zat, Zau, Zag, Zaz]
   rw [Zgv]
   simp only [Zaw]
   rw [Ykp]
   simp only [Zar, Zah, Zat, Zau, Zag]
   rw [Zbj (by omega), show (((g + 1 : Nat) : Int)) = (g : Int) + 1 by omega, Yji (by omega)]
   have hm := List.getElem_mem hg'
   have h1 := Ty.size_part hm
   have h2 := Ty.len_part hm
   have hmt := Zuc t.ps 0 g hg'
   have hml : (Zou 0 (t.ps.take (g + 1))).length ≤ (Zou 0 t.ps).length := Zwy _ _ _
   have hmtl := congrArg List.length hmt
   simp only [List.length_append, List.length_cons, Nat.zero_add] at hmtl
   have s2 : Zbb h'.length h' (h' ++ [.cells Zad [.int .u8 (t.ps[g].hd : Int), .slice a2 t.ps[g].ps.length c2 e2] false]) := Zas
   refine ⟨by omega, ⟨by omega, by omega, by simp; omega⟩, by simp; omega, (Zqd N (by omega) (by omega) (Ty.ok_ps hok _ hm) (hk.same s2)).mono ?_⟩
   rintro x h3 ⟨rfl, s3⟩
   simp only [Zai]
   refine ⟨by simp; omega, ?_⟩
   exact hR (g + 1) _ _ _ (by omega) ⟨by omega, by omega, (hSm.cat s2).cat s3, (hS1.cat s2).cat s3, by rw [hmt, Nat.zero_add]; simp⟩
  ·apply Zgo.A3x0i
   have : g = t.ps.length := by omega
   subst this
   simp only [Zaq o2, Nat.zero_add, List.getElem?_cons_succ, List.getElem?_cons_zero, Zag]
   rw [List.take_length]
   refine Zan (fun hpos => ?_) (fun hneg => ?_)
   ·have hne : t.ps ≠ [] := fun e => by rw [e] at hpos; simp at hpos
    rw [if_neg hne] at htx hln
    refine ⟨by simp; simp at hln; omega, ?_⟩
    apply Zgo.J9i
    exact ⟨by rw [htx], hSm⟩
   ·have hne : t.ps = [] := List.eq_nil_of_length_eq_zero (by omega)
    rw [if_pos hne, List.append_nil] at htx
    apply Zgo.J9i
    exact ⟨by rw [htx], hSm⟩
end Go.Sim

set_option linter.unusedVariables false
namespace Go.Sim
open Go Go.RowKit Go.Maps Go.Sort Go.Shelf Go.Proofs
theorem Ypp (m : Nat) : AnyZ.SortsIn Tryz.prog Tryz.sorted166_ren Fence.wide m :=
 ⟨fun blk off cap ss W hH hblk hsz => callsIn_wide.2 (Tryz.slices_Sort_string blk off cap ss W hH hblk hsz), fun p cap W => callsIn_wide.2 (Tryz.slices_Sort_string_none p cap W)⟩
theorem Yoj {h : Zaa} {m : Option Nat} : Zae pg Zep [.map m] h fun v h' => v = .fn Zdx [.ptr (some (h.length, 0))] ∧ h' = h ++ [.cells Zgr [.map m] false] :=
 Zae.keys ⟨_, Tryz.func167, by kernel_rfl, by kernel_rfl⟩ (fun mb W => callsIn_wide.1 (AnyZ.keys_in Tryz.keys167 Fence.wide 5 trivial rfl mb W))
set_option maxHeartbeats 1000000 in
theorem Zxu {h : Zaa} {i m : Nat} {es : List ME} {clk : Nat} (hi : h[i]? = some (.cells Zgr [.map (some m)] false)) (hm : h[m]? = some (.map es clk)) {vs : List Nat} (hks : es.map (·.1) = vs.map fun v => .str [v]) (nd : vs.Nodup) (born : (es.map (·.2.2)).Nodup) (lt : ∀ e ∈ es, e.2.2 < clk) (hl : es.length ≤ 1048576) :
  Zae pg Zkq [.fn Zdx [.ptr (some (i, 0))]] h fun v h' => ∃ us : List Nat, us.Perm vs ∧ us.Pairwise (· ≤ ·) ∧ ((us = [] ∧ v = .slice none 0 0 true ∧ h' = h) ∨ (∃ c, v = .slice (some (h.length, 0)) us.length c false ∧ us.length ≤ c ∧ h' = h ++ [.cells Zcm (us.map fun v => .str [v]) false])) :=
 Zae.sortedKeys (M := Zgr) (K := Zcm) Tryz.underlying9 (by kernel_rfl) ⟨_, Tryz.func166, by kernel_rfl, by kernel_rfl⟩
  (fun Bm b nn D0 R w hown hBm hcell hmax hbytes => callsIn_wide.1 (by
   have hseq : SeqGives Fence.wide 2 Tryz.prog 181 #[.pointer (some ⟨Bm, 0, none⟩)] encStr (fun ss => ss.Perm (strKeys D0)) (Maps.size D0) w :=
    AnyZ.keys_gives (ρ := Tryz.keys167_ren) { Tryz.keys167 with } Fence.wide _ trivial rfl (by omega) Bm b nn D0 w hBm hcell hown
   exact AnyZ.sorted_in Tryz.sorted166 Fence.wide 5 trivial trivial trivial trivial rfl (by omega) (Ypp _) (enters_of Tryz.func180 (by kernel_rfl) rfl) 181 #[.pointer (some ⟨Bm, 0, none⟩)] trivial (enters_of Tryz.func181 (by kernel_rfl) rfl) _ _ hmax hbytes _ hseq))
  hi hm hks nd born lt hl
end Go.Sim

set_option linter.unusedSimpArgs false
set_option linter.unusedVariables false
namespace Go.Sim

abbrev Bd := List (Nat × Ty)
def Zhh : Bd → Nat → Option Ty
 | [], _ => none
 | (v, t) :: m, x => if v = x then some t else Zhh m x
def Zpn (m : Bd) (v : Nat) (t : Ty) : Option Bd := match Zhh m v with | some t' => if t' = t then some m else none | none => some (m ++ [(v, t)])
def matchT : Bd → Ty → Ty → Option Bd
 | m, .k c, t => if Zdi c then Zpn m c t else if c = t.hd then some m else none
 | m, .u c a, t => if c = t.hd then (match t.ps with | [x] => matchT m a x | _ => none) else none
 | m, .w c a b, t => if c = t.hd then (match t.ps with | [x, y] => (match matchT m a x with | some m1 => matchT m1 b y | none => none) | _ => none) else none
def matchL : Bd → List Ty → List Ty → Option Bd
 | m, [], _ => some m
 | m, a :: xs, [] => none
 | m, a :: xs, t :: ys => match matchT m a t with | some m1 => matchL m1 xs ys | none => none
theorem Zqh {a : Ty} (h : a.ok = true) (hv : Zdi a.hd = true) : a = .k a.hd := by
 cases a with
 | k c => rfl
 | u c a => simp only [Ty.ok, Bool.and_eq_true, Bool.or_eq_true, beq_iff_eq] at h; rcases h.1 with rfl | rfl <;> simp [Ty.hd, Zdi] at hv
 | w c a b => simp only [Ty.ok, Bool.and_eq_true, beq_iff_eq] at h; rcases h.1.1 with rfl; simp [Ty.hd, Zdi] at hv
theorem Yft {a t : Ty} (ha : a.ok = true) (ht : t.ok = true) (h : a.hd = t.hd) : a.ps.length = t.ps.length := by
 have h1 := Ty.ok_ar ha; have h2 := Ty.ok_ar ht
 rw [h, h2] at h1; omega
theorem Ybn {m : Bd} {a t : Ty} (ha : a.ok = true) (ht : t.ok = true) :
  matchT m a t = if Zdi a.hd then Zpn m a.hd t else if a.hd = t.hd then matchL m a.ps t.ps else none := by
 cases a with
 | k c =>
  show matchT m (.k c) t = if Zdi c then Zpn m c t else if c = t.hd then matchL m [] t.ps else none
  rw [matchT, matchL]
 | u c a =>
  have hnv : Zdi c = false := by
   cases h : Zdi c with
   | false => rfl
   | true => have := Zqh ha h; cases this
  show matchT m (.u c a) t = if Zdi c then Zpn m c t else if c = t.hd then matchL m [a] t.ps else none
  rw [matchT, hnv, if_neg (show ¬ (false = true) by decide)]
  by_cases h : c = t.hd
  ·have hl : 1 = t.ps.length := Yft ha ht h
   rw [if_pos h, if_pos h]
   match t.ps, hl with
   | [x], _ => simp only [matchL]; cases matchT m a x <;> rfl
  ·rw [if_neg h, if_neg h]
 | w c a b =>
  have hnv : Zdi c = false := by
   cases h : Zdi c with
   | false => rfl
   | true => have := Zqh ha h; cases this
  show matchT m (.w c a b) t = if Zdi c then Zpn m c t else if c = t.hd then matchL m [a, b] t.ps else none
  rw [matchT, hnv, if_neg (show ¬ (false = true) by decide)]
  by_cases h : c = t.hd
  ·have hl : 2 = t.ps.length := Yft ha ht h
   rw [if_pos h, if_pos h]
   match t.ps, hl with
   | [x, y], _ =>
    simp only [matchL]
    cases matchT m a x with
    | none => rfl
    | some m1 => simp only []; cases matchT m1 b y <;> rfl
  ·rw [if_neg h, if_neg h]
theorem Zsd : ∀ (xs ys : List Ty) (m : Bd) (g : Nat) (h1 : g < xs.length) (h2 : g < ys.length), matchL m (xs.take (g + 1)) (ys.take (g + 1)) = match matchL m (xs.take g) (ys.take g) with | some m1 => matchT m1 xs[g] ys[g] | none => none
 | a :: xs, t :: ys, m, 0, _, _ => by
  simp only [List.take_succ_cons, List.take_zero, matchL, List.getElem_cons_zero]
  cases matchT m a t <;> rfl
 | a :: xs, t :: ys, m, g + 1, h1, h2 => by
  simp only [List.length_cons, Nat.add_lt_add_iff_right] at h1 h2
  simp only [List.take_succ_cons, matchL, List.getElem_cons_succ]
  cases hm : matchT m a t with
  | none => rfl
  | some m1 =>
   have := Zsd xs ys m1 g h1 h2
   simpa only [List.take_succ_cons] using this
theorem Zsi : ∀ (xs ys : List Ty) (m : Bd) (g : Nat), xs.length = ys.length → matchL m (xs.take g) (ys.take g) = none → matchL m xs ys = none
 | [], _, m, g, _, h => by simp [matchL] at h
 | a :: xs, [], m, g, hl, h => by simp at hl
 | a :: xs, t :: ys, m, 0, _, h => by simp [matchL] at h
 | a :: xs, t :: ys, m, g + 1, hl, h => by
  simp only [List.take_succ_cons, matchL] at h ⊢
  cases hm : matchT m a t with
  | none => rfl
  | some m1 =>
   rw [hm] at h
   exact Zsi xs ys m1 g (by simpa using hl) h

structure BOk (n : Nat) (m : Bd) : Prop where
 var : ∀ p ∈ m, Zdi p.1 = true ∧ p.2.ok = true ∧ p.2.txt.length ≤ n
 nd : (m.map (·.1)).Nodup
theorem Zqy : ∀ {m : Bd} {v : Nat} {t : Ty}, Zhh m v = some t → (v, t) ∈ m
 | (w, u) :: m, v, t, h => by
  simp only [Zhh] at h
  split at h
  ·rename_i e; cases h; subst e; simp
  ·exact List.mem_cons_of_mem _ (Zqy h)
theorem Ztk : ∀ {m : Bd} {v : Nat}, Zhh m v = none ↔ v ∉ m.map (·.1)
 | [], v => by simp [Zhh]
 | (w, u) :: m, v => by
  simp only [Zhh]
  by_cases e : w = v
  ·simp [e]
  ·simp only [e, if_false, Ztk (m := m), List.map_cons, List.mem_cons, not_or]
   exact ⟨fun h => ⟨fun e' => e e'.symm, h⟩, fun h => h.2⟩
theorem Yev {m : Bd} {v : Nat} : (Zhh m v).isSome = true ↔ v ∈ m.map (·.1) := by
 cases h : Zhh m v with
 | none => simp [Ztk.1 h]
 | some t => simp only [Option.isSome_some, true_iff]; exact List.mem_map.2 ⟨_, Zqy h, rfl⟩
theorem Ygr {m : Bd} {v x : Nat} {t : Ty} : Zhh (m ++ [(v, t)]) x = match Zhh m x with | some u => some u | none => if v = x then some t else none := by
 induction m with
 | nil => simp [Zhh]
 | cons p m ih =>
  obtain ⟨w, u⟩ := p
  simp only [List.cons_append, Zhh, ih]
  split <;> rfl
theorem BOk.nil {n : Nat} : BOk n [] := ⟨by simp, by simp⟩
theorem BOk.note {n : Nat} {m m' : Bd} {v : Nat} {t : Ty} (b : BOk n m) (hv : Zdi v = true) (ht : t.ok = true) (hn : t.txt.length ≤ n) (h : Zpn m v t = some m') : BOk n m' := by
 unfold Zpn at h
 split at h
 ·split at h
  ·cases h; exact b
  ·cases h
 ·rename_i hg
  cases h
  refine ⟨?_, ?_⟩
  ·intro p hp
   rcases List.mem_append.1 hp with hp | hp
   ·exact b.var p hp
   ·simp at hp; subst hp; exact ⟨hv, ht, hn⟩
  ·rw [List.map_append, List.nodup_append]
   refine ⟨b.nd, by simp, ?_⟩
   intro x hx y hy e
   simp at hy; subst hy; subst e
   exact Ztk.1 hg hx
theorem Yah {t x : Ty} (h : x ∈ t.ps) : x.txt.length ≤ t.txt.length := by
 cases t with
 | k c => simp [Ty.ps] at h
 | u c a => simp [Ty.ps] at h; subst h; simp [Ty.txt]; omega
 | w c a b => simp [Ty.ps] at h; rcases h with rfl | rfl <;> simp [Ty.txt] <;> omega
theorem BOk.matchT {n : Nat} : ∀ {a t : Ty} {m m' : Bd}, a.ok = true → t.ok = true → t.txt.length ≤ n → BOk n m → Go.Sim.matchT m a t = some m' → BOk n m'
 | .k c, t, m, m', ha, ht, hn, b, h => by
  simp only [Go.Sim.matchT] at h
  split at h
  ·rename_i hv; exact b.note hv ht hn h
  ·split at h
   ·cases h; exact b
   ·cases h
 | .u c a, t, m, m', ha, ht, hn, b, h => by
  simp only [Ty.ok, Bool.and_eq_true] at ha
  simp only [Go.Sim.matchT] at h
  split at h
  ·split at h
   ·rename_i x hx
    have hm : x ∈ t.ps := by rw [hx]; simp
    exact BOk.matchT ha.2 (Ty.ok_ps ht x hm) (Nat.le_trans (Yah hm) hn) b h
   ·cases h
  ·cases h
 | .w c a a2, t, m, m', ha, ht, hn, b, h => by
  simp only [Ty.ok, Bool.and_eq_true] at ha
  simp only [Go.Sim.matchT] at h
  split at h
  ·split at h
   ·rename_i x y hx
    have hm : x ∈ t.ps := by rw [hx]; simp
    have hm2 : y ∈ t.ps := by rw [hx]; simp
    split at h
    ·rename_i m1 h1
     exact BOk.matchT ha.2 (Ty.ok_ps ht y hm2) (Nat.le_trans (Yah hm2) hn) (BOk.matchT ha.1.2 (Ty.ok_ps ht x hm) (Nat.le_trans (Yah hm) hn) b h1) h
    ·cases h
   ·cases h
  ·cases h
theorem BOk.matchL {n : Nat} : ∀ {xs ys : List Ty} {m m' : Bd}, (∀ a ∈ xs, a.ok = true) → (∀ t ∈ ys, t.ok = true ∧ t.txt.length ≤ n) → BOk n m → Go.Sim.matchL m xs ys = some m' → BOk n m'
 | [], _, m, m', _, _, b, h => by simp [Go.Sim.matchL] at h; subst h; exact b
 | a :: xs, [], m, m', _, _, b, h => by simp [Go.Sim.matchL] at h
 | a :: xs, t :: ys, m, m', ha, ht, b, h => by
  simp only [Go.Sim.matchL] at h
  split at h
  ·rename_i m1 h1
   exact BOk.matchL (fun a h => ha a (by simp [h])) (fun t h => ht t (by simp [h])) (BOk.matchT (ha a (by simp)) (ht t (by simp)).1 (ht t (by simp)).2 b h1) h
  ·cases h
def bdL (m : Bd) : List Nd := Zfj.filterMap fun v => (Zhh m v).map fun t => ([v], t.txt)
noncomputable def Zjv (p s : List Nat) : Option Bd := match Zjp p, Zjp s with | some a, some b => matchT [] a b | _, _ => none
noncomputable def Zpy (p s : List Nat) : Bool := (Zjv p s).isSome
noncomputable def Zjt (p s : List Nat) : List Nd := match Zjv p s with | some m => bdL m | none => []
theorem Zwl {p s : List Nat} {m : Bd} (h : Zjv p s = some m) : BOk 60 m := by
 unfold Zjv at h
 split at h
 ·rename_i a b ha hb
  obtain ⟨h1, _, _⟩ := Zfs.1 ha
  obtain ⟨h2, h3, h4⟩ := Zfs.1 hb
  exact BOk.matchT h1 h2 (by rw [← h3]; exact h4) BOk.nil h
 ·cases h
theorem Zsj : Zfj.Nodup := by decide
theorem Zus : Zfj.Pairwise (· < ·) := by decide
theorem Ygl (m : Bd) : bdL m = (Zfj.filter fun v => (Zhh m v).isSome).map fun v => ([v], ((Zhh m v).getD default).txt) := by
 unfold bdL
 induction Zfj with
 | nil => rfl
 | cons v l ih =>
  simp only [List.filterMap_cons, List.filter_cons]
  cases h : Zhh m v with
  | none => simpa [h] using ih
  | some t => simp [h, ih]
theorem Yep {n : Nat} {m : Bd} (b : BOk n m) {ks : List Nat} (hp : ks.Perm (m.map (·.1))) (hs : ks.Pairwise (· ≤ ·)) : ks = Zfj.filter fun v => (Zhh m v).isSome := by
 have hnd : ks.Nodup := hp.nodup_iff.2 b.nd
 have h1 : ks.Pairwise (· < ·) := by
  have := List.pairwise_and_iff.2 ⟨hs, hnd⟩
  exact this.imp fun h => by have := h.1; have := h.2; omega
 have h2 : (Zfj.filter fun v => (Zhh m v).isSome).Pairwise (· < ·) := Zus.filter _
 have hp2 : ks.Perm (Zfj.filter fun v => (Zhh m v).isSome) := by
  rw [List.perm_ext_iff_of_nodup hnd (Zsj.filter _)]
  intro v
  rw [hp.mem_iff, List.mem_filter, Yev]
  constructor
  ·intro hv
   obtain ⟨p, hp, rfl⟩ := List.mem_map.1 hv
   exact ⟨(Zqo _).2 (b.var p hp).1, hv⟩
  ·exact fun h => h.2
 exact hp2.eq_of_pairwise (fun a b _ _ h1 h2 => by omega) h1 h2
theorem Yie {α : Type} {f : α → Bool} {l : List α} {g : Nat} (hg : g < l.length) (h : (l.take g).find? f = none) (k : f l[g] = true) : l.find? f = some l[g] := by
 have h1 : l = l.take g ++ l[g] :: l.drop (g + 1) := by rw [← List.drop_eq_getElem_cons hg, List.take_append_drop]
 conv => lhs; rw [h1]
 rw [List.find?_append, h, List.find?_cons, k]; rfl
theorem Zwq {α : Type} {f : α → Bool} {l : List α} {g : Nat} (hg : g < l.length) (h : (l.take g).find? f = none) (k : f l[g] = false) : (l.take (g + 1)).find? f = none := by
 rw [List.take_succ_eq_append_getElem hg, List.find?_append, h]; simp [k]
end Go.Sim

set_option linter.unusedVariables false
set_option linter.unusedSimpArgs false
set_option maxRecDepth 20000
namespace Go.Sim
open Go Go.RowKit

def Ykl (h : Zaa) (i : Nat) (m : Bd) : Prop := ∃ es clk, h[i]? = some (.map es clk) ∧ es.map (·.1) = m.map (fun p => Zam.str [p.1]) ∧ es.map (·.2.1) = m.map (fun p => Zam.str p.2.txt) ∧ (es.map (·.2.2)).Nodup ∧ ∀ e ∈ es, e.2.2 < clk
theorem Ykl.eq {h h' : Zaa} {i : Nat} {m : Bd} (r : Ykl h i m) (he : h'[i]? = h[i]?) : Ykl h' i m := by
 obtain ⟨es, clk, h1, x⟩ := r
 exact ⟨es, clk, by rw [he]; exact h1, x⟩
theorem Ykl.lt {h : Zaa} {i : Nat} {m : Bd} (r : Ykl h i m) : i < h.length := by obtain ⟨es, clk, h1, _⟩ := r; exact Own.lt h1
theorem Zqr : ∀ {es : List ME} {m : Bd} {v k : Nat} {t : Ty}, es.map (·.1) = m.map (fun p => Zam.str [p.1]) → es.map (·.2.1) = m.map (fun p => Zam.str p.2.txt) → Zhh m v = some t → ∃ j b, Zry es [v] k = some (some (k + j, .str t.txt)) ∧ es[j]? = some (.str [v], .str t.txt, b)
 | _, [], v, k, t, _, _, h => by simp [Zhh] at h
 | [], p :: m, v, k, t, h, _, _ => by simp at h
 | (ek, ev, eb) :: es, (w, u) :: m, v, k, t, hk, hv, h => by
  simp only [List.map_cons, List.cons.injEq] at hk hv
  obtain ⟨rfl, hk⟩ := hk
  obtain ⟨rfl, hv⟩ := hv
  simp only [Zhh] at h
  by_cases e : w = v
  ·rw [if_pos e] at h
   cases h; subst e
   exact ⟨0, eb, by simp [Zry], rfl⟩
  ·rw [if_neg e] at h
   obtain ⟨j, b, h1, h2⟩ := Zqr (k := k + 1) hk hv h
   have : ¬ [v] = [w] := fun x => e (by simpa using x.symm)
   exact ⟨j + 1, b, by simp only [Zry, this, if_false, h1]; rw [show k + 1 + j = k + (j + 1) by omega], h2⟩
theorem Zqz : ∀ {es : List ME} {m : Bd} {v k : Nat}, es.map (·.1) = m.map (fun p => Zam.str [p.1]) → Zhh m v = none → Zry es [v] k = some none
 | [], [], v, k, _, _ => rfl
 | [], p :: m, v, k, h, _ => by simp at h
 | e :: es, [], v, k, h, _ => by simp at h
 | (ek, ev, eb) :: es, (w, u) :: m, v, k, hk, h => by
  simp only [List.map_cons, List.cons.injEq] at hk
  obtain ⟨rfl, hk⟩ := hk
  simp only [Zhh] at h
  by_cases e : w = v
  ·rw [if_pos e] at h; cases h
  ·rw [if_neg e] at h
   have : ¬ [v] = [w] := fun x => e (by simpa using x.symm)
   simp only [Zry, this, if_false]
   exact Zqz hk h
theorem Zvs {α : Type} {f : α → α} {e : α} : ∀ {l : List α} {j : Nat}, l[j]? = some e → f e = e → l.modify j f = l
 | [], j, h, _ => by simp at h
 | a :: l, 0, h, hf => by simp at h; subst h; simp [hf]
 | a :: l, j + 1, h, hf => by simp at h; simp [Zvs h hf]
theorem Yil (c : Nat) : Zko [c] = Zdi c := rfl
theorem Row.keepAt {i : Nat} {h h' : Zaa} {a : Pt} {n : Nat} {cs : List Zam} (r : Row h.length h a n cs) (hne : ∀ j o, n ≠ 0 → a = some (j, o) → j ≠ i) (k : Zgy i h h') : Row h'.length h' a n cs := by
 obtain ⟨hl, r⟩ := r
 by_cases h0 : n = 0
 ·exact ⟨hl, .inl h0⟩
 ·refine ⟨hl, r.imp id ?_⟩
  rintro ⟨j, o', t, all, ro, ha, hi, hg, x⟩
  have := k.le
  exact ⟨j, o', t, all, ro, ha, by omega, by rw [k.eq j hi (hne j o' h0 ha)]; exact hg, x⟩
def Yuh (h : Zaa) (i : Nat) (r : Option Bd) (v : Zam) (h' : Zaa) : Prop := Zgy i h h' ∧ (match r with | some m' => v = .bool true ∧ Ykl h' i m' | none => v = .bool false)
theorem Yfu : ∀ (N : Nat) {a t : Ty} {S : Nat → Prop} {h : Zaa} {p q : Pt} {i n : Nat} {m : Bd}, a.size ≤ N → a.ok = true → t.ok = true → t.txt.length ≤ 1048576 → t.txt.length ≤ n → BOk n m → (∀ j, S j → j ≠ i) → Zrn S h a p → Zrn S h t q → Ykl h i m →
  Zae pg Zid [.ptr p, .ptr q, .map (some i)] h (Yuh h i (matchT m a t))
 | 0, a, t, S, h, p, q, i, n, m, hN, _, _, _, _, _, _, _, _, _ => by have := a.size_ps; omega
 | N + 1, a, t, S, h, p, q, i, n, m, hN, ha, ht, hB, hn, bo, hSi, ra, rt, rm => by
  have hcase := Ybn (m := m) ha ht
  obtain ⟨ia, aa, ca, ea, qa, rfl, sia, hia, rowa, hSa, hqal, hqa⟩ := ra.parts
  obtain ⟨it, at', ct, et, qt, rfl, sit, hit, rowt, hSt, hqtl, hqt⟩ := id rt.parts
  have hps2 : a.ps.length ≤ 2 := by cases a <;> simp [Ty.ps]
  apply Zeu.call
  simp only [Zax, Zaq hia, Nat.zero_add, List.getElem?_cons_succ, List.getElem?_cons_zero, Zag, Zai]
  refine (Zzb [a.hd]).mono ?_
  rintro v h1 ⟨rfl, rfl⟩
  simp only [Zal, Yil]
  refine Zcw (fun hv => ?_) (fun hv => ?_)
  ·rw [hv] at hcase
   simp only [if_true] at hcase
   refine (Ymp _ (Nat.le_refl _) hB rt).mono ?_
   rintro v h2 ⟨rfl, s2⟩
   have hia2 := s2.get hia (Own.lt hia)
   obtain ⟨es, clk, hm, hk, hvv, hb, hlt⟩ := id rm
   have hm2 := s2.get hm (Own.lt hm)
   have rm2 : Ykl h2 i m := rm.eq (s2.eq i (Own.lt hm))
   simp only [Zai, Zaq hia2, List.getElem?_cons_succ, List.getElem?_cons_zero, Zga, hm2, Ztq]
   have K2 : Zgy i h1 h2 := ⟨s2.le, fun j hj _ => s2.eq j hj⟩
   have hput : ∀ r : Option Bd, (∀ (es' : List ME) (k' : Nat), Yin es clk [a.hd] (.str t.txt) (fun x y => x = es' ∧ y = k') → Yuh h1 i r (.bool true) (h2.set i (.map es' k'))) → Zeu.J6 (Yuh h1 i r) (some i) (some (ia, 0)) t.txt h2 := by
    intro r hr
    apply Zeu.J6i
    simp only [Zax, Zaq hia2, Nat.zero_add, List.getElem?_cons_zero, Zai, xMp, Zga, hm2, Zaz]
    unfold Yin at hr ⊢
    cases hg : Zhh m a.hd with
    | none =>
     rw [Zqz hk hg] at hr ⊢
     exact hr _ _ ⟨rfl, rfl⟩
    | some u =>
     obtain ⟨j, b, hf, _⟩ := Zqr (k := 0) hk hvv hg
     rw [hf] at hr ⊢
     exact hr _ _ ⟨rfl, rfl⟩
   have KS : ∀ x, Zgy i h1 (h2.set i x) := fun x => K2.trans (Zgy.set i h2 x)
   have hil := Own.lt hm2
   cases hg : Zhh m a.hd with
   | none =>
    have hbn : Zpn m a.hd t = some (m ++ [(a.hd, t)]) := by unfold Zpn; rw [hg]
    rw [hbn] at hcase
    rw [hcase, Zqz hk hg]
    simp only [Option.getD_none, Zai, Option.isSome_none, Zbh]
    refine hput _ fun es' k' hp => ⟨KS _, rfl, ?_⟩
    unfold Yin at hp
    rw [Zqz hk hg] at hp
    obtain ⟨rfl, rfl⟩ := hp
    refine ⟨_, _, List.getElem?_set_self hil, by simp [hk], by simp [hvv], ?_, ?_⟩
    ·rw [List.map_append, List.nodup_append]
     refine ⟨hb, by simp, ?_⟩
     intro x hx y hy e
     simp at hy
     obtain ⟨z, hz, rfl⟩ := List.mem_map.1 hx
     have := hlt z hz; omega
    ·intro e he
     rcases List.mem_append.1 he with he | he
     ·have := hlt e he; omega
     ·simp at he; subst he; simp
   | some u =>
    obtain ⟨j, b, hf, hj⟩ := Zqr (k := 0) hk hvv hg
    rw [hf]
    simp only [Option.getD_some, Zai, Option.isSome_some, Zct]
    have hu : u.ok = true ∨ True := .inr trivial
    by_cases he : u = t
    ·subst he
     have hbn : Zpn m a.hd u = some m := by unfold Zpn; rw [hg]; simp
     rw [hbn] at hcase
     rw [hcase]
     simp only [decide_true, Bool.not_true, Zbh]
     refine hput _ fun es' k' hp => ⟨KS _, rfl, ?_⟩
     unfold Yin at hp
     rw [hf] at hp
     obtain ⟨rfl, rfl⟩ := hp
     rw [Nat.zero_add, Zvs hj rfl]
     exact ⟨es, clk, List.getElem?_set_self hil, hk, hvv, hb, hlt⟩
    ·have hu := (bo.var _ (Zqy hg)).2.1
     have hne : ¬ u.txt = t.txt := fun e => he (Ty.txt_inj' hu ht e)
     have hbn : Zpn m a.hd t = none := by unfold Zpn; rw [hg]; simp [he]
     rw [hbn] at hcase
     rw [hcase]
     simp only [hne, decide_false, Bool.not_false, Zct]
     exact ⟨K2, rfl⟩
  ·rw [hv] at hcase
   simp only [Bool.false_eq_true, if_false] at hcase
   simp only [Zax, Zaq hia, Zaq hit, Nat.zero_add, List.getElem?_cons_succ, List.getElem?_cons_zero, Zag, Zai, true_and]
   refine Zyf (fun hne => ?_) (fun he => ?_)
   ·rw [if_neg (fun e => hne (by rw [e]))] at hcase
    rw [hcase]
    exact ⟨Zgy.refl _ _, rfl⟩
   ·have he' : a.hd = t.hd := by simpa using he
    rw [if_pos he'] at hcase
    rw [hcase]
    have hlen := Yft ha ht he'
    refine Zeu.L11ind _ _ _ _ _ _ _ _ (J := fun (g : Nat) x54 h' => x54 = (g : Int) ∧ g ≤ a.ps.length ∧ Zgy i h1 h' ∧ ∃ m1, matchL m (a.ps.take g) (t.ps.take g) = some m1 ∧ Ykl h' i m1) (fun g => a.ps.length - g) ?_ 0 _ _ ⟨rfl, by omega, Zgy.refl _ _, m, by simp [matchL], rm⟩
    rintro g x54 h' ⟨rfl, hg, hK, m1, hm1, rm1⟩ R hR
    unfold Zeu.L11t
    refine Zan (fun hlt => ?_) (fun hge => ?_)
    ·have hga : g < a.ps.length := by omega
     have hgt : g < t.ps.length := by omega
     have hit1 : h'[it]? = some (.cells Zew [.str [t.hd], .slice at' t.ps.length ct et, .ptr none] false) := by rw [hK.eq _ (Own.lt hit) (hSi _ sit)]; exact hit
     obtain ⟨ja, oa, rfl, _, hca⟩ := (rowa.keepAt (i := i) (fun j o h0 e => hSi j (hSa j o h0 e)) hK).at hga
     obtain ⟨jt, ot, rfl, _, hct⟩ := (rowt.keepAt (i := i) (fun j o h0 e => hSi j (hSt j o h0 e)) hK).at hgt
     have hqag : g < qa.length := by omega
     have hqtg : g < qt.length := by omega
     rw [List.getElem?_map, List.getElem?_eq_getElem hqag] at hca
     rw [List.getElem?_map, List.getElem?_eq_getElem hqtg] at hct
     simp only [Zax, Int.toNat_natCast, Nat.mul_one, hca, hct, Option.map_some, Zgb, Zaq hit1, Nat.zero_add, List.getElem?_cons_succ, List.getElem?_cons_zero, Zag]
     have hma := List.getElem_mem hga
     have hmt := List.getElem_mem hgt
     have h1 := Ty.size_part hma
     have h2 := Ty.len_part hmt
     have bo1 : BOk n m1 := BOk.matchL (fun x hx => Ty.ok_ps ha x (List.mem_of_mem_take hx)) (fun x hx => ⟨Ty.ok_ps ht x (List.mem_of_mem_take hx), by have := Ty.len_part (List.mem_of_mem_take hx); omega⟩) bo hm1
     have htk := Zsd a.ps t.ps m g hga hgt
     rw [hm1] at htk
     simp only at htk
     refine ⟨by omega, by omega, (Yfu N (by omega) (Ty.ok_ps ha _ hma) (Ty.ok_ps ht _ hmt) (by omega) (by omega) bo1 hSi ((hqa g _ _ (List.getElem?_eq_getElem hqag) (List.getElem?_eq_getElem hga)).keep fun j hj hl => hK.eq j hl (hSi j hj)) ((hqt g _ _ (List.getElem?_eq_getElem hqtg) (List.getElem?_eq_getElem hgt)).keep fun j hj hl => hK.eq j hl (hSi j hj)) rm1).mono ?_⟩
     rintro v h3 ⟨K3, hres⟩
     cases hmm : matchT m1 a.ps[g] t.ps[g] with
     | none =>
      rw [hmm] at hres htk
      subst hres
      simp only [Zal, Bool.not_false, Zct]
      rw [Zsi a.ps t.ps m (g + 1) hlen htk]
      exact ⟨hK.trans K3, rfl⟩
     | some m2 =>
      rw [hmm] at hres htk
      obtain ⟨rfl, rm2⟩ := hres
      simp only [Zal, Bool.not_true, Zbh]
      rw [Zbj (by omega)]
      exact hR (g + 1) _ _ (by omega) ⟨rfl, by omega, hK.trans K3, m2, htk, rm2⟩
    ·apply Zeu.A11x0i
     have : g = a.ps.length := by omega
     subst this
     rw [List.take_length, hlen, List.take_length] at hm1
     rw [hm1]
     exact ⟨hK, rfl, rm1⟩
end Go.Sim

set_option linter.unusedVariables false
set_option linter.unusedSimpArgs false
set_option maxRecDepth 20000
namespace Go.Sim
open Go Go.RowKit

theorem Zvm : pg.underlying Zlp = some (.slice Zbe) := by kernel_rfl
theorem Yck : pg.cellsOf Zbe = 2 := by kernel_rfl
theorem Ycs : pg.okElem Zbe = true := by kernel_rfl
theorem Yaw : pg.bytesOf Zbe ≤ 127 := Nat.le_of_ble_eq_true (by kernel_rfl)
theorem Vec.fresh {α : Type} {ty : TypeId} {enc : α → List Zam} {b : Nat} {h : Zaa} {a : Pt} {n c : Nat} {l : List α} (v : Vec ty h a n c (Zcf enc l)) (hn : n = l.length) (ha : ∀ i, a = some (i, 0) → b ≤ i) : Zcv ty enc b h a n l := by
 refine ⟨hn.symm, ?_⟩
 rcases v with ⟨rfl, h0, _⟩ | ⟨i, rfl, hi⟩
 ·exact .inl h0
 ·exact .inr ⟨i, rfl, ha i rfl, hi⟩
theorem Yna (m : Bd) : (bdL m).length ≤ 6 := by
 rw [Ygl, List.length_map]; exact Nat.le_trans (List.length_filter_le _ _) (by decide)
theorem Ydp {h : Zaa} {i : Nat} {m : Bd} (rm : Ykl h i m) (bo : BOk 60 m) :
  Zae pg Zmg [.map (some i)] h fun v h' => Zbb h.length h h' ∧ ∃ a n c e, v = .slice a n c e ∧ n ≤ c ∧ Zcv Zbe eP h.length h' a n (bdL m) := by
 have hml : m.length ≤ 6 := by
  have hp : (m.map (·.1)).Perm (Zfj.filter fun v => decide (v ∈ m.map (·.1))) := by
   rw [List.perm_ext_iff_of_nodup bo.nd (Zsj.filter _)]
   intro v
   rw [List.mem_filter]
   constructor
   ·intro hv
    obtain ⟨p, hp, rfl⟩ := List.mem_map.1 hv
    exact ⟨(Zqo _).2 (bo.var p hp).1, by simpa using hv⟩
   ·exact fun h => by simpa using h.2
  have h1 := hp.length_eq
  have h2 := List.length_filter_le (fun v => decide (v ∈ m.map (·.1))) Zfj
  rw [List.length_map] at h1
  have h3 : Zfj.length = 6 := rfl
  omega
 apply Zho.call
 simp only [Zaz]
 generalize hh0 : h ++ [Zco.cells Zbe [] false] = h0
 have s0 : Zbb h.length h h0 := by rw [← hh0]; exact Zas
 have l0 : h0.length = h.length + 1 := by rw [← hh0]; simp
 have o0 : h0[h.length]? = some (.cells Zbe [] false) := by rw [← hh0]; simp
 refine Yoj.mono ?_
 rintro v h2 ⟨rfl, hh2⟩
 simp only [Zwj]
 have s2 : Zbb h0.length h0 h2 := by rw [hh2]; exact Zas
 have hc2 : h2[h0.length]? = some (.cells Zgr [.map (some i)] false) := by rw [hh2]; simp
 obtain ⟨es, clk, hm, hk, hvv, hb, hlt⟩ := id rm
 have S2 := s0.cat s2
 have hm2 := S2.get hm (Own.lt hm)
 have hel : es.length = m.length := by have := congrArg List.length hk; simpa using this
 refine (Zxu hc2 hm2 (vs := m.map (·.1)) (by rw [hk, List.map_map]; rfl) bo.nd hb hlt (by omega)).mono ?_
 rintro v h3 ⟨us, hp, hsrt, hcase⟩
 have hus := Yep bo hp hsrt
 have hbd : bdL m = us.map fun v => ([v], ((Zhh m v).getD default).txt) := by rw [Ygl, hus]
 have hul : us.length ≤ 6 := by rw [hp.length_eq]; simpa using hml
 have hmem : ∀ v ∈ us, ∃ t, Zhh m v = some t := fun v hv => by
  rw [hus, List.mem_filter] at hv; exact Option.isSome_iff_exists.1 hv.2
 have hgen : ∃ a c e, v = .slice a us.length c e ∧ Row h3.length h3 a us.length (us.map fun v => Zam.str [v]) ∧ Zbb h2.length h2 h3 := by
  rcases hcase with ⟨rfl, rfl, rfl⟩ | ⟨c, rfl, hc, rfl⟩
  ·exact ⟨_, _, _, rfl, Row.nil, Zbb.refl _ _⟩
  ·refine ⟨_, _, _, rfl, ⟨by simp, .inr ⟨h2.length, 0, Zcm, _, false, rfl, by simp, by simp; rfl, by simp, by rw [List.drop_zero, List.take_of_length_le (by simp)]⟩⟩, Zas⟩
 obtain ⟨a9, c9, e9, rfl, hrow, s3⟩ := hgen
 simp only [Zag]
 have S3 := S2.cat s3
 have hS3le := S3.le
 have o3 : h3[h.length]? = some (.cells Zbe [] false) := s3.get (s2.get o0 (Own.lt o0)) (by have := Own.lt o0; have := s2.le; omega)
 refine Zho.L3ind _ _ _ _ _ _ _ (J := fun (g : Nat) a3 n3 c3 e3 x11 h' => x11 = (g : Int) ∧ g ≤ us.length ∧ Zbb h.length h h' ∧ (∀ j, j < h3.length → j ≠ h.length → h'[j]? = h3[j]?) ∧ h3.length ≤ h'.length ∧ n3 = g ∧ n3 ≤ c3 ∧ Vec Zbe h' a3 n3 c3 (Zcf eP ((bdL m).take g)) ∧ (∀ i, a3 = some (i, 0) → i = h.length ∨ h3.length ≤ i)) (fun g => us.length - g) ?_ 0 _ _ _ _ _ _
  ⟨rfl, by omega, S3, fun _ _ _ => rfl, Nat.le_refl _, rfl, Nat.le_refl _, Vec.mk1 (by simpa using o3), fun i hi => by cases hi; exact .inl rfl⟩
 rintro g a3 n3 c3 e3 x11 h' ⟨rfl, hg, hSm, hK, hle3, rfl, hnc, hv, ha⟩ R hR
 unfold Zho.L3t
 have hbl : (bdL m).length = us.length := by rw [hbd]; simp
 refine Zan (fun hlt => ?_) (fun hge => ?_)
 ·have hg' : n3 < us.length := by omega
  obtain ⟨j, o, rfl, hj, hc⟩ := hrow.at hg'
  rw [List.getElem?_map, List.getElem?_eq_getElem hg', Option.map_some] at hc
  -- the row of keys has not turned: it lies apart from the row of bindings
  have hjr : j ≠ h.length := by
   rcases hcase with ⟨h0, _⟩ | ⟨c, hsl, _, _⟩
   ·rw [h0] at hg'; simp at hg'
   ·simp only [Zam.slice.injEq, Option.some.injEq, Prod.mk.injEq] at hsl
    have := s2.le; omega
  have hc' : Zak h' (.ptr (some (j, o + n3))) = some (.str [us[n3]]) := by
   rw [← hc]; simp only [Zak, hK j hj hjr]
  obtain ⟨t, ht⟩ := hmem _ (List.getElem_mem hg')
  have hm' := hSm.get hm (Own.lt hm)
  obtain ⟨jj, bb, hf, _⟩ := Zqr (k := 0) hk hvv ht
  simp only [Zax, Int.toNat_natCast, Nat.mul_one, hc', Zai, Zga, hm', Ztq, hf, Option.getD_some, Zaz]
  have htk : (bdL m).take (n3 + 1) = (bdL m).take n3 ++ [([us[n3]], t.txt)] := by
   rw [List.take_succ_eq_append_getElem (by omega)]
   congr 2
   have : (bdL m)[n3]? = some ([us[n3]], t.txt) := by
    rw [hbd, List.getElem?_map, List.getElem?_eq_getElem hg', Option.map_some, ht, Option.getD_some]
   exact (List.getElem?_eq_some_iff.1 this).2
  refine ⟨by omega, ?_⟩
  refine hv.pushN Zvm Yck Ycs Yaw (by rw [Zay Zek, List.length_take]; omega) rfl (by omega) rfl (by omega) (fun h6 hl6 hi6 hk6 => ?_)
  simp only [Zag]
  rw [Zbj (by omega)]
  have hle := hSm.le
  have hb9 : ∀ i, a3 = some (i, 0) → h.length ≤ i := fun i hi => by rcases ha i hi with hh | hh <;> omega
  refine hR (n3 + 1) _ _ _ _ _ _ (by omega) ⟨rfl, by omega, ⟨by omega, fun j hj => ?_⟩, fun j hj hne => ?_, by omega, rfl, Nat.le_refl _, Vec.mk1 ?_, fun i hi => by cases hi; right; omega⟩
  ·rw [hk6 j (by omega) fun i hi => by have := hb9 i hi; omega]; exact hSm.eq j hj
  ·rw [hk6 j (by omega) fun i hi => by rcases ha i hi with hh | hh <;> omega]; exact hK j hj hne
  ·rw [hi6, htk, Zeg]; rfl
 ·apply Zho.A3x0i
  have : n3 = us.length := by omega
  subst this
  rw [show (bdL m).take us.length = bdL m from List.take_of_length_le (by omega)] at hv
  exact ⟨hSm, _, _, _, _, rfl, hnc, hv.fresh (b := h.length) hbl.symm fun i hi => by rcases ha i hi with hh | hh <;> omega⟩
def Yfz (p s : List Nat) (h : Zaa) (v : Zam) (h' : Zaa) : Prop := Zbb h.length h h' ∧ ∃ a n c e, v = .tup [.slice a n c e, .bool (Zpy p s)] ∧ n ≤ c ∧ Zcv Zbe eP h.length h' a n (Zjt p s)
theorem Zuk (p s : List Nat) (h : Zaa) : Zae pg Zjd [.str p, .str s] h (Yfz p s h) := by
 apply Zlr.call
 refine (Zwh p h).mono ?_
 rintro v h1 ⟨s1, q1, rfl, r1⟩
 simp only [Zgb]
 refine (Zwh s h1).mono ?_
 rintro v h2 ⟨s2, q2, rfl, r2⟩
 simp only [Zgb, Zaz]
 have S2 := s1.cat s2
 have s3 : Zbb h2.length h2 (h2 ++ [.map [] 0]) := Zas
 have S3 := S2.cat s3
 have no : Zjv p s = none → Yfz p s h (.tup [.slice none 0 0 true, .bool false]) (h2 ++ [.map [] 0]) := fun hn =>
  ⟨S3, none, 0, 0, true, by unfold Zpy; rw [hn]; rfl, Nat.le_refl _, by unfold Zjt; rw [hn]; exact ⟨rfl, .inl rfl⟩⟩
 cases hp : Zjp p with
 | none =>
  rw [hp] at r1; simp only at r1; subst r1
  simp only [Option.isNone_none, Zct]
  exact no (by unfold Zjv; rw [hp])
 | some a =>
  rw [hp] at r1; simp only at r1
  obtain ⟨i1, rfl, b1, l1⟩ := r1.lt
  simp only [Option.isNone_some, Zbh]
  cases ht : Zjp s with
  | none =>
   rw [ht] at r2; simp only at r2; subst r2
   simp only [Option.isNone_none, Zct]
   exact no (by unfold Zjv; rw [hp, ht])
  | some t =>
   rw [ht] at r2; simp only at r2
   obtain ⟨i2, rfl, b2, l2⟩ := r2.lt
   simp only [Option.isNone_some, Zbh]
   obtain ⟨ha1, ha2, ha3⟩ := Zfs.1 hp
   obtain ⟨ht1, ht2, ht3⟩ := Zfs.1 ht
   have hms : Zjv p s = matchT [] a t := by unfold Zjv; rw [hp, ht]
   have hl1 := s1.le; have hl2 := s2.le
   have R1 := ((r1.same s2).same s3).mono (S' := fun j => j ≠ h2.length) (fun j hj => by have := hj.2; omega)
   have R2 := (r2.same s3).mono (S' := fun j => j ≠ h2.length) (fun j hj => by have := hj.2; omega)
   have rm : Ykl (h2 ++ [.map [] 0]) h2.length [] := ⟨[], 0, by simp, rfl, rfl, by simp, by simp⟩
   refine (Yfu _ (Nat.le_refl _) ha1 ht1 (by rw [← ht2]; omega) (n := 60) (by rw [← ht2]; exact ht3) BOk.nil (fun j hj => hj) R1 R2 rm).mono ?_
   rintro v h4 ⟨K4, hres⟩
   have S4 : Zbb h.length h h4 := ⟨by have := K4.le; have := S3.le; omega, fun j hj => by rw [K4.eq j (by have := S3.le; omega) (by have := S2.le; omega)]; exact S3.eq j hj⟩
   cases hm : matchT [] a t with
   | none =>
    rw [hm] at hres hms
    subst hres
    simp only [Zal, Bool.not_false, Zct]
    exact ⟨S4, none, 0, 0, true, by unfold Zpy; rw [hms]; rfl, Nat.le_refl _, by unfold Zjt; rw [hms]; exact ⟨rfl, .inl rfl⟩⟩
   | some m =>
    rw [hm] at hres hms
    obtain ⟨rfl, rm4⟩ := hres
    simp only [Zal, Bool.not_true, Zbh]
    apply Zlr.J4i
    refine (Ydp rm4 (Zwl hms)).mono ?_
    rintro v h5 ⟨s5, a5, n5, c5, e5, rfl, hc5, f5⟩
    simp only [Zag]
    refine ⟨S4.cat s5, a5, n5, c5, e5, by unfold Zpy; rw [hms]; rfl, hc5, ?_⟩
    unfold Zjt; rw [hms]
    exact ⟨f5.1, f5.2.imp id fun ⟨i, ha, hb, hi⟩ => ⟨i, ha, by have := S4.le; omega, hi⟩⟩
theorem Zzy (p s : List Nat) (h : Zaa) : Zae pg Zlb [.str p, .str s] h fun v h' => v = .bool (Zpy p s) ∧ Zbb h.length h h' := by
 apply Zoo.call
 refine (Zuk p s h).mono ?_
 rintro v h1 ⟨s1, a, n, c, e, rfl, _⟩
 simp only [Zdn, Zah, Zag, Zal, Zat]
 exact ⟨by trivial, s1⟩
end Go.Sim

set_option linter.unusedSimpArgs false
set_option linter.unusedVariables false
namespace Go.Sim

noncomputable def Zpz (l : List Nd) (i : Nat) : Bool := Zko (l.getD i ([], [])).1 && Zos (l.getD i ([], [])).2 && (i == 0 || Zeh (l.getD (i - 1) ([], [])).1 (l.getD i ([], [])).1)
noncomputable def Zhl (l : List Nd) : Bool := (List.range l.length).all (Zpz l)
def Zvl (l : List Nd) (c : Nat) : List Nat := match l.find? fun p => decide (p.1 = [c]) with | some p => p.2 | none => [c]
def Zju (l : List Nd) (t : List Nat) : List Nat := t.flatMap (Zvl l)
noncomputable def Zqj (l : List Nd) (c : Nat) : Option Ty := match l.find? fun p => decide (p.1 = [c]) with | some p => Zjp p.2 | none => none
noncomputable def subst (f : Nat → Option Ty) : Ty → Ty
 | .k c => (f c).getD (.k c)
 | .u c a => .u c (subst f a)
 | .w c a b => .w c (subst f a) (subst f b)
noncomputable def Zfi (l : List Nd) (t : List Nat) : Option (List Nat) := if Zhl l && Zos t && decide ((Zju l t).length ≤ 60) then some (Zju l t) else none
theorem Zvr {l : List Nd} (h : Zhl l = true) {i : Nat} (hi : i < l.length) : Zko l[i].1 = true ∧ Zos l[i].2 = true ∧ (i = 0 ∨ Zeh (l.getD (i - 1) ([], [])).1 l[i].1 = true) := by
 unfold Zhl at h
 rw [List.all_eq_true] at h
 have := h i (List.mem_range.2 hi)
 unfold Zpz at this
 rw [Zfp hi] at this
 simp only [Bool.and_eq_true, Bool.or_eq_true, beq_iff_eq] at this
 exact ⟨this.1.1, this.1.2, this.2⟩
theorem Zqx {l : List Nd} (h : Zhl l = true) {p : Nd} (hp : p ∈ l) : Zko p.1 = true ∧ Zos p.2 = true := by
 obtain ⟨i, hi, rfl⟩ := List.getElem_of_mem hp
 exact ⟨(Zvr h hi).1, (Zvr h hi).2.1⟩
theorem Zsw {l : List Nd} (h : Zhl l = true) {c : Nat} (hc : Zdi c = false) : Zvl l c = [c] ∧ Zqj l c = none := by
 have : l.find? (fun p => decide (p.1 = [c])) = none := by
  rw [List.find?_eq_none]
  intro p hp e
  have := (Zqx h hp).1
  rw [of_decide_eq_true e] at this
  simp [Zko, hc] at this
 unfold Zvl Zqj
 rw [this]; exact ⟨rfl, rfl⟩
theorem Ztu {l : List Nd} (h : Zhl l = true) (c : Nat) : Zvl l c = ((Zqj l c).getD (.k c)).txt ∧ ∀ t, Zqj l c = some t → t.ok = true ∧ t.txt.length ≤ 60 := by
 unfold Zvl Zqj
 cases hf : l.find? (fun p => decide (p.1 = [c])) with
 | none => exact ⟨rfl, fun t ht => by cases ht⟩
 | some p =>
  have hp := List.mem_of_find?_eq_some hf
  obtain ⟨t, ht⟩ := Zte (Zqx h hp).2
  obtain ⟨h1, h2, h3⟩ := Zfs.1 ht
  simp only [ht]
  refine ⟨by simpa using h2, fun u hu => ?_⟩
  cases hu
  exact ⟨h1, by rw [← h2]; exact h3⟩
theorem Zmh {l : List Nd} (h : Zhl l = true) {c : Nat} (hc : Ycb c = true) : Zvl l c = [c] := by
 refine (Zsw h ?_).1
 simp only [Ycb, Bool.or_eq_true, beq_iff_eq] at hc
 rcases hc with (rfl | rfl) | rfl <;> rfl
theorem Yqs {c : Nat} {a : Ty} (h : (Ty.u c a).ok = true) : Zdi c = false := by
 cases hv : Zdi c with
 | false => rfl
 | true => have := Zqh h hv; cases this
theorem Yql {c : Nat} {a b : Ty} (h : (Ty.w c a b).ok = true) : Zdi c = false := by
 cases hv : Zdi c with
 | false => rfl
 | true => have := Zqh h hv; cases this
theorem Zoa {l : List Nd} (h : Zhl l = true) : ∀ {t : Ty}, t.ok = true → Zju l t.txt = (subst (Zqj l) t).txt ∧ (subst (Zqj l) t).ok = true
 | .k c, ht => by
  have := Ztu h c
  simp only [Zju, Ty.txt, List.flatMap_cons, List.flatMap_nil, List.append_nil, subst]
  refine ⟨this.1, ?_⟩
  cases hb : Zqj l c with
  | none => exact ht
  | some t => exact (this.2 t hb).1
 | .u c a, ht => by
  have hv := Yqs ht
  have hh := ht
  simp only [Ty.ok, Bool.and_eq_true] at ht
  have ih := Zoa h ht.2
  simp only [Zju] at ih
  simp only [Zju, Ty.txt, List.flatMap_cons, List.flatMap_append, List.flatMap_nil, List.append_nil, subst, (Zsw h hv).1, Zmh h Ty.m40, Zmh h Ty.m41, ih.1, List.cons_append, List.nil_append]
  refine ⟨by trivial, ?_⟩
  simp only [Ty.ok, Bool.and_eq_true]; exact ⟨ht.1, ih.2⟩
 | .w c a b, ht => by
  have hv := Yql ht
  simp only [Ty.ok, Bool.and_eq_true] at ht
  have ih := Zoa h ht.1.2
  have ih2 := Zoa h ht.2
  simp only [Zju] at ih ih2
  simp only [Zju, Ty.txt, List.flatMap_cons, List.flatMap_append, List.flatMap_nil, List.append_nil, subst, (Zsw h hv).1, Zmh h Ty.m40, Zmh h Ty.m41, Zmh h Ty.m44, ih.1, ih2.1, List.cons_append, List.nil_append]
  refine ⟨by trivial, ?_⟩
  simp only [Ty.ok, Bool.and_eq_true]; exact ⟨⟨ht.1.1, ih.2⟩, ih2.2⟩
theorem Zwr (a b : Nat) : Zeh [a] [b] = decide (a < b) := by
 simp [Zeh]
theorem Yjg {m : Bd} (b : BOk 60 m) : Zhl (bdL m) = true := by
 rw [Ygl]
 generalize hvs : (Zfj.filter fun v => (Zhh m v).isSome) = vs
 have hs : vs.Pairwise (· < ·) := by rw [← hvs]; exact Zus.filter _
 have hm : ∀ v ∈ vs, Zdi v = true ∧ ∃ t, Zhh m v = some t := by
  intro v hv
  rw [← hvs, List.mem_filter] at hv
  exact ⟨(Zqo v).1 hv.1, Option.isSome_iff_exists.1 hv.2⟩
 unfold Zhl
 rw [List.all_eq_true]
 intro i hi
 rw [List.mem_range, List.length_map] at hi
 unfold Zpz
 rw [Zfp (by simpa using hi), List.getElem_map]
 obtain ⟨h1, t, h2⟩ := hm _ (List.getElem_mem hi)
 have h3 := b.var _ (Zqy h2)
 simp only [h2, Option.getD_some, Zko, h1, Bool.true_and, Bool.and_eq_true, Bool.or_eq_true, beq_iff_eq]
 refine ⟨Zsx.2 ⟨t, h3.2.1, rfl, h3.2.2⟩, ?_⟩
 cases i with
 | zero => exact .inl rfl
 | succ j =>
  right
  rw [Nat.add_sub_cancel, Zfp (by simp; omega), List.getElem_map, Zwr]
  exact decide_eq_true (List.pairwise_iff_getElem.1 hs j (j + 1) (by omega) hi (by omega))
noncomputable def Zht (i : Ins) (t : List Nat) : Option (List Nd) :=
 match Zjv i.1.2 t with
 | none => none
 | some m => if i.2.all fun n => (Zfi (bdL m) n.2).isSome then some (i.2.map fun n => (n.1, Zju (bdL m) n.2)) else none
end Go.Sim
