/- A part of the proof of a statement of this seat: see the text that holds the theorem. No condition. -/
import Derived.Test.YtlljbdepamknoaaGreatPTCWLaw2
import Derived.Test.YtlljbdepamknoaaGreatCWLaw
import Derived.Test.YtlljbdepamknoaaGreatNm
import Derived.Test.YtlljbdepamknoaaGreatCVars
import Derived.Test.YtlljbdepamknoaaGreatPTCAll2
set_option linter.unusedVariables false
set_option linter.unusedSimpArgs false
set_option linter.all false
set_option linter.unusedVariables false
set_option linter.unusedSimpArgs false
set_option maxRecDepth 20000
namespace Go.Sim
open Go Go.RowKit

def isz (i : Ins) : Nat := i.1.1.length + i.1.2.length + (i.2.length + Yar i.2)
def Ygp (l : List Ins) : Nat := (l.map isz).sum
def wsz (w : Wd) : Nat := w.cs.length + Yar w.cs + (w.is.length + Ygp w.is)
theorem Zzo {l : List Ins} {g : Nat} (h : g < l.length) : Ygp (l.take (g + 1)) = Ygp (l.take g) + isz l[g] := by
  unfold Ygp; rw [List.take_succ_eq_append_getElem h, List.map_append, List.sum_append]; simp
theorem Zzp (l : List Ins) (g : Nat) : Ygp (l.take g) ≤ Ygp l := by
  conv => rhs; rw [← List.take_append_drop g l]
  unfold Ygp; rw [List.map_append, List.sum_append]; omega
theorem Ylq {l : List Ins} {g : Nat} (h : g < l.length) : isz l[g] ≤ Ygp l := by
  have := Zzo h; have := Zzp l (g + 1); omega
def Zqs (n : Nat) : Prop := n ≤ 9223372036854775807
structure Yos (w : Wd) : Prop where
  lc : Zqs w.cs.length
  li : Zqs w.is.length
  cs : ∀ p ∈ w.cs, Zqs p.1.length ∧ Zqs p.2.length ∧ ∀ b ∈ p.1, b < 256
  is : ∀ i ∈ w.is, Zqs i.1.1.length ∧ Zqs i.1.2.length ∧ Zqs i.2.length ∧ ∀ p ∈ i.2, Zqs p.1.length ∧ Zqs p.2.length
theorem WB.of {w : Wd} (b : Yos w) (h : wsz w ≤ 1048576) : WB w := by
  have h1 : ∀ p ∈ w.cs, p.1.length + p.2.length ≤ Yar w.cs := fun p hp => by
    obtain ⟨k, hk, rfl⟩ := List.mem_iff_getElem.1 hp; exact Zxy hk
  have h2 : ∀ i ∈ w.is, isz i ≤ Ygp w.is := fun p hp => by
    obtain ⟨k, hk, rfl⟩ := List.mem_iff_getElem.1 hp; exact Ylq hk
  unfold wsz at h
  refine ⟨by omega, by omega, fun p hp => ⟨by have := h1 p hp; omega, by have := h1 p hp; omega, (b.cs p hp).2.2⟩, fun i hi => ?_⟩
  have := h2 i hi
  unfold isz at this
  refine ⟨by omega, by omega, by omega, fun p hp => ?_⟩
  have h3 : p.1.length + p.2.length ≤ Yar i.2 := by obtain ⟨k, hk, rfl⟩ := List.mem_iff_getElem.1 hp; exact Zxy hk
  omega
theorem Zyb {h : Zaa} {a : Pt} {n cp : Nat} {e : Bool} {i : Ins} {x : Int} (r : Row h.length h a (n * 2) (Zff eP i.2)) (hb : Zqs i.1.1.length ∧ Zqs i.1.2.length ∧ Zqs i.2.length ∧ ∀ p ∈ i.2, Zqs p.1.length ∧ Zqs p.2.length) (hx : 0 ≤ x ∧ x ≤ 1048576) :
    Zad pg Zkl [.agg [.str i.1.1, .str i.1.2, .slice a n cp e], .int .i64 x] h fun v h' => ∃ y, v = .int .i64 y ∧ Zaz h.length h h' ∧ (0 ≤ y → (isz i : Int) + y = x) := by
  have hl : i.2.length = n := by have := r.1; rw [Zbe Zdp] at this; omega
  apply Zng.call
  simp only [Zax]
  have s1 : Zaz h.length h (h ++ [.cells Zeq [.str i.1.1, .str i.1.2, .slice a n cp e] false]) := Zau
  have hi : (h ++ [Zcn.cells Zeq [.str i.1.1, .str i.1.2, .slice a n cp e] false])[h.length]? = some (.cells Zeq [.str i.1.1, .str i.1.2, .slice a n cp e] false) := by simp
  simp only [Nat.add_zero]
  rw [Zee hi (by simp)]
  simp only [List.drop_zero, List.take_succ_cons, List.take_zero, Zan, Zae, Zap, Zaf]
  refine (Zvj hb.1 hb.2.1 hx).mono ?_
  rintro v h2 ⟨y, rfl, s2, hy⟩
  simp only [Zao]
  have i2 := s2.get hi (Own.lt hi)
  refine Zal (fun hlt => ⟨_, rfl, s1.cat s2, by omega⟩) (fun hge => ?_)
  have hyy := hy (by omega)
  simp only [Zaq i2, Nat.zero_add, List.getElem?_cons_succ, List.getElem?_cons_zero, Zah]
  have hN := hb.2.2.1
  unfold Zqs at hN
  refine (Zxt (r.same' (s1.cat s2)) (fun p hp => hb.2.2.2 p hp) (by omega) (Zgz := y) (by omega)).mono ?_
  rintro v h3 ⟨z, rfl, s3, hz⟩
  simp only [Zao]
  refine Zal (fun hlt => ⟨_, rfl, (s1.cat s2).cat s3, by omega⟩) (fun hge => ⟨_, rfl, (s1.cat s2).cat s3, fun h0 => ?_⟩)
  have := hz h0
  unfold isz; omega
theorem Zwj {h : Zaa} {a0 a : Pt} {n0 c0 n cp : Nat} {e : Bool} {w : Wd} {x : Int} (r : Zmi h a0 n0 c0 a n cp w) (hb : Yos w) (hx : 0 ≤ x ∧ x ≤ 1048576) :
    Zad pg Zji [.slice a n cp e, .int .i64 x] h fun v h' => ∃ y, v = .int .i64 y ∧ Zaz h.length h h' ∧ (0 ≤ y → (w.is.length : Int) + Ygp w.is + y = x) := by
  have hl := r.len1
  have hbl := hb.li
  unfold Zqs at hbl
  apply Zfz.call
  rw [IntWalk.i64_in _ (by omega)]
  refine Zal (fun hlt => ⟨_, rfl, Zaz.refl _ _, by omega⟩) (fun hge => ?_)
  refine Zfz.L5ind _ _ _ _ _ (J := fun (g : Nat) x1 x5 h' => x5 = (g : Int) ∧ Zaz h.length h h' ∧ g ≤ n ∧ 0 ≤ x1 ∧ x1 + n + Ygp (w.is.take g) = x) (fun g => n - g) ?_ 0 _ 0 h ⟨rfl, Zaz.refl _ _, by omega, by omega, by simp [Ygp]⟩
  rintro g x1 x5 h' ⟨rfl, hS, hg, h0, ht⟩ R hR
  unfold Zfz.L5t
  refine Zal (fun hlt => ?_) (fun hge => ?_)
  · obtain ⟨i, o, hgl, a2, n2, c2, e2, rfl, _, hr, _, _, _, hrow, hn⟩ := (r.same hS).inst (k := g) (by omega)
    simp only [Zav, Int.toNat_natCast, hr, Zan, Zae, Zap, Zaf, Zah]
    refine ⟨by omega, (Zyb (i := w.is[g]) hrow (hb.is _ (List.getElem_mem hgl)) (by omega)).mono ?_⟩
    rintro v h1 ⟨y, rfl, hs1, hy⟩
    simp only [Zao]
    have hS1 := hS.cat hs1
    refine Zal (fun hneg => ⟨_, rfl, hS1, by omega⟩) (fun hneg => ?_)
    have hyy := hy (by omega)
    rw [Zbm (by omega)]
    exact hR (g + 1) _ _ _ (by omega) ⟨rfl, hS1, by omega, by omega, by rw [Zzo hgl]; omega⟩
  · have : g = n := by omega
    subst this
    rw [List.take_of_length_le (by omega)] at ht
    exact Zfz.A5x0i _ _ _ ⟨_, rfl, hS, by omega⟩
theorem Yfr {h : Zaa} {a0 a1 : Pt} {n0 c0 n1 c1 : Nat} {e0 e1 : Bool} {w : Wd} {x : Int} (r : Zmi h a0 n0 c0 a1 n1 c1 w) (hb : Yos w) (hx : 0 ≤ x ∧ x ≤ 1048576) :
    Zad pg Zmq [.agg [.slice a0 n0 c0 e0, .slice a1 n1 c1 e1], .int .i64 x] h fun v h' => ∃ y, v = .int .i64 y ∧ Zaz h.length h h' ∧ (0 ≤ y → (wsz w : Int) + y = x) := by
  have hl0 := r.len0
  apply Zqc.call
  simp only [Zax]
  have s1 : Zaz h.length h (h ++ [.cells Zer [.slice a0 n0 c0 e0, .slice a1 n1 c1 e1] false]) := Zau
  have hi : (h ++ [Zcn.cells Zer [.slice a0 n0 c0 e0, .slice a1 n1 c1 e1] false])[h.length]? = some (.cells Zer [.slice a0 n0 c0 e0, .slice a1 n1 c1 e1] false) := by simp
  simp only [Zaq hi, Nat.add_zero, List.getElem?_cons_zero, Zah]
  have hN := hb.lc
  unfold Zqs at hN
  refine (Zza (r.cls.same' s1) (fun p hp => ⟨(hb.cs p hp).1, (hb.cs p hp).2.1⟩) (by omega) hx).mono ?_
  rintro v h2 ⟨y, rfl, s2, hy⟩
  simp only [Zao]
  have i2 := s2.get hi (Own.lt hi)
  refine Zal (fun hlt => ⟨_, rfl, s1.cat s2, by omega⟩) (fun hge => ?_)
  have hyy := hy (by omega)
  simp only [Zaq i2, Nat.zero_add, List.getElem?_cons_succ, List.getElem?_cons_zero, Zah]
  refine (Zwj (r.same (s1.cat s2)) hb (x := y) (by omega)).mono ?_
  rintro v h3 ⟨z, rfl, s3, hz⟩
  simp only [Zao]
  refine Zal (fun hlt => ⟨_, rfl, (s1.cat s2).cat s3, by omega⟩) (fun hge => ⟨_, rfl, (s1.cat s2).cat s3, fun h0 => ?_⟩)
  have := hz h0
  unfold wsz; omega

theorem Yim {h : Zaa} {i : Nat} {t : TypeId} {x y z v : Zar} (hi : h[i]? = some (.cells t [x, y, z] false)) : Zbn h (.ptr (some (i, 2))) [v] = some (h.set i (.cells t [x, y, v] false)) := by
  rw [Zcc hi (by simp)]; rfl
theorem Yes {h : Zaa} {i : Nat} {t : TypeId} {x y z v u : Zar} (hi : h[i]? = some (.cells t [x, y, z] false)) : Zbn h (.ptr (some (i, 0))) [v, u] = some (h.set i (.cells t [v, u, z] false)) := by
  rw [Zcc hi (by simp)]; rfl
theorem Yfo {h : Zaa} {i : Nat} {t : TypeId} {x y z a b c : Zar} (hi : h[i]? = some (.cells t [x, y, z] false)) : Zbn h (.ptr (some (i, 0))) [a, b, c] = some (h.set i (.cells t [a, b, c] false)) := by
  rw [Zcc hi (by simp)]; rfl
theorem Yeb {h : Zaa} {i : Nat} {t : TypeId} {x y z : Zar} {ro : Bool} (hi : h[i]? = some (.cells t [x, y, z] ro)) : Zbp h (.ptr (some (i, 0))) 3 = some [x, y, z] := by
  rw [Zee hi (by simp)]; rfl
theorem Yio {h : Zaa} {i : Nat} {t : TypeId} {x y z : Zar} {ro : Bool} (hi : h[i]? = some (.cells t [x, y, z] ro)) : Zbp h (.ptr (some (i, 0))) 2 = some [x, y] := by
  rw [Zee hi (by simp)]; rfl
theorem Zaz.set' {b i : Nat} {h h1 : Zaa} {x : Zcn} (s : Zaz b h h1) (hi : b ≤ i) : Zaz b h (h1.set i x) := ⟨by simp; exact s.le, fun j hj => by rw [Zcr (by omega)]; exact s.eq j hj⟩
theorem Zel.keep {α : Type} {ty : TypeId} {enc : α → List Zar} {b b' : Nat} {h h' : Zaa} {a : Pt} {n : Nat} {l : List α} (f : Zel ty enc b h a n l) (hb : b' ≤ b) (hk : ∀ i, b ≤ i → i < h.length → h'[i]? = h[i]?) : Zel ty enc b' h' a n l :=
  ⟨f.1, f.2.imp id fun ⟨i, ha, hbi, hi⟩ => ⟨i, ha, by omega, by rw [hk i hbi (Own.lt hi)]; exact hi⟩⟩
theorem Zyg {h : Zaa} {a : Pt} {n cp : Nat} {e : Bool} {i : Ins} (r : Row h.length h a (n * 2) (Zff eP i.2)) (hn : n ≤ 1048576) :
    Zad pg Zkk [.agg [.str i.1.1, .str i.1.2, .slice a n cp e]] h fun v h' => ∃ a' c' e', v = .agg [.str i.1.1, .str i.1.2, .slice a' n c' e'] ∧ Zaz h.length h h' ∧ Zel Zaj eP h.length h' a' n i.2 ∧ a' ≠ none := by
  apply Znl.call
  simp only [Zax]
  generalize hh0 : h ++ [Zcn.cells Zeq [.str i.1.1, .str i.1.2, .slice a n cp e] false] = h0
  generalize hh1 : h0 ++ [Zcn.cells Zas [.str [], .str [], .slice none 0 0 true] false] = h1
  generalize hh2 : h1 ++ [Zcn.cells Zas [.str [], .str [], .slice none 0 0 true] false] = h2
  have s0 : Zaz h.length h h0 := by rw [← hh0]; exact Zau
  have s1 : Zaz h0.length h0 h1 := by rw [← hh1]; exact Zau
  have s2 : Zaz h1.length h1 h2 := by rw [← hh2]; exact Zau
  have l0 : h0.length = h.length + 1 := by rw [← hh0]; simp
  have l1 : h1.length = h.length + 2 := by rw [← hh1]; simp [l0]
  have l2 : h2.length = h.length + 3 := by rw [← hh2]; simp [l1]
  have x0 : h0[h.length]? = some (.cells Zeq [.str i.1.1, .str i.1.2, .slice a n cp e] false) := by rw [← hh0]; simp
  have y1 : h1[h0.length]? = some (.cells Zas [.str [], .str [], .slice none 0 0 true] false) := by rw [← hh1]; simp
  have z2 : h2[h1.length]? = some (.cells Zas [.str [], .str [], .slice none 0 0 true] false) := by rw [← hh2]; simp
  have x2 := s2.get (s1.get x0 (by omega)) (by omega)
  have y2 := s2.get y1 (by omega)
  have S2 := (s0.cat s1).cat s2
  simp only [Nat.add_zero, Nat.zero_add]
  rw [Yio x2]
  simp only [Zan, Zae, Zap, Zaf]
  refine Zrn.mono ?_
  rintro v h3 ⟨rfl, s3⟩
  simp only [Zdl, Zae, Zap, Zaf]
  have z3 := s3.get z2 (by omega)
  have x3 := s3.get x2 (by omega)
  have y3 := s3.get y2 (by omega)
  have l3 := s3.le
  rw [Yes z3]
  simp only [Zaw]
  have x4 : (h3.set h1.length (.cells Zas [.str i.1.1, .str i.1.2, .slice none 0 0 true] false))[h.length]? = some (.cells Zeq [.str i.1.1, .str i.1.2, .slice a n cp e] false) := by rw [Zcr (by omega)]; exact x3
  have y4 : (h3.set h1.length (.cells Zas [.str i.1.1, .str i.1.2, .slice none 0 0 true] false))[h0.length]? = some (.cells Zas [.str [], .str [], .slice none 0 0 true] false) := by rw [Zcr (by omega)]; exact y3
  have z4 : (h3.set h1.length (.cells Zas [.str i.1.1, .str i.1.2, .slice none 0 0 true] false))[h1.length]? = some (.cells Zas [.str i.1.1, .str i.1.2, .slice none 0 0 true] false) := Zdi z3
  have S4 : Zaz h.length h (h3.set h1.length (.cells Zas [.str i.1.1, .str i.1.2, .slice none 0 0 true] false)) := (S2.cat s3).set' (by omega)
  generalize hh4 : h3.set h1.length (.cells Zas [.str i.1.1, .str i.1.2, .slice none 0 0 true] false) = h4 at *
  have l4 : h4.length = h3.length := by rw [← hh4]; simp
  simp only [Zaq x4, List.getElem?_cons_succ, List.getElem?_cons_zero, Zah]
  refine (Zut (r.same' S4) hn).mono ?_
  rintro v h5 ⟨a', c', e', rfl, s5, f5, hc5, hnn⟩
  simp only [Zah]
  have l5 := s5.le
  have y5 := s5.get y4 (by omega)
  have z5 := s5.get z4 (by omega)
  rw [Yim z5]
  simp only [Zaw]
  rw [Yeb (Zdi z5)]
  simp only [Zan, Zae, Zap, Zaf, Zah]
  have y6 : (h5.set h1.length (.cells Zas [.str i.1.1, .str i.1.2, .slice a' n c' e'] false))[h0.length]? = some (.cells Zas [.str [], .str [], .slice none 0 0 true] false) := by rw [Zcr (by omega)]; exact y5
  rw [Yfo y6]
  simp only [Zaw]
  rw [Yeb (Zdi y6)]
  simp only [Zan, Zae, Zap, Zaf, Zah]
  exact ⟨_, _, _, rfl, ((S4.cat s5).set' (by omega)).set' (by omega), f5.keep (by omega) fun j hj _ => by rw [Zcr (by omega), Zcr (by omega)], hnn⟩
end Go.Sim

set_option linter.unusedVariables false
set_option linter.unusedSimpArgs false
set_option maxRecDepth 20000
namespace Go.Sim
open Go Go.RowKit

theorem Yln {α : Type} {enc : α → List Zar} {w : Nat} (hw : ∀ x, (enc x).length = w) {ys : List α} {y : α} {k n : Nat} {z : List Zar} (hk : ys.length = k) (hn : k < n) (hz : z.length = w) :
    putRow (Zff enc ys ++ reps (n - k) z) (k * w) (enc y) = Zff enc (ys ++ [y]) ++ reps (n - (k + 1)) z := by
  have h1 : (Zff enc ys).length = k * w := by rw [Zbe hw, hk]
  have h2 : reps (n - k) z = z ++ reps (n - (k + 1)) z := by
    rw [show n - k = (n - (k + 1)) + 1 by omega]; simp [reps, List.replicate_succ]
  unfold putRow
  rw [List.take_append_of_le_length (by omega), List.take_of_length_le (by omega), Zki, Zkt, Ykk, List.append_nil, hw, h2, List.append_assoc, List.append_assoc]
  congr 2
  rw [← h1, ← hz, List.drop_append, List.drop_of_length_le (by omega)]
  simp
theorem Yly {α : Type} {enc : α → List Zar} {w : Nat} (hw : ∀ x, (enc x).length = w) {ys : List α} {k n : Nat} {z : List Zar} (hk : ys.length = k) (hn : k ≤ n) (hz : z.length = w) : (Zff enc ys ++ reps (n - k) z).length = n * w := by
  have h1 : (reps (n - k) z).length = (n - k) * w := by unfold reps; rw [List.length_flatten]; simp [hz]
  rw [List.length_append, Zbe hw, h1, hk, ← Nat.add_mul]; congr 1; omega
theorem Zwv {h : Zaa} {a0 a : Pt} {n0 c0 n cp : Nat} {e : Bool} {w : Wd} (r : Zmi h a0 n0 c0 a n cp w) (b : WB w) :
    Zad pg Zjg [.slice a n cp e] h fun v h' => ∃ a' c' e' ys, v = .slice a' n c' e' ∧ n ≤ c' ∧ Zaz h.length h h' ∧ Zel Zas eN h.length h' a' n ys ∧ ys.length = w.is.length ∧
      (∀ (k : Nat) (x : EI) (i : Ins), ys[k]? = some x → w.is[k]? = some i → x.c = i.1.1 ∧ x.t = i.1.2 ∧ Zel Zaj eP h.length h' x.a x.n i.2) ∧
      (∀ (j k : Nat) (x y : EI), j ≠ k → ys[j]? = some x → ys[k]? = some y → x.n ≠ 0 → y.n ≠ 0 → x.a ≠ y.a) ∧ ∀ x ∈ ys, x.a ≠ none := by
  have hl := r.len1
  have hli := b.li
  apply Zfu.call
  simp only [Zax, Int.toNat_natCast]
  refine ⟨by trivial, by trivial, ⟨by omega, by omega, by omega⟩, ?_⟩
  refine Zfu.L3ind _ _ _ _ _ _ _ _ _ (J := fun (g : Nat) x4 h' => x4 = (g : Int) ∧ g ≤ n ∧ Zaz h.length h h' ∧ ∃ ys : List EI, ys.length = g ∧ h'[h.length]? = some (.cells Zas (Zff eN ys ++ reps (n - g) [.str [], .str [], .slice none 0 0 true]) false) ∧
      (∀ (k : Nat) (x : EI) (i : Ins), ys[k]? = some x → w.is[k]? = some i → x.c = i.1.1 ∧ x.t = i.1.2 ∧ Zel Zaj eP (h.length + 1) h' x.a x.n i.2) ∧
      (∀ (j k : Nat) (x y : EI), j ≠ k → ys[j]? = some x → ys[k]? = some y → x.n ≠ 0 → y.n ≠ 0 → x.a ≠ y.a) ∧ ∀ x ∈ ys, x.a ≠ none) (fun g => n - g) ?_ 0 _ _
    ⟨rfl, by omega, Zaz.app (Nat.le_refl _) _, [], rfl, by simp, by simp, by simp, by simp⟩
  rintro g x4 h' ⟨rfl, hg, hs, ys, hy, ho, hrep, hsep, hnn⟩ R hR
  unfold Zfu.L3t
  refine Zal (fun hlt => ?_) (fun hge => ?_)
  · have hlt' : g < n := by omega
    obtain ⟨i, o, hgl, a2, n2, c2, e2, rfl, _, hr, _, _, _, hrow, hn⟩ := (r.same hs).inst (k := g) (by omega)
    simp only [Zav, Int.toNat_natCast, hr, Zan, Zae, Zap, Zaf, Zah]
    have hb := b.is _ (List.getElem_mem hgl)
    refine ⟨by omega, (Zyg (i := w.is[g]) hrow (by omega)).mono ?_⟩
    rintro v h1 ⟨a', c', e', rfl, s1, f1, hnn1⟩
    simp only [Zdl, Zae, Zap, Zaf, Zah]
    have hol := Own.lt ho
    have ho1 := s1.get ho hol
    have hlen := Yly (enc := eN) Zyz (ys := ys) (k := g) (n := n) (z := [.str [], .str [], .slice none 0 0 true]) hy hg rfl
    rw [Zcc ho1 (by rw [hlen]; simp; omega)]
    simp only [Zaw]
    have hput := Yln (enc := eN) Zyz (ys := ys) (y := ⟨w.is[g].1.1, w.is[g].1.2, a', n2, c', e'⟩) (k := g) (n := n) (z := [.str [], .str [], .slice none 0 0 true]) hy hlt' rfl
    rw [Nat.zero_add, show ([.str w.is[g].1.1, .str w.is[g].1.2, .slice a' n2 c' e'] : List Zar) = eN ⟨w.is[g].1.1, w.is[g].1.2, a', n2, c', e'⟩ from rfl, hput, Zbm (by omega)]
    refine ⟨by omega, hR (g + 1) _ _ (by omega) ⟨rfl, by omega, (hs.cat s1).set' (Nat.le_refl _), ys ++ [⟨w.is[g].1.1, w.is[g].1.2, a', n2, c', e'⟩], by simp [hy], Zdi ho1, ?_, ?_, fun x hx => by
      rcases List.mem_append.1 hx with hx | hx
      · exact hnn x hx
      · rw [List.mem_singleton] at hx; subst hx; exact hnn1⟩⟩
    · intro k x j hx hj
      by_cases hk : k < g
      · rw [List.getElem?_append_left (by omega)] at hx
        obtain ⟨p1, p2, p3⟩ := hrep k x j hx hj
        refine ⟨p1, p2, p3.keep (Nat.le_refl _) fun q hq hq2 => ?_⟩
        rw [Zcr (by omega)]; exact s1.eq q hq2
      · have hkl := (List.getElem?_eq_some_iff.1 hx).1
        simp [hy] at hkl
        have : k = g := by omega
        subst this
        rw [List.getElem?_append_right (by omega), hy, Nat.sub_self] at hx
        simp at hx
        subst hx
        rw [List.getElem?_eq_getElem hgl] at hj
        cases hj
        exact ⟨rfl, rfl, f1.keep (by omega) fun q hq hq2 => by rw [Zcr (by omega)]⟩
    · have old : ∀ (j : Nat) (x : EI), ys[j]? = some x → x.n ≠ 0 → x.a ≠ a' ∨ n2 = 0 := by
        intro j x hx hn
        have hjl := (List.getElem?_eq_some_iff.1 hx).1
        obtain ⟨_, _, _, p3⟩ := hrep j x (w.is[j]'(by omega)) hx (List.getElem?_eq_getElem (by omega))
        rcases p3 with h0 | ⟨q, hq, _, hq2⟩
        · exact absurd h0 hn
        · have := Own.lt hq2
          rcases f1.2 with h0 | ⟨q', hq', hb', _⟩
          · exact .inr h0
          · refine .inl ?_
            rw [hq, hq']; intro e; cases e; omega
      intro j k x y hjk hx hy' hxn hyn
      by_cases hj : j < g <;> by_cases hk : k < g
      · rw [List.getElem?_append_left (by omega)] at hx hy'
        exact hsep j k x y hjk hx hy' hxn hyn
      · have hkl := (List.getElem?_eq_some_iff.1 hy').1
        simp [hy] at hkl
        have : k = g := by omega
        subst this
        rw [List.getElem?_append_right (by omega), hy, Nat.sub_self] at hy'
        simp at hy'
        subst hy'
        rw [List.getElem?_append_left (by omega)] at hx
        rcases old j x hx hxn with h1 | h1
        · exact h1
        · exact absurd h1 hyn
      · have hkl := (List.getElem?_eq_some_iff.1 hx).1
        simp [hy] at hkl
        have : j = g := by omega
        subst this
        rw [List.getElem?_append_right (by omega), hy, Nat.sub_self] at hx
        simp at hx
        subst hx
        rw [List.getElem?_append_left (by omega)] at hy'
        rcases old k y hy' hyn with h1 | h1
        · exact fun e => h1 e.symm
        · exact absurd h1 hxn
      · have h1 := (List.getElem?_eq_some_iff.1 hx).1
        have h2 := (List.getElem?_eq_some_iff.1 hy').1
        simp [hy] at h1 h2
        omega
  · have : g = n := by omega
    subst this
    apply Zfu.A3x0i
    simp [reps] at ho
    refine ⟨_, _, _, ys, rfl, Nat.le_refl _, hs, ⟨hy, .inr ⟨h.length, rfl, Nat.le_refl _, ho⟩⟩, by omega, fun k x i hx hi => ?_, hsep, hnn⟩
    obtain ⟨p1, p2, p3⟩ := hrep k x i hx hi
    exact ⟨p1, p2, p3.keep (by omega) fun _ _ _ => rfl⟩
theorem Yaw {h : Zaa} {i : Nat} {t : TypeId} {x y v : Zar} (hi : h[i]? = some (.cells t [x, y] false)) : Zbn h (.ptr (some (i, 0))) [v] = some (h.set i (.cells t [v, y] false)) := by
  rw [Zcc hi (by simp)]; rfl
theorem Zyv {h : Zaa} {i : Nat} {t : TypeId} {x y v : Zar} (hi : h[i]? = some (.cells t [x, y] false)) : Zbn h (.ptr (some (i, 1))) [v] = some (h.set i (.cells t [x, v] false)) := by
  rw [Zcc hi (by simp)]; rfl
theorem Ygo {h : Zaa} {i : Nat} {t : TypeId} {x y a b : Zar} (hi : h[i]? = some (.cells t [x, y] false)) : Zbn h (.ptr (some (i, 0))) [a, b] = some (h.set i (.cells t [a, b] false)) := by
  rw [Zcc hi (by simp)]; rfl
theorem Zbc {h : Zaa} {i : Nat} {t : TypeId} {x y : Zar} {ro : Bool} (hi : h[i]? = some (.cells t [x, y] ro)) : Zbp h (.ptr (some (i, 0))) 2 = some [x, y] := by
  rw [Zee hi (by simp)]; rfl
theorem Zsm {h : Zaa} {a0 a1 : Pt} {n0 c0 n1 c1 : Nat} {e0 e1 : Bool} {w : Wd} (r : Zmi h a0 n0 c0 a1 n1 c1 w) (b : WB w) :
    Zad pg Zif [.agg [.slice a0 n0 c0 e0, .slice a1 n1 c1 e1]] h fun v h' => ∃ b0 d0 f0 b1 d1 f1 ys, v = .agg [.slice b0 n0 d0 f0, .slice b1 n1 d1 f1] ∧ n0 ≤ d0 ∧ n1 ≤ d1 ∧ Zaz h.length h h' ∧ Zxq h.length h' b0 n0 b1 n1 ys w := by
  have hl0 := r.len0
  have hlc := b.lc
  apply Zql.call
  simp only [Zax]
  generalize hh0 : h ++ [Zcn.cells Zer [.slice a0 n0 c0 e0, .slice a1 n1 c1 e1] false] = h0
  generalize hh1 : h0 ++ [Zcn.cells Zak [.slice none 0 0 true, .slice none 0 0 true] false] = h1
  generalize hh2 : h1 ++ [Zcn.cells Zak [.slice none 0 0 true, .slice none 0 0 true] false] = h2
  have s0 : Zaz h.length h h0 := by rw [← hh0]; exact Zau
  have s1 : Zaz h0.length h0 h1 := by rw [← hh1]; exact Zau
  have s2 : Zaz h1.length h1 h2 := by rw [← hh2]; exact Zau
  have l0 : h0.length = h.length + 1 := by rw [← hh0]; simp
  have l1 : h1.length = h.length + 2 := by rw [← hh1]; simp [l0]
  have l2 : h2.length = h.length + 3 := by rw [← hh2]; simp [l1]
  have x0 : h0[h.length]? = some (.cells Zer [.slice a0 n0 c0 e0, .slice a1 n1 c1 e1] false) := by rw [← hh0]; simp
  have y1 : h1[h0.length]? = some (.cells Zak [.slice none 0 0 true, .slice none 0 0 true] false) := by rw [← hh1]; simp
  have z2 : h2[h1.length]? = some (.cells Zak [.slice none 0 0 true, .slice none 0 0 true] false) := by rw [← hh2]; simp
  have x2 := s2.get (s1.get x0 (by omega)) (by omega)
  have y2 := s2.get y1 (by omega)
  have S2 := (s0.cat s1).cat s2
  simp only [Nat.add_zero, Nat.zero_add, Zaq x2, List.getElem?_cons_zero, Zah]
  refine (Ybe (r.cls.same' S2) (by omega)).mono ?_
  rintro v h3 ⟨b0, d0, f0, rfl, s3, g3, hd0⟩
  simp only [Zah]
  have z3 := s3.get z2 (by omega)
  have x3 := s3.get x2 (by omega)
  have y3 := s3.get y2 (by omega)
  have l3 := s3.le
  rw [Yaw z3]
  simp only [Zaw]
  have x4 : (h3.set h1.length (.cells Zak [.slice b0 n0 d0 f0, .slice none 0 0 true] false))[h.length]? = some (.cells Zer [.slice a0 n0 c0 e0, .slice a1 n1 c1 e1] false) := by rw [Zcr (by omega)]; exact x3
  have y4 : (h3.set h1.length (.cells Zak [.slice b0 n0 d0 f0, .slice none 0 0 true] false))[h0.length]? = some (.cells Zak [.slice none 0 0 true, .slice none 0 0 true] false) := by rw [Zcr (by omega)]; exact y3
  have z4 : (h3.set h1.length (.cells Zak [.slice b0 n0 d0 f0, .slice none 0 0 true] false))[h1.length]? = some (.cells Zak [.slice b0 n0 d0 f0, .slice none 0 0 true] false) := Zdi z3
  have S4 : Zaz h.length h (h3.set h1.length (.cells Zak [.slice b0 n0 d0 f0, .slice none 0 0 true] false)) := (S2.cat s3).set' (by omega)
  have g4 : Zel Zbo eP (h.length + 3) (h3.set h1.length (.cells Zak [.slice b0 n0 d0 f0, .slice none 0 0 true] false)) b0 n0 w.cs := g3.keep (by omega) fun j hj _ => by rw [Zcr (by omega)]
  generalize hh4 : h3.set h1.length (.cells Zak [.slice b0 n0 d0 f0, .slice none 0 0 true] false) = h4 at *
  have l4 : h4.length = h3.length := by rw [← hh4]; simp
  simp only [Zaq x4, List.getElem?_cons_succ, List.getElem?_cons_zero, Zah]
  refine (Zwv (r.same S4) b).mono ?_
  rintro v h5 ⟨b1, d1, f1, ys, rfl, hd1, s5, g5, hyl, hrep, hsep, hnn⟩
  simp only [Zah]
  have l5 := s5.le
  have y5 := s5.get y4 (by omega)
  have z5 := s5.get z4 (by omega)
  rw [Zyv z5]
  simp only [Zaw]
  rw [Zbc (Zdi z5)]
  simp only [Zan, Zae, Zap, Zah]
  have y6 : (h5.set h1.length (.cells Zak [.slice b0 n0 d0 f0, .slice b1 n1 d1 f1] false))[h0.length]? = some (.cells Zak [.slice none 0 0 true, .slice none 0 0 true] false) := by rw [Zcr (by omega)]; exact y5
  rw [Ygo y6]
  simp only [Zaw]
  rw [Zbc (Zdi y6)]
  simp only [Zan, Zae, Zap, Zah]
  refine ⟨_, _, _, _, _, _, ys, rfl, hd0, hd1, ((S4.cat s5).set' (by omega)).set' (by omega), ?_⟩
  have kp : ∀ j, h.length + 3 ≤ j → j < h5.length → ((h5.set h1.length (.cells Zak [.slice b0 n0 d0 f0, .slice b1 n1 d1 f1] false)).set h0.length (.cells Zak [.slice b0 n0 d0 f0, .slice b1 n1 d1 f1] false))[j]? = h5[j]? := fun j hj _ => by rw [Zcr (by omega), Zcr (by omega)]
  exact ⟨(g4.same s5).keep (by omega) fun j hj hj2 => kp j hj hj2, g5.keep (by omega) fun j hj hj2 => kp j (by omega) hj2, hyl, fun k x i hx hi => by
    obtain ⟨p1, p2, p3⟩ := hrep k x i hx hi
    exact ⟨p1, p2, p3.keep (by omega) fun j hj hj2 => kp j (by omega) hj2⟩, hsep, hnn⟩

theorem Zyk {h : Zaa} {a a' : Pt} {n n' c c' : Nat} {e e' : Bool} {i : Ins} (r : Row h.length h a (n * 2) (Zff eP i.2)) (r' : Row h.length h a' (n' * 2) (Zff eP i.2)) (hn : n ≤ 1048576) :
    Zad pg Zka [.agg [.str i.1.1, .str i.1.2, .slice a n c e], .agg [.str i.1.1, .str i.1.2, .slice a' n' c' e']] h fun v h' => v = .bool true ∧ Zaz h.length h h' := by
  apply Zna.call
  simp only [Zax]
  generalize hh0 : h ++ [Zcn.cells Zas [.str i.1.1, .str i.1.2, .slice a n c e] false] = h0
  generalize hh1 : h0 ++ [Zcn.cells Zas [.str i.1.1, .str i.1.2, .slice a' n' c' e'] false] = h1
  have s0 : Zaz h.length h h0 := by rw [← hh0]; exact Zau
  have s1 : Zaz h0.length h0 h1 := by rw [← hh1]; exact Zau
  have x0 : h0[h.length]? = some (.cells Zas [.str i.1.1, .str i.1.2, .slice a n c e] false) := by rw [← hh0]; simp
  have y1 : h1[h0.length]? = some (.cells Zas [.str i.1.1, .str i.1.2, .slice a' n' c' e'] false) := by rw [← hh1]; simp
  have x1 := s1.get x0 (Own.lt x0)
  simp only [Nat.add_zero, Nat.zero_add]
  rw [Yio x1, Yio y1]
  simp only [Zan, Zae, Zap, Zaf]
  refine Yao.mono ?_
  rintro v h2 ⟨rfl, s2⟩
  simp only [Zai, decide_true, Bool.and_self, Bool.not_true, Zbd]
  simp only [Zaq (s2.get x1 (Own.lt x1)), Zaq (s2.get y1 (Own.lt y1)), List.getElem?_cons_succ, List.getElem?_cons_zero, Zah]
  have S2 := (s0.cat s1).cat s2
  refine (Zxd (r.same' S2) (r'.same' S2) (by omega) rfl).mono ?_
  rintro v h3 ⟨rfl, s3⟩
  simp only [Zai, Bool.not_true, Zbd]
  exact ⟨by trivial, S2.cat s3⟩
theorem Zwk {h : Zaa} {a a' x x' : Pt} {n n' c c' m m' d d' : Nat} {e e' : Bool} {w : Wd} (r : Zmi h x m d a n c w) (r' : Zmi h x' m' d' a' n' c' w) (b : WB w) :
    Zad pg Zjj [.slice a n c e, .slice a' n' c' e'] h fun v h' => v = .bool true ∧ Zaz h.length h h' := by
  have hl := r.len1
  have hl' := r'.len1
  have hli := b.li
  have : n' = n := by omega
  subst this
  apply Zfw.call
  simp only [beq_self_eq_true, Bool.not_true, Zbd]
  refine Zfw.L4ind _ _ _ _ _ _ _ _ _ (J := fun (k : Nat) x5 h' => Zaz h.length h h' ∧ x5 = (k : Int) ∧ k ≤ n') (fun k => n' - k) ?_ 0 0 h ⟨Zaz.refl _ _, rfl, by omega⟩
  rintro k x5 h' ⟨hs, rfl, hk⟩ R hR
  unfold Zfw.L4t
  refine Zal (fun hlt => ?_) (fun hge => Zfw.A4x0i _ _ ⟨rfl, hs⟩)
  obtain ⟨i, o, hgl, a2, n2, c2, e2, rfl, _, hr, _, _, _, hrow, hn⟩ := (r.same hs).inst (k := k) (by omega)
  obtain ⟨i', o', hgl', a2', n2', c2', e2', rfl, _, hr', _, _, _, hrow', hn'⟩ := (r'.same hs).inst (k := k) (by omega)
  have hb := b.is _ (List.getElem_mem hgl)
  simp only [Zav, Int.toNat_natCast, hr, hr', Zan, Zae, Zap, Zaf, Zah, true_and]
  refine ⟨⟨by omega, by omega⟩, ⟨by omega, by omega⟩, (Zyk (i := w.is[k]) hrow hrow' (by omega)).mono ?_⟩
  rintro v h1 ⟨rfl, s1⟩
  simp only [Zai, Bool.not_true, Zbd]
  rw [Zbm (by omega)]
  exact hR (k + 1) _ _ (by omega) ⟨hs.cat s1, rfl, by omega⟩
theorem Yet {h : Zaa} {a0 a1 b0 b1 : Pt} {n0 c0 n1 c1 m0 d0 m1 d1 : Nat} {e0 e1 f0 f1 : Bool} {w : Wd} (r : Zmi h a0 n0 c0 a1 n1 c1 w) (r' : Zmi h b0 m0 d0 b1 m1 d1 w) (b : WB w) :
    Zad pg Zmx [.agg [.slice a0 n0 c0 e0, .slice a1 n1 c1 e1], .agg [.slice b0 m0 d0 f0, .slice b1 m1 d1 f1]] h fun v h' => v = .bool true ∧ Zaz h.length h h' := by
  have hl := r.len0
  have hlc := b.lc
  apply Zqg.call
  simp only [Zax]
  generalize hh0 : h ++ [Zcn.cells Zak [.slice a0 n0 c0 e0, .slice a1 n1 c1 e1] false] = h0
  generalize hh1 : h0 ++ [Zcn.cells Zak [.slice b0 m0 d0 f0, .slice b1 m1 d1 f1] false] = h1
  have s0 : Zaz h.length h h0 := by rw [← hh0]; exact Zau
  have s1 : Zaz h0.length h0 h1 := by rw [← hh1]; exact Zau
  have x0 : h0[h.length]? = some (.cells Zak [.slice a0 n0 c0 e0, .slice a1 n1 c1 e1] false) := by rw [← hh0]; simp
  have y1 : h1[h0.length]? = some (.cells Zak [.slice b0 m0 d0 f0, .slice b1 m1 d1 f1] false) := by rw [← hh1]; simp
  have x1 := s1.get x0 (Own.lt x0)
  simp only [Nat.add_zero, Nat.zero_add, Zaq x1, Zaq y1, List.getElem?_cons_zero, Zah]
  have S1 := s0.cat s1
  refine (Ybc (r.cls.same' S1) (r'.cls.same' S1) (by omega) rfl).mono ?_
  rintro v h2 ⟨rfl, s2⟩
  simp only [Zai, Bool.not_true, Zbd, Zaq (s2.get x1 (Own.lt x1)), Zaq (s2.get y1 (Own.lt y1)), List.getElem?_cons_succ, List.getElem?_cons_zero, Zah]
  refine (Zwk (r.same (S1.cat s2)) (r'.same (S1.cat s2)) b).mono ?_
  rintro v h3 ⟨rfl, s3⟩
  simp only [Zai, Bool.not_true, Zbd]
  exact ⟨by trivial, (S1.cat s2).cat s3⟩
end Go.Sim

set_option linter.unusedVariables false
set_option linter.unusedSimpArgs false
set_option maxRecDepth 20000
namespace Go.Sim
open Go Go.RowKit

def Ymo (p : Nd) : Prop := Zqs p.1.length ∧ Zqs p.2.length ∧ (∀ b ∈ p.1, b < 256) ∧ ∀ b ∈ p.2, b < 256
theorem rd_pair {P : Program} {h : Zaa} {f : Nat} {e : TypeId} {f0 f1 : Field} {v : List Zar} {d : Dt} (he : P.underlying e = some (.struct #[f0, f1])) (h0 : P.underlying f0.type = some .string) (h1 : P.underlying f1.type = some .string) (hr : rd P h (f + 2) e v d) :
    ∃ p : Nd, v = eP p ∧ Ymo p := by
  unfold rd at hr
  rw [he] at hr
  obtain ⟨ds', vs', rfl, hd1, hd2, rfl, hall'⟩ := hr
  match vs', ds', hd2, hd1 with
  | [u, w], [x, y], _, _ =>
    have g0 := (hall' 0 f0 u x rfl rfl rfl).2
    have g1 := (hall' 1 f1 w y rfl rfl rfl).2
    simp only [rd, h0] at g0
    simp only [rd, h1] at g1
    obtain ⟨s, rfl, _, hs1, hs2⟩ := g0
    obtain ⟨t, rfl, _, ht1, ht2⟩ := g1
    exact ⟨(s, t), rfl, hs1, ht1, hs2, ht2⟩
theorem Yic {P : Program} {h : Zaa} {f : Nat} {e : TypeId} {α : Type} {enc : α → List Zar} {G : α → Prop} (el : ∀ v d, rd P h f e v d → ∃ x : α, v = enc x ∧ G x) :
    ∀ (vs : List (List Zar)) (ds : List Dt), ds.length = vs.length → (∀ (i : Nat) (v : List Zar) (x : Dt), vs[i]? = some v → ds[i]? = some x → v.length = P.cellsOf e ∧ rd P h f e v x) →
    ∃ l : List α, l.length = vs.length ∧ vs.flatten = Zff enc l ∧ ∀ x ∈ l, G x
  | [], _, _, _ => ⟨[], rfl, rfl, by simp⟩
  | v :: vs, [], h, _ => by simp at h
  | v :: vs, d :: ds, hl, hall => by
    obtain ⟨l, hll, hfl, hs⟩ := Yic el vs ds (by simpa using hl) fun i v x hv hx => hall (i + 1) v x (by simpa using hv) (by simpa using hx)
    obtain ⟨x, rfl, hx⟩ := el v d (hall 0 v d rfl rfl).2
    exact ⟨x :: l, by simp [hll], by simp [hfl], fun y hy => (List.mem_cons.1 hy).elim (fun e => e ▸ hx) (hs y)⟩
theorem Yhl {P : Program} {h : Zaa} {f : Nat} {t e : TypeId} {α : Type} {enc : α → List Zar} {G : α → Prop} {cs : List Zar} {d : Dt} (ht : P.underlying t = some (.slice e)) (el : ∀ v d, rd P h f e v d → ∃ x : α, v = enc x ∧ G x) (hr : rd P h (f + 1) t cs d) :
    ∃ a n c ex, ∃ l : List α, cs = [.slice a n c ex] ∧ Row h.length h a (n * P.cellsOf e) (Zff enc l) ∧ Zqs n ∧ l.length = n ∧ ∀ x ∈ l, G x := by
  unfold rd at hr
  rw [ht] at hr
  obtain ⟨a, n, c, ex, ds, vs, rfl, rfl, hdl, hn, hvl, hrow, hall⟩ := hr
  obtain ⟨l, hll, hfl, hs⟩ := Yic el vs ds (by omega) hall
  rw [hfl] at hrow
  exact ⟨a, n, c, ex, l, rfl, hrow, hn, by omega, hs⟩
theorem rd_pairs {P : Program} {h : Zaa} {f : Nat} {t e : TypeId} {f0 f1 : Field} {cs : List Zar} {d : Dt} (ht : P.underlying t = some (.slice e)) (he : P.underlying e = some (.struct #[f0, f1])) (h0 : P.underlying f0.type = some .string) (h1 : P.underlying f1.type = some .string) (hc : P.cellsOf e = 2)
    (hr : rd P h (f + 3) t cs d) : ∃ a n c ex, ∃ l : List Nd, cs = [.slice a n c ex] ∧ Row h.length h a (n * 2) (Zff eP l) ∧ Zqs n ∧ l.length = n ∧ ∀ p ∈ l, Ymo p := by
  have := Yhl (enc := eP) (G := Ymo) ht (fun v d hr => rd_pair he h0 h1 hr) hr
  rwa [hc] at this
def Ypx (h : Zaa) (x : EI) : Prop := ∃ i : Ins, Ynz h x i ∧ Ymo i.1 ∧ Zqs i.2.length ∧ ∀ p ∈ i.2, Ymo p
theorem Ynx {P : Program} {h : Zaa} {f : Nat} {ti tn ts : TypeId} {g0 g1 f0 f1 : Field} {v : List Zar} {d : Dt} (hi : P.underlying ti = some (.struct #[g0, g1])) (hg0 : g0.type = tn) (hg1 : g1.type = ts)
    (he : P.underlying tn = some (.struct #[f0, f1])) (h0 : P.underlying f0.type = some .string) (h1 : P.underlying f1.type = some .string) (hc : P.cellsOf tn = 2) (ht : P.underlying ts = some (.slice tn)) (hr : rd P h (f + 4) ti v d) :
    ∃ x : EI, v = eN x ∧ Ypx h x := by
  unfold rd at hr
  rw [hi] at hr
  obtain ⟨ds', vs', rfl, hd1, hd2, rfl, hall'⟩ := hr
  match vs', ds', hd2, hd1 with
  | [u, w], [x, y], _, _ =>
    have k0 := (hall' 0 g0 u x rfl rfl rfl).2
    have k1 := (hall' 1 g1 w y rfl rfl rfl).2
    rw [hg0] at k0
    rw [hg1] at k1
    obtain ⟨p, rfl, hp⟩ := rd_pair (f := f + 1) he h0 h1 k0
    obtain ⟨a, n, c, ex, l, rfl, hrow, hn, hll, hl⟩ := rd_pairs (f := f) ht he h0 h1 hc k1
    exact ⟨⟨p.1, p.2, a, n, c, ex⟩, rfl, (p, l), ⟨rfl, rfl, hrow⟩, hp, by rw [hll]; exact hn, hl⟩
theorem Zwe {h : Zaa} : ∀ {xs : List EI}, (∀ x ∈ xs, Ypx h x) → ∃ is : List Ins, Yjv h xs is ∧ ∀ i ∈ is, Ymo i.1 ∧ Zqs i.2.length ∧ ∀ p ∈ i.2, Ymo p
  | [], _ => ⟨[], ⟨rfl, by simp⟩, by simp⟩
  | x :: xs, hx => by
    obtain ⟨is, ⟨hl, hr⟩, hb⟩ := Zwe (xs := xs) fun y hy => hx y (by simp [hy])
    obtain ⟨i, hi, hib⟩ := hx x (by simp)
    refine ⟨i :: is, ⟨by simp [hl], fun k y j hy hj => ?_⟩, fun j hj => (List.mem_cons.1 hj).elim (fun e => e ▸ hib) (hb j)⟩
    cases k with
    | zero => simp at hy hj; subst hy; subst hj; exact hi
    | succ k => simp at hy hj; exact hr k y j hy hj
theorem rd_world {P : Program} {h : Zaa} {f : Nat} {tw tc tcs ti tis tn ts : TypeId} {w0 w1 q0 q1 g0 g1 f0 f1 : Field} {cs : List Zar} {d : Dt} (hw : P.underlying tw = some (.struct #[w0, w1])) (hw0 : w0.type = tcs) (hw1 : w1.type = tis)
    (hcs : P.underlying tcs = some (.slice tc)) (hct : P.underlying tc = some (.struct #[q0, q1])) (hq0 : P.underlying q0.type = some .string) (hq1 : P.underlying q1.type = some .string) (hcc : P.cellsOf tc = 2)
    (his : P.underlying tis = some (.slice ti)) (hic : P.cellsOf ti = 3) (hi : P.underlying ti = some (.struct #[g0, g1])) (hg0 : g0.type = tn) (hg1 : g1.type = ts)
    (he : P.underlying tn = some (.struct #[f0, f1])) (h0 : P.underlying f0.type = some .string) (h1 : P.underlying f1.type = some .string) (hc : P.cellsOf tn = 2) (ht : P.underlying ts = some (.slice tn)) (hr : rd P h (f + 6) tw cs d) :
    ∃ a0 n0 c0 e0 a1 n1 c1 e1, ∃ w : Wd, cs = [.slice a0 n0 c0 e0, .slice a1 n1 c1 e1] ∧ (n0 ≤ c0 → n1 ≤ c1 → Zmi h a0 n0 c0 a1 n1 c1 w) ∧ Yos w := by
  unfold rd at hr
  rw [hw] at hr
  obtain ⟨ds', vs', rfl, hd1, hd2, rfl, hall'⟩ := hr
  match vs', ds', hd2, hd1 with
  | [u, v], [x, y], _, _ =>
    have k0 := (hall' 0 w0 u x rfl rfl rfl).2
    have k1 := (hall' 1 w1 v y rfl rfl rfl).2
    rw [hw0] at k0
    rw [hw1] at k1
    obtain ⟨a0, n0, c0, e0, l0, rfl, hrow0, hn0, hl0, hb0⟩ := rd_pairs (f := f + 2) hcs hct hq0 hq1 hcc k0
    obtain ⟨a1, n1, c1, e1, l1, rfl, hrow1, hn1, hl1, hb1⟩ := Yhl (f := f + 4) (enc := eN) (G := Ypx h) his (fun v d hr => Ynx hi hg0 hg1 he h0 h1 hc ht hr) k1
    rw [hic] at hrow1
    obtain ⟨is, hrep, hib⟩ := Zwe hb1
    refine ⟨a0, n0, c0, e0, a1, n1, c1, e1, ⟨l0, is⟩, rfl, fun k0 k1 => ⟨hrow0, ⟨l1, hrow1, hrep⟩, k0, k1⟩, ?_⟩
    refine ⟨by rw [show (Wd.mk l0 is).cs.length = n0 from hl0]; exact hn0, ?_, fun p hp => ⟨(hb0 p hp).1, (hb0 p hp).2.1, (hb0 p hp).2.2.1⟩, fun i hi => ?_⟩
    · have : is.length = n1 := by have := hrep.1; omega
      show Zqs is.length
      rw [this]; exact hn1
    · obtain ⟨p1, p2, p3⟩ := hib i hi
      exact ⟨p1.1, p1.2.1, p2, fun p hp => ⟨(p3 p hp).1, (p3 p hp).2.1⟩⟩

end Go.Sim

set_option linter.unusedVariables false
set_option linter.unusedSimpArgs false
set_option maxRecDepth 20000
namespace Go.Sim
open Go Go.RowKit

theorem Ty.size_ps (t : Ty) : t.size = 1 + (t.ps.map Ty.size).sum := by cases t <;> simp [Ty.size, Ty.ps] <;> omega
theorem Zhp.same {S : Nat → Prop} {h h' : Zaa} (s : Zaz h.length h h') : ∀ {t : Ty} {v : List Zar}, Zhp S h t v → Zhp S h' t v
  | .k d, _, h => h
  | .u d x, _, ⟨j, c, e, r, hv, sj, hj, hr⟩ => ⟨j, c, e, r, hv, sj, s.get hj (Own.lt hj), hr.same s⟩
  | .w d x y, _, ⟨j, c, e, r, r', hv, sj, hj, hr, hr'⟩ => ⟨j, c, e, r, r', hv, sj, s.get hj (Own.lt hj), hr.same s, hr'.same s⟩
end Go.Sim

set_option linter.unusedVariables false
set_option linter.unusedSimpArgs false
set_option maxRecDepth 20000
namespace Go.Sim
open Go Go.RowKit

theorem Ynl : pg.underlying Yje = some (.slice Zto) := by kernel_rfl
theorem Yqf : pg.cellsOf Zto = 1 := by kernel_rfl
theorem Ypy : pg.okElem Zto = true := by kernel_rfl
theorem Yqb : pg.bytesOf Zto ≤ 127 := Nat.le_of_ble_eq_true (by kernel_rfl)
def ixs {α : Type} (f : α → Bool) (l : List α) : List Int := (l.zipIdx.filter fun p => f p.1).map fun p => (p.2 : Int)
theorem Ylz {α : Type} (f : α → Bool) {l : List α} {g : Nat} (h : g < l.length) : ixs f (l.take (g + 1)) = ixs f (l.take g) ++ if f l[g] then [(g : Int)] else [] := by
  unfold ixs
  rw [List.take_succ_eq_append_getElem h, List.zipIdx_append, List.filter_append, List.map_append]
  congr 1
  simp only [List.length_take, Nat.min_eq_left (by omega : g ≤ l.length), Nat.zero_add, List.zipIdx_singleton, List.filter_cons, List.filter_nil]
  split <;> simp
theorem Yih {α : Type} (f : α → Bool) (l : List α) : (ixs f l).length ≤ l.length := by
  unfold ixs; rw [List.length_map]; exact Nat.le_trans (List.length_filter_le _ _) (by simp)
theorem fa1 {j o : Nat} {K : Zar → Prop} : Zkj pg Zaj (.ptr (some (j, o))) 1 K = K (.ptr (some (j, o + 1))) := by kernel_rfl
end Go.Sim

set_option linter.unusedVariables false
set_option linter.unusedSimpArgs false
set_option maxRecDepth 20000
namespace Go.Sim
open Go Go.RowKit

end Go.Sim

set_option linter.unusedSimpArgs false
set_option linter.unusedVariables false
namespace Go.Sim

def Up (cs : List Nd) (a b : Nat) : Prop := ∃ i, ∃ h : i < cs.length, cs[i].1 = [a] ∧ b ∈ cs[i].2
inductive Rch (cs : List Nd) (a : Nat) : Nat → Prop
  | one {b : Nat} : Up cs a b → Rch cs a b
  | more {b c : Nat} : Rch cs a b → Up cs b c → Rch cs a c
open Classical in
noncomputable def Ygq (cs : List Nd) (a : Nat) : List Nat := (List.range' 65 20).filter fun d => decide (Rch cs a d)

theorem Zyu {cs : List Nd} (h : Zgy cs = true) {i : Nat} (hi : i < cs.length) : Zwm cs i = true := by
  unfold Zgy at h
  simp only [Bool.and_eq_true, List.all_eq_true] at h
  exact h.1 i (List.mem_range.2 hi)
theorem Zmp {cs : List Nd} (h : Zgy cs = true) {i : Nat} (hi : i < cs.length) : ∃ d, cs[i].1 = [d] ∧ 65 ≤ d ∧ d ≤ 84 := by
  have := Zyu h hi
  unfold Zwm at this
  rw [Zea hi] at this
  simp only [Bool.and_eq_true] at this
  have h1 := this.1.1
  unfold Zsy at h1
  split at h1
  · rename_i d hd; exact ⟨d, hd, by simpa using h1⟩
  · cases h1
theorem Zzh {cs : List Nd} (h : Zgy cs = true) {i : Nat} (hi : i + 1 < cs.length) {a b : Nat} (ha : cs[i].1 = [a]) (hb : cs[i + 1].1 = [b]) : a < b := by
  have := Zyu h hi
  unfold Zwm at this
  rw [Zea hi, Nat.add_sub_cancel, Zea (by omega), ha, hb] at this
  simp only [Bool.and_eq_true] at this
  have h1 := this.1.2
  simpa [Zdv] using h1
theorem Zua {cs : List Nd} (h : Zgy cs = true) : ∀ (k i : Nat) (hi : i + k + 1 < cs.length) {a b : Nat}, cs[i].1 = [a] → cs[i + k + 1].1 = [b] → a < b
  | 0, i, hi, a, b, ha, hb => Zzh h hi ha hb
  | k + 1, i, hi, a, b, ha, hb => by
    obtain ⟨d, hd, _⟩ := Zmp h (show i + k + 1 < cs.length by omega)
    have h1 := Zua h k i (by omega) ha hd
    have h2 := Zzh h (i := i + k + 1) (by omega) hd hb
    omega
theorem Zvl {cs : List Nd} (h : Zgy cs = true) {i j : Nat} (hi : i < cs.length) (hj : j < cs.length) {a : Nat} (ha : cs[i].1 = [a]) (hb : cs[j].1 = [a]) : i = j := by
  rcases Nat.lt_trichotomy i j with hl | he | hl
  · obtain ⟨k, rfl⟩ : ∃ k, j = i + k + 1 := ⟨j - i - 1, by omega⟩
    have := Zua h k i hj ha hb; omega
  · exact he
  · obtain ⟨k, rfl⟩ : ∃ k, i = j + k + 1 := ⟨i - j - 1, by omega⟩
    have := Zua h k j hi hb ha; omega
theorem Zoz {cs : List Nd} (h : Zgy cs = true) {i : Nat} (hi : i < cs.length) {b : Nat} (hb : b ∈ cs[i].2) : ∃ j, ∃ hj : j < i, cs[j].1 = [b] := by
  have := Zyu h hi
  unfold Zwm at this
  rw [Zea hi] at this
  simp only [Bool.and_eq_true] at this
  have h1 := this.2
  unfold Zzm at h1
  rw [List.all_eq_true] at h1
  obtain ⟨k, hk, rfl⟩ := List.mem_iff_getElem.1 hb
  have h2 := h1 k (List.mem_range.2 hk)
  unfold Zwp at h2
  rw [Zea hk] at h2
  simp only [Bool.and_eq_true] at h2
  have h3 := h2.1
  unfold Zet at h3
  rw [List.any_eq_true] at h3
  obtain ⟨x, hx, he⟩ := h3
  obtain ⟨j, hj, rfl⟩ := List.mem_iff_getElem.1 hx
  rw [List.length_take] at hj
  exact ⟨j, by omega, by simpa using he⟩
theorem Up.ix {cs : List Nd} (h : Zgy cs = true) {a b i : Nat} (u : Up cs a b) (hi : i < cs.length) (ha : cs[i].1 = [a]) : b ∈ cs[i].2 := by
  obtain ⟨j, hj, hja, hb⟩ := u
  have := Zvl h hi hj ha hja
  subst this; exact hb
theorem Rch.ix {cs : List Nd} (h : Zgy cs = true) {a b i : Nat} (r : Rch cs a b) (hi : i < cs.length) (ha : cs[i].1 = [a]) : ∃ j, ∃ hj : j < i, cs[j].1 = [b] := by
  induction r with
  | one u => exact Zoz h hi (u.ix h hi ha)
  | more _ u ih =>
    obtain ⟨j, hj, hb⟩ := ih
    obtain ⟨k, hk, hc⟩ := Zoz h (show j < cs.length by omega) (u.ix h (by omega) hb)
    exact ⟨k, by omega, hc⟩
theorem Zwf : ∀ {l m : List Nat}, l.Pairwise (· < ·) → m.Pairwise (· < ·) → (∀ x, x ∈ l ↔ x ∈ m) → l = m
  | [], [], _, _, _ => rfl
  | [], y :: m, _, _, h => by have := (h y).2 (by simp); simp at this
  | x :: l, [], _, _, h => by have := (h x).1 (by simp); simp at this
  | x :: l, y :: m, hl, hm, h => by
    have hl' := List.pairwise_cons.1 hl
    have hm' := List.pairwise_cons.1 hm
    have hxy : x = y := by
      have h1 := (h x).1 (by simp)
      have h2 := (h y).2 (by simp)
      rcases List.mem_cons.1 h1 with e | h1
      · exact e
      · rcases List.mem_cons.1 h2 with e | h2
        · exact e.symm
        · have := hm'.1 x h1; have := hl'.1 y h2; omega
    subst hxy
    congr 1
    refine Zwf hl'.2 hm'.2 fun z => ?_
    constructor
    · intro hz
      have h1 := (h z).1 (by simp [hz])
      rcases List.mem_cons.1 h1 with e | h1
      · subst e; have := hl'.1 z hz; omega
      · exact h1
    · intro hz
      have h1 := (h z).2 (by simp [hz])
      rcases List.mem_cons.1 h1 with e | h1
      · subst e; have := hm'.1 z hz; omega
      · exact h1
theorem Zvv (cs : List Nd) (a : Nat) : (Ygq cs a).Pairwise (· < ·) := by
  unfold Ygq
  exact List.Pairwise.filter _ (by decide)
theorem Yeh {cs : List Nd} (h : Zgy cs = true) {i a : Nat} (hi : i < cs.length) (ha : cs[i].1 = [a]) (d : Nat) : d ∈ Ygq cs a ↔ Rch cs a d := by
  unfold Ygq
  rw [List.mem_filter]
  constructor
  · rintro ⟨_, h2⟩; simpa using h2
  · intro r
    refine ⟨?_, by simpa using r⟩
    obtain ⟨j, hj, hd⟩ := r.ix h hi ha
    obtain ⟨e, he, h1, h2⟩ := Zmp h (show j < cs.length by omega)
    rw [hd] at he
    cases he
    rw [List.mem_range']
    exact ⟨d - 65, by omega, by omega⟩
structure Ztc (cs : List Nd) (a : Nat) (i : Nat) (ab : List Nat) : Prop where
  sound : ∀ d ∈ ab, Rch cs a d
  done : ∀ j, i ≤ j → ∀ hj : j < cs.length, (cs[j].1 = [a] ∨ ∃ d, cs[j].1 = [d] ∧ d ∈ ab) → ∀ b ∈ cs[j].2, b ∈ ab
theorem Ztc.start {cs : List Nd} {a : Nat} : Ztc cs a cs.length [] := ⟨by simp, fun j h1 h2 => by omega⟩
theorem Ztc.step {cs : List Nd} (h : Zgy cs = true) {a i : Nat} {ab : List Nat} (D : Ztc cs a (i + 1) ab) (hi : i < cs.length) (hc : cs[i].1 = [a] ∨ ∃ d, cs[i].1 = [d] ∧ d ∈ ab) : Ztc cs a i (ab ++ cs[i].2) := by
  refine ⟨fun d hd => ?_, fun j hj hjl hcj b hb => ?_⟩
  · rcases List.mem_append.1 hd with hd | hd
    · exact D.sound d hd
    · rcases hc with hc | ⟨e, he, hm⟩
      · exact .one ⟨i, hi, hc, hd⟩
      · exact .more (D.sound e hm) ⟨i, hi, he, hd⟩
  · by_cases hji : j = i
    · subst hji; exact List.mem_append_right _ hb
    · refine List.mem_append_left _ (D.done j (by omega) hjl ?_ b hb)
      rcases hcj with hcj | ⟨e, he, hm⟩
      · exact .inl hcj
      · rcases List.mem_append.1 hm with hm | hm
        · exact .inr ⟨e, he, hm⟩
        · exfalso
          obtain ⟨k, hk, hke⟩ := Zoz h hi hm
          have := Zvl h hjl (show k < cs.length by omega) he hke
          omega
theorem Ztc.skip {cs : List Nd} {a i : Nat} {ab : List Nat} (D : Ztc cs a (i + 1) ab) (hc : ∀ hi : i < cs.length, ¬ (cs[i].1 = [a] ∨ ∃ d, cs[i].1 = [d] ∧ d ∈ ab)) : Ztc cs a i ab :=
  ⟨D.sound, fun j hj hjl hcj b hb => by
    by_cases hji : j = i
    · subst hji; exact absurd hcj (hc hjl)
    · exact D.done j (by omega) hjl hcj b hb⟩
theorem Ztc.all {cs : List Nd} (h : Zgy cs = true) {a i : Nat} {ab : List Nat} (D : Ztc cs a 0 ab) (hi : i < cs.length) (ha : cs[i].1 = [a]) (d : Nat) : d ∈ ab ↔ Rch cs a d := by
  refine ⟨D.sound d, fun r => ?_⟩
  induction r with
  | one u => exact D.done i (by omega) hi (.inl ha) _ (u.ix h hi ha)
  | more r u ih =>
    obtain ⟨j, hj, hb⟩ := r.ix h hi ha
    exact D.done j (by omega) (by omega) (.inr ⟨_, hb, ih⟩) _ (u.ix h (by omega) hb)
structure Yku (cs : List Nd) (a i : Nat) (r : Nat) (ab : List Nat) : Prop where
  sound : ∀ d ∈ ab, Rch cs a d
  first : ∀ d, Up cs a d → d ∈ ab
  near : ∀ j, j < i → i ≤ j + 1 + r → ∀ hj : j < cs.length, ∀ d, cs[j].1 = [d] → Rch cs a d → d ∈ ab
theorem Yku.start {cs : List Nd} (h : Zgy cs = true) {a i : Nat} (hi : i < cs.length) (ha : cs[i].1 = [a]) : Yku cs a i 0 cs[i].2 := by
  refine ⟨fun d hd => .one ⟨i, hi, ha, hd⟩, fun d u => u.ix h hi ha, fun j hj hn hjl d hd r => ?_⟩
  cases r with
  | one u => exact u.ix h hi ha
  | more r u =>
    obtain ⟨k, hk, hb⟩ := r.ix h hi ha
    obtain ⟨q, hq, hc⟩ := Zoz h (show k < cs.length by omega) (u.ix h (by omega) hb)
    have := Zvl h hjl (show q < cs.length by omega) hd hc
    omega
theorem Yku.next {cs : List Nd} (h : Zgy cs = true) {a i r : Nat} {ab ab' : List Nat} (R : Yku cs a i r ab) (hi : i < cs.length) (ha : cs[i].1 = [a])
    (hs : ∀ d ∈ ab', d ∈ ab ∨ ∃ e ∈ ab, Up cs e d) (hc : ∀ d, (d ∈ ab ∨ ∃ e ∈ ab, Up cs e d) → d ∈ ab') : Yku cs a i (r + 1) ab' := by
  refine ⟨fun d hd => ?_, fun d u => hc d (.inl (R.first d u)), fun j hj hn hjl d hd rc => ?_⟩
  · rcases hs d hd with hd | ⟨e, he, u⟩
    · exact R.sound d hd
    · exact .more (R.sound e he) u
  · cases rc with
    | one u => exact hc d (.inl (R.first d u))
    | more rc u =>
      rename_i e
      obtain ⟨k, hk, hb⟩ := rc.ix h hi ha
      have hjk : j < k := by
        obtain ⟨q, hq, hcq⟩ := Zoz h (show k < cs.length by omega) (u.ix h (by omega) hb)
        have := Zvl h hjl (show q < cs.length by omega) hd hcq
        omega
      exact hc d (.inr ⟨e, R.near k hk (by omega) (by omega) e hb rc, u⟩)
theorem Yku.all {cs : List Nd} (h : Zgy cs = true) {a i r : Nat} {ab : List Nat} (R : Yku cs a i r ab) (hi : i < cs.length) (ha : cs[i].1 = [a]) (hr : i ≤ r + 1) (d : Nat) : d ∈ ab ↔ Rch cs a d := by
  refine ⟨R.sound d, fun rc => ?_⟩
  obtain ⟨j, hj, hd⟩ := rc.ix h hi ha
  exact R.near j hj (by omega) (by omega) d hd rc
end Go.Sim

set_option linter.unusedVariables false
set_option linter.unusedSimpArgs false
set_option maxRecDepth 20000
namespace Go.Sim
open Go Go.RowKit

theorem Ybm {h : Zaa} {a0 a1 : Pt} {n0 c0 n1 c1 : Nat} {e0 e1 : Bool} {w : Wd} {s : List Nat} (r : Zmi h a0 n0 c0 a1 n1 c1 w) (b : WB w) :
    Zad pg Zlv [.agg [.slice a0 n0 c0 e0, .slice a1 n1 c1 e1], .str s] h fun v h' => v = .bool (Zfl w && Zet w.cs s) ∧ Zaz h.length h h' := by
  have hl0 := r.len0
  have hlc := b.lc
  apply Zpk.call
  simp only [Zax]
  generalize hh0 : h ++ [Zcn.cells Zak [.slice a0 n0 c0 e0, .slice a1 n1 c1 e1] false] = h0
  have s0 : Zaz h.length h h0 := by rw [← hh0]; exact Zau
  have w0 : h0[h.length]? = some (Zns a0 n0 c0 e0 a1 n1 c1 e1) := by rw [← hh0]; simp [Zns]
  rw [Zsg w0]
  simp only [Zan, Zae, Zap, Zah]
  refine (Zru (r.same s0) b).mono ?_
  rintro v h2 ⟨rfl, s2⟩
  have w2 := s2.get w0 (Own.lt w0)
  simp only [Zai]
  refine Zdu (fun b1 => ?_) (fun b1 => ⟨by rw [b1]; rfl, s0.cat s2⟩)
  simp only [Zph w2, Nat.zero_add, List.getElem?_cons_zero, Zah]
  refine (Zrx (r.cls.same' (s0.cat s2)) (by omega)).mono ?_
  rintro v h3 ⟨rfl, s3⟩
  simp only [Zai]
  exact ⟨by rw [b1]; rfl, (s0.cat s2).cat s3⟩
theorem Yai {h : Zaa} {a0 a1 : Pt} {n0 c0 n1 c1 : Nat} {e0 e1 : Bool} {w : Wd} {s : List Nat} (r : Zmi h a0 n0 c0 a1 n1 c1 w) (b : WB w) :
    Zad pg Zlx [.agg [.slice a0 n0 c0 e0, .slice a1 n1 c1 e1], .str s] h fun v h' => v = .bool (Zfl w && Zet w.cs s) ∧ Zaz h.length h h' := by
  have hl0 := r.len0
  have hlc := b.lc
  apply Zpg.call
  simp only [Zax]
  generalize hh0 : h ++ [Zcn.cells Zak [.slice a0 n0 c0 e0, .slice a1 n1 c1 e1] false] = h0
  have s0 : Zaz h.length h h0 := by rw [← hh0]; exact Zau
  have w0 : h0[h.length]? = some (Zns a0 n0 c0 e0 a1 n1 c1 e1) := by rw [← hh0]; simp [Zns]
  rw [Zsg w0]
  simp only [Zan, Zae, Zap, Zah]
  refine (Zmv (r.same s0) b).mono ?_
  rintro v h2 ⟨rfl, s2⟩
  have w2 := s2.get w0 (Own.lt w0)
  simp only [Zai]
  refine Zdu (fun b1 => ?_) (fun b1 => ⟨by rw [b1]; rfl, s0.cat s2⟩)
  rw [Zsg w2]
  simp only [Zan, Zae, Zap, Zah]
  refine (Zkb (r.cls.same' (s0.cat s2)) (by omega)).mono ?_
  rintro v h3 ⟨rfl, s3⟩
  simp only [Zao, Zzf]
  exact ⟨by rw [b1]; rfl, (s0.cat s2).cat s3⟩
noncomputable def Zdb (w : Wd) (s : List Nat) : List Nat := if Zfl w && Zet w.cs s then Ygq w.cs (s.headD 0) else []
theorem Zuy {w : Wd} (h : Zfl w = true) : Zgy w.cs = true := by
  unfold Zfl at h; simp only [Bool.and_eq_true] at h; exact h.1.1
theorem Ydf {cs : List Nd} (h : Zgy cs = true) {s : List Nat} (k : Zet cs s = true) : ∃ i, ∃ hi : i < cs.length, ∃ a, s = [a] ∧ cs[i].1 = [a] := by
  unfold Zet at k
  rw [List.any_eq_true] at k
  obtain ⟨x, hx, he⟩ := k
  obtain ⟨i, hi, rfl⟩ := List.mem_iff_getElem.1 hx
  obtain ⟨d, hd, _⟩ := Zmp h hi
  exact ⟨i, hi, d, by rw [← hd]; exact (by simpa using he : cs[i].1 = s).symm, hd⟩
def Ykc (cs : List Nd) : List Nat := cs.map fun p => p.1.headD 0
theorem Ycx {cs : List Nd} (h : Zgy cs = true) : (Ykc cs).Pairwise (· < ·) := by
  rw [List.pairwise_iff_getElem]
  intro i j hi hj hij
  simp only [Ykc, List.length_map] at hi hj
  obtain ⟨a, ha, _⟩ := Zmp h hi
  obtain ⟨b, hb, _⟩ := Zmp h hj
  simp only [Ykc, List.getElem_map, ha, hb, List.headD_cons]
  obtain ⟨k, rfl⟩ : ∃ k, j = i + k + 1 := ⟨j - i - 1, by omega⟩
  exact Zua h k i hj ha hb
theorem Ykr {cs : List Nd} (h : Zgy cs = true) {i a : Nat} (hi : i < cs.length) (ha : cs[i].1 = [a]) {ab : List Nat} (hab : ∀ d, d ∈ ab ↔ Rch cs a d) : (Ykc cs).filter (fun d => decide (d ∈ ab)) = Ygq cs a := by
  refine Zwf ((Ycx h).filter _) (Zvv cs a) fun x => ?_
  rw [Yeh h hi ha, List.mem_filter]
  constructor
  · rintro ⟨_, h2⟩; exact (hab x).1 (by simpa using h2)
  · intro r
    obtain ⟨j, hj, hd⟩ := r.ix h hi ha
    refine ⟨?_, by simpa using (hab x).2 r⟩
    unfold Ykc
    rw [List.mem_map]
    exact ⟨cs[j], List.getElem_mem (by omega), by rw [hd]; rfl⟩
theorem Ycc {h : Zaa} {a0 a1 : Pt} {n0 c0 n1 c1 : Nat} {e0 e1 : Bool} {w : Wd} {s : List Nat} (r : Zmi h a0 n0 c0 a1 n1 c1 w) (b : WB w) :
    Zad pg Zls [.agg [.slice a0 n0 c0 e0, .slice a1 n1 c1 e1], .str s] h fun v h' => v = .str (Zdb w s) ∧ Zaz h.length h h' := by
  have hl0 := r.len0
  have hlc := b.lc
  apply Zde.call
  simp only [Zax]
  generalize hh0 : h ++ [Zcn.cells Zak [.slice a0 n0 c0 e0, .slice a1 n1 c1 e1] false] = h0
  have s0 : Zaz h.length h h0 := by rw [← hh0]; exact Zau
  have w0 : h0[h.length]? = some (Zns a0 n0 c0 e0 a1 n1 c1 e1) := by rw [← hh0]; simp [Zns]
  rw [Zsg w0]
  simp only [Zan, Zae, Zap, Zah]
  refine (Ybm (r.same s0) b).mono ?_
  rintro v h2 ⟨rfl, s2⟩
  have S2 := s0.cat s2
  have w2 := s2.get w0 (Own.lt w0)
  simp only [Zai]
  refine Zbs (fun b1 => ⟨by unfold Zdb; rw [b1]; rfl, S2⟩) (fun b1 => ?_)
  simp only [Bool.and_eq_true] at b1
  have hc := Zuy b1.1
  obtain ⟨i, hi, a, rfl, ha⟩ := Ydf hc b1.2
  have hsw : Zdb w [a] = Ygq w.cs a := by unfold Zdb; rw [b1.1, b1.2]; rfl
  rw [hsw]
  simp only [Zph w2, Nat.zero_add, List.getElem?_cons_zero, Zah]
  rw [IntWalk.i64_in _ (by omega)]
  refine Zde.L5ind _ _ _ _ (J := fun (g : Nat) x5 x6 h' => x6 = (g : Int) - 1 ∧ g ≤ n0 ∧ Zaz h2.length h2 h' ∧ Ztc w.cs a g x5 ∧ x5.length ≤ (n0 - g) * 1048576) (fun g => g) ?_ n0 _ _ _ ⟨rfl, by omega, Zaz.refl _ _, by rw [← hl0]; exact Ztc.start, by simp⟩
  rintro g x5 x6 h' ⟨rfl, hg, hS, hD, hlen⟩ R hR
  have w3 := hS.get w2 (Own.lt w2)
  have S3 := S2.cat hS
  unfold Zde.L5t
  refine Zal (fun hge => ?_) (fun hlt => ?_)
  · obtain ⟨g, rfl⟩ : ∃ q, g = q + 1 := ⟨g - 1, by omega⟩
    have e1 : (((g + 1 : Nat) : Int) - 1) = (g : Int) := by omega
    rw [e1]
    obtain ⟨i', o', hgl, rfl, _, hr, _⟩ := (r.cls.same' S3).pr (k := g) (by omega)
    simp only [Nat.zero_add, Zph w3, List.getElem?_cons_zero, Zah, Zav, Int.toNat_natCast, hr, Zan, Zae, Zap, Zaf, Zax]
    rw [Zgd]
    simp only [Zaw]
    generalize hq : h' ++ [Zcn.cells Zbo [.str w.cs[g].1, .str w.cs[g].2] false] = hq'
    have sq : Zaz h'.length h' hq' := by rw [← hq]; exact Zau
    have iq : hq'[h'.length]? = some (.cells Zbo [.str w.cs[g].1, .str w.cs[g].2] false) := by rw [← hq]; simp
    simp only [Zaq iq, List.getElem?_cons_zero, List.getElem?_cons_succ, Zaf]
    have hbl := (b.cs _ (List.getElem_mem hgl)).2.1
    have hmul : (n0 - (g + 1)) * 1048576 + 1048576 = (n0 - g) * 1048576 := by rw [show n0 - g = (n0 - (g + 1)) + 1 by omega, Nat.succ_mul]
    have hcap : (n0 - g) * 1048576 ≤ 1048576 * 1048576 := Nat.mul_le_mul_right _ (by omega)
    obtain ⟨d, hd, _⟩ := Zmp hc hgl
    have fin : ∀ hx y, Zaz hq'.length hq' hx → Ztc w.cs a g y → y.length ≤ (n0 - g) * 1048576 → Zde.J6 (fun v h' => v = .str (Ygq w.cs a) ∧ Zaz h.length h h') R (g : Int) h.length 0 [a] y hx := fun hx y sx hy hyl => by
      apply Zde.J6i
      rw [IntWalk.i64_in _ (by omega)]
      exact hR g _ _ _ (by omega) ⟨rfl, by omega, (hS.cat sq).cat sx, hy, hyl⟩
    refine ⟨by omega, Zal (fun he => ?_) (fun he => ?_)⟩
    · refine ⟨by omega, fin _ _ (Zaz.refl _ _) (hD.step hc hgl (.inl he)) (by rw [List.length_append]; omega)⟩
    · rw [hd]
      refine Ziw.mono ?_
      rintro v h5 ⟨rfl, rfl⟩
      simp only [Zai]
      refine Zal (fun hm => ?_) (fun hm => ?_)
      · simp only [Zaq iq, List.getElem?_cons_zero, List.getElem?_cons_succ, Zaf]
        refine ⟨by omega, fin _ _ (Zaz.refl _ _) (hD.step hc hgl (.inr ⟨d, hd, hm⟩)) (by rw [List.length_append]; omega)⟩
      · refine fin _ _ (Zaz.refl _ _) (hD.skip fun _ hx => ?_) (Nat.le_trans hlen (by rw [← hmul]; exact Nat.le_add_right _ _))
        rcases hx with hx | ⟨e, hx, hme⟩
        · exact he hx
        · rw [hd] at hx; cases hx; exact hm hme
  · apply Zde.A5x0i
    have : g = 0 := by omega
    subst this
    simp only [Nat.zero_add, Zph w3, List.getElem?_cons_zero, Zah]
    have hab := hD.all hc hi ha
    rw [← Ykr hc hi ha hab]
    refine Zde.L12ind _ _ _ _ _ _ _ (J := fun (q : Nat) x8 x45 h3 => x45 = (q : Int) ∧ q ≤ n0 ∧ Zaz h'.length h' h3 ∧ x8 = (Ykc (w.cs.take q)).filter fun d => decide (d ∈ x5)) (fun q => n0 - q) ?_ 0 _ _ _ ⟨rfl, by omega, Zaz.refl _ _, rfl⟩
    rintro q x8 x45 h3 ⟨rfl, hq0, hS3, rfl⟩ R12 hR12
    unfold Zde.L12t
    have S4 := S3.cat hS3
    refine Zal (fun hlt3 => ?_) (fun hge3 => ?_)
    · obtain ⟨i', o', hql, rfl, _, hr, _⟩ := (r.cls.same' S4).pr (k := q) (by omega)
      simp only [Zav, Int.toNat_natCast, hr, Zan, Zae, Zap, Zaf, Zax]
      rw [Zgd]
      simp only [Zaw]
      generalize hq : h3 ++ [Zcn.cells Zbo [.str w.cs[q].1, .str w.cs[q].2] false] = hq'
      have sq : Zaz h3.length h3 hq' := by rw [← hq]; exact Zau
      have iq : hq'[h3.length]? = some (.cells Zbo [.str w.cs[q].1, .str w.cs[q].2] false) := by rw [← hq]; simp
      simp only [Zaq iq, Nat.add_zero, Nat.zero_add, List.getElem?_cons_zero, List.getElem?_cons_succ, Zaf]
      obtain ⟨d, hd, _⟩ := Zmp hc hql
      rw [hd]
      refine ⟨by omega, Ziw.mono ?_⟩
      rintro v h5 ⟨rfl, rfl⟩
      simp only [Zai]
      have htk : Ykc (w.cs.take (q + 1)) = Ykc (w.cs.take q) ++ [d] := by
        unfold Ykc; rw [List.take_succ_eq_append_getElem hql, List.map_append]; simp [hd]
      have hln : ((Ykc (w.cs.take q)).filter fun d => decide (d ∈ x5)).length ≤ 1048576 := by
        refine Nat.le_trans (List.length_filter_le _ _) ?_
        simp [Ykc]; omega
      refine Zal (fun hm => ?_) (fun hm => ?_)
      · simp only [Zaq iq, Nat.add_zero, Nat.zero_add, List.getElem?_cons_zero, Zaf, hd]
        refine ⟨by simp only [List.length_cons, List.length_nil]; omega, ?_⟩
        apply Zde.J16i
        rw [Zbm (by omega)]
        exact hR12 (q + 1) _ _ _ (by omega) ⟨rfl, by omega, hS3.cat sq, by rw [htk, List.filter_append]; simp [hm]⟩
      · apply Zde.J16i
        rw [Zbm (by omega)]
        exact hR12 (q + 1) _ _ _ (by omega) ⟨rfl, by omega, hS3.cat sq, by rw [htk, List.filter_append]; simp [hm]⟩
    · apply Zde.A12x2i
      have : q = n0 := by omega
      subst this
      rw [List.take_of_length_le (by omega)]
      exact ⟨rfl, S4⟩
end Go.Sim

set_option linter.unusedVariables false
set_option linter.unusedSimpArgs false
set_option maxRecDepth 20000
namespace Go.Sim
open Go Go.RowKit

def Yju (s : List Nat) : List Nat := (List.range' 65 20).filter fun d => decide (d ∈ s)
theorem Zxi (g : Nat) : List.range' 65 (g + 1) = List.range' 65 g ++ [65 + g] := by rw [List.range'_1_concat]
theorem Ycm {h : Zaa} (s : List Nat) (hs : s.length ≤ 4611686018427387904) : Zad pg Zly [.str s] h fun v h' => v = .str (Yju s) ∧ Zaz h.length h h' := by
  apply Zfm.call
  refine Zfm.L3ind _ _ (J := fun (g : Nat) x3 x4 h' => x4 = 65 + (g : Int) ∧ g ≤ 20 ∧ Zaz h.length h h' ∧ x3 = (List.range' 65 g).filter fun d => decide (d ∈ s)) (fun g => 20 - g) ?_ 0 _ _ _ ⟨rfl, by omega, Zaz.refl _ _, rfl⟩
  rintro g x3 x4 h' ⟨rfl, hg, hS, rfl⟩ R hR
  unfold Zfm.L3t
  have hln : ((List.range' 65 g).filter fun d => decide (d ∈ s)).length ≤ 20 := Nat.le_trans (List.length_filter_le _ _) (by simp; omega)
  refine Zal (fun hlt => ?_) (fun hge => ?_)
  · have hg' : g < 20 := by omega
    have e1 : IntKind.wrap .u8 (65 + (g : Int)) = ((65 + g : Nat) : Int) := by rw [IntWalk.u8_in _ (by omega)]; omega
    have e2 : IntKind.wrap .i32 (65 + (g : Int) + 1) = 65 + ((g + 1 : Nat) : Int) := by rw [IntWalk.i32_in _ (by omega)]; omega
    rw [e1]
    refine (Zpm s (65 + g) (by omega)).mono ?_
    rintro v h2 ⟨rfl, rfl⟩
    simp only [Zao]
    have hm := Ztx s (65 + g)
    refine Zal (fun hb => ?_) (fun hb => ?_)
    · have hmem : 65 + g ∈ s := hm.1 hb
      simp only [Zax, Ygu, Zan, Znn, chk, decide_true]
      refine ⟨by omega, by simp only [List.length_cons, List.length_nil]; omega, ?_⟩
      apply Zfm.J4i
      rw [e2]
      refine hR (g + 1) _ _ _ (by omega) ⟨rfl, by omega, hS.trans (Zaz.app hS.le _), ?_⟩
      rw [Zxi, List.filter_append, Int.toNat_natCast]; simp [hmem]
    · have hmem : ¬ 65 + g ∈ s := fun hx => hb (hm.2 hx)
      apply Zfm.J4i
      rw [e2]
      refine hR (g + 1) _ _ _ (by omega) ⟨rfl, by omega, hS, ?_⟩
      rw [Zxi, List.filter_append]; simp [hmem]
  · apply Zfm.A3x0i
    have : g = 20 := by omega
    subst this
    exact ⟨rfl, hS⟩
theorem Ybh (s : List Nat) : (Yju s).Pairwise (· < ·) := List.Pairwise.filter _ (by decide)
theorem Zsw {cs : List Nd} {s : List Nat} (k : Zet cs s = true) : ∃ hi : (cs.findIdx fun x => decide (x.1 = s)) < cs.length, cs[cs.findIdx fun x => decide (x.1 = s)].1 = s := by
  unfold Zet at k
  have hi : (cs.findIdx fun x => decide (x.1 = s)) < cs.length := List.findIdx_lt_length_of_exists (by rw [List.any_eq_true] at k; exact k)
  exact ⟨hi, by simpa using List.findIdx_getElem (w := hi)⟩
def upL (cs : List Nd) (e : Nat) : List Nat := (cs.getD (cs.findIdx fun x => decide (x.1 = [e])) ([], [])).2
theorem Yjy {cs : List Nd} (h : Zgy cs = true) {e d : Nat} (k : Zet cs [e] = true) : d ∈ upL cs e ↔ Up cs e d := by
  obtain ⟨hi, he⟩ := Zsw k
  unfold upL
  rw [Zea hi]
  exact ⟨fun hd => ⟨_, hi, he, hd⟩, fun u => u.ix h hi he⟩
theorem Zwc {cs : List Nd} (h : Zgy cs = true) {i a d : Nat} (hi : i < cs.length) (ha : cs[i].1 = [a]) (r : Rch cs a d) : Zet cs [d] = true := by
  obtain ⟨j, hj, hd⟩ := r.ix h hi ha
  unfold Zet
  rw [List.any_eq_true]
  exact ⟨cs[j], List.getElem_mem (by omega), by simpa using hd⟩
theorem Zzb {h : Zaa} {a0 a1 : Pt} {n0 c0 n1 c1 : Nat} {e0 e1 : Bool} {w : Wd} {s : List Nat} (r : Zmi h a0 n0 c0 a1 n1 c1 w) (b : WB w) :
    Zad pg Zln [.agg [.slice a0 n0 c0 e0, .slice a1 n1 c1 e1], .str s] h fun v h' => v = .str (Zdb w s) ∧ Zaz h.length h h' := by
  have hl0 := r.len0
  have hlc := b.lc
  apply Zdk.call
  simp only [Zax]
  generalize hh0 : h ++ [Zcn.cells Zak [.slice a0 n0 c0 e0, .slice a1 n1 c1 e1] false] = h0
  have s0 : Zaz h.length h h0 := by rw [← hh0]; exact Zau
  have w0 : h0[h.length]? = some (Zns a0 n0 c0 e0 a1 n1 c1 e1) := by rw [← hh0]; simp [Zns]
  rw [Zsg w0]
  simp only [Zan, Zae, Zap, Zah]
  refine (Yai (r.same s0) b).mono ?_
  rintro v h2 ⟨rfl, s2⟩
  have S2 := s0.cat s2
  have w2 := s2.get w0 (Own.lt w0)
  simp only [Zai]
  refine Zbs (fun b1 => ⟨by unfold Zdb; rw [b1]; rfl, S2⟩) (fun b1 => ?_)
  simp only [Bool.and_eq_true] at b1
  have hc := Zuy b1.1
  obtain ⟨i, hi, a, rfl, ha⟩ := Ydf hc b1.2
  have hsw : Zdb w [a] = Ygq w.cs a := by unfold Zdb; rw [b1.1, b1.2]; rfl
  rw [hsw]
  obtain ⟨hfi, hfa⟩ := Zsw b1.2
  have hia := Zvl hc hi hfi ha hfa
  have hix : Zvx w.cs [a] = (i : Int) := by unfold Zvx; rw [b1.2, if_pos rfl, ← hia]
  have hn4 : n0 ≤ 4 := by
    have h1 := hc
    unfold Zgy at h1
    simp only [Bool.and_eq_true, decide_eq_true_eq] at h1
    omega
  rw [Zsg w2]
  simp only [Zph w2, Nat.zero_add, List.getElem?_cons_zero, Zan, Zae, Zap, Zah, true_and]
  refine (Zkb (r.cls.same' S2) (by omega)).mono ?_
  rintro v h3 ⟨rfl, s3⟩
  have S3 := S2.cat s3
  have w3 := s3.get w2 (Own.lt w2)
  rw [hix]
  obtain ⟨i', o', hgl, rfl, _, _, _, hcell⟩ := (r.cls.same' S3).pr (k := i) (by omega)
  simp only [Zph w3, List.getElem?_cons_zero, Zao, Zav, Int.toNat_natCast, hcell, Zaf, Zah, true_and]
  refine ⟨by omega, ?_⟩
  have hbl := (b.cs _ (List.getElem_mem hi)).2.1
  refine Zdk.L6ind _ _ _ _ _ (J := fun (g : Nat) x6 x24 h' => x24 = (g : Int) ∧ g ≤ n0 ∧ Zaz h3.length h3 h' ∧ Yku w.cs a i g x6 ∧ x6.length ≤ 1048576 ∧ (g ≠ 0 → x6.Pairwise (· < ·))) (fun g => n0 - g) ?_ 0 _ _ _ ⟨rfl, by omega, Zaz.refl _ _, Yku.start hc hi ha, hbl, by simp⟩
  rintro g x6 x24 h' ⟨rfl, hg, hS, hR6, hlen, hsrt⟩ R hR
  have S4 := S3.cat hS
  have w4 := hS.get w3 (Own.lt w3)
  unfold Zdk.L6t
  refine Zal (fun hlt => ?_) (fun hge => ?_)
  · refine Zdk.L8ind _ _ _ _ _ _ _ _ (J := fun (q : Nat) y x28 h5 => x28 = (q : Int) ∧ q ≤ x6.length ∧ Zaz h'.length h' h5 ∧ y = x6 ++ (x6.take q).flatMap (upL w.cs) ∧ y.length ≤ x6.length + q * 1048576) (fun q => x6.length - q) ?_ 0 _ _ _ ⟨rfl, by omega, Zaz.refl _ _, by simp, by omega⟩
    rintro q y x28 h5 ⟨rfl, hq, hS5, rfl, hyl⟩ R8 hR8
    have S5 := S4.cat hS5
    have w5 := hS5.get w4 (Own.lt w4)
    have hqb : q * 1048576 ≤ 1048576 * 1048576 := Nat.mul_le_mul_right _ (by omega)
    unfold Zdk.L8t
    refine Zal (fun hltq => ?_) (fun hgeq => ?_)
    · have hq' : q < x6.length := by omega
      have hqy : q < (x6 ++ (x6.take q).flatMap (upL w.cs)).length := by rw [List.length_append]; omega
      have hget : (x6 ++ (x6.take q).flatMap (upL w.cs))[q] = x6[q] := List.getElem_append_left hq'
      rw [Zbm (by omega), Zyn hqy rfl, hget, Zsg w5]
      simp only [Nat.zero_add, Zph w5, List.getElem?_cons_zero, Zan, Zae, Zap, Zah, true_and]
      refine ⟨⟨by omega, by omega, by omega⟩, (Zkb (r.cls.same' S5) (by omega)).mono ?_⟩
      rintro v h6 ⟨rfl, s6⟩
      have S6 := S5.cat s6
      have w6 := s6.get w5 (Own.lt w5)
      have hmem : x6[q] ∈ x6 := List.getElem_mem hq'
      have hk := Zwc hc hi ha (hR6.sound _ hmem)
      obtain ⟨hfj, hfd⟩ := Zsw hk
      generalize hjx : (w.cs.findIdx fun x => decide (x.1 = [x6[q]])) = jx at hfj hfd
      have hcx : Zvx w.cs [x6[q]] = ((jx : Nat) : Int) := by unfold Zvx; rw [hk, if_pos rfl, hjx]
      rw [hcx]
      have hup : upL w.cs x6[q] = (w.cs[jx]).2 := by unfold upL; rw [hjx, Zea hfj]
      obtain ⟨i2, o2, hgl2, heq, _, _, _, hcell2⟩ := (r.cls.same' S6).pr (k := jx) (by omega)
      cases heq
      simp only [Zao, Zph w6, List.getElem?_cons_zero, Zav, Int.toNat_natCast, hcell2, Zaf, true_and]
      have hul := (b.cs _ (List.getElem_mem hgl2)).2.1
      have htk : (x6.take (q + 1)).flatMap (upL w.cs) = (x6.take q).flatMap (upL w.cs) ++ upL w.cs x6[q] := by
        rw [List.take_succ_eq_append_getElem hq', List.flatMap_append]; simp
      refine ⟨by omega, by omega, ?_⟩
      refine hR8 (q + 1) _ _ _ (by omega) ⟨rfl, by omega, hS5.cat s6, ?_, ?_⟩
      · rw [htk, hup, List.append_assoc]
      · rw [List.length_append]
        have : (q + 1) * 1048576 = q * 1048576 + 1048576 := Nat.succ_mul _ _
        omega
    · apply Zdk.A8x2i
      have : q = x6.length := by omega
      subst this
      rw [List.take_length] at hyl ⊢
      refine (Ycm _ (by omega)).mono ?_
      rintro v h6 ⟨rfl, s6⟩
      simp only [Zaf]
      rw [Zbm (by omega)]
      have hmm : ∀ d, d ∈ x6 ++ x6.flatMap (upL w.cs) ↔ d ∈ x6 ∨ ∃ e ∈ x6, Up w.cs e d := fun d => by
        rw [List.mem_append, List.mem_flatMap]
        refine or_congr Iff.rfl ⟨fun ⟨e, he, hd⟩ => ⟨e, he, (Yjy hc (Zwc hc hi ha (hR6.sound _ he))).1 hd⟩, fun ⟨e, he, hd⟩ => ⟨e, he, (Yjy hc (Zwc hc hi ha (hR6.sound _ he))).2 hd⟩⟩
      refine hR (g + 1) _ _ _ (by omega) ⟨rfl, by omega, (hS.cat hS5).cat s6, hR6.next hc hi ha (fun d hd => ?_) (fun d hd => ?_), ?_, fun _ => Ybh _⟩
      · unfold Yju at hd
        rw [List.mem_filter] at hd
        exact (hmm d).1 (by simpa using hd.2)
      · unfold Yju
        rw [List.mem_filter]
        refine ⟨?_, by simpa using (hmm d).2 hd⟩
        have hrd : Rch w.cs a d := by
          rcases hd with hd | ⟨e, he, u⟩
          · exact hR6.sound d hd
          · exact .more (hR6.sound e he) u
        obtain ⟨j, hj, hjd⟩ := hrd.ix hc hi ha
        obtain ⟨e, he, h1, h2⟩ := Zmp hc (show j < w.cs.length by omega)
        rw [hjd] at he
        cases he
        rw [List.mem_range']
        exact ⟨d - 65, by omega, by omega⟩
      · unfold Yju
        exact Nat.le_trans (List.length_filter_le _ _) (by simp)
  · apply Zdk.A6x0i
    have : g = n0 := by omega
    subst this
    have hfin : x6 = Ygq w.cs a := Zwf (hsrt (by omega)) (Zvv _ _) fun d => by rw [hR6.all hc hi ha (by omega) d, Yeh hc hi ha]
    refine Zdk.L15ind _ _ _ (J := fun (q : Nat) y x51 h5 => x51 = (q : Int) ∧ q ≤ x6.length ∧ h5 = h' ∧ y = x6.take q) (fun q => x6.length - q) ?_ 0 _ _ _ ⟨rfl, by omega, rfl, rfl⟩
    rintro q y x51 h5 ⟨rfl, hq, rfl, rfl⟩ R15 hR15
    unfold Zdk.L15t
    refine Zal (fun hlt => ?_) (fun hge => ?_)
    · have hq' : q < x6.length := by omega
      rw [Zbm (by omega), Zyn hq' rfl]
      refine ⟨⟨by omega, by omega, by omega⟩, by simp; omega, hR15 (q + 1) _ _ _ (by omega) ⟨rfl, by omega, rfl, ?_⟩⟩
      rw [List.take_succ_eq_append_getElem hq']
    · apply Zdk.A15x4i
      have : q = x6.length := by omega
      subst this
      rw [List.take_length]
      exact ⟨by rw [hfin], S4⟩
end Go.Sim

set_option linter.unusedVariables false
set_option linter.unusedSimpArgs false
set_option maxRecDepth 20000
namespace Go.Sim
open Go Go.RowKit

structure Yor (b : Nat) (h : Zaa) (a : Pt) (n c : Nat) (l : List Nd) : Prop where
  vec : Vec Zaj h a n c (Zff eP l)
  len : l.length = n
  low : ∀ i, a = some (i, 0) → b ≤ i
theorem Yor.row {b : Nat} {h : Zaa} {a : Pt} {n c : Nat} {l : List Nd} (f : Yor b h a n c l) : Row h.length h a (n * 2) (Zff eP l) := f.vec.row (by rw [Zbe Zdp, f.len])
theorem Yor.same {b : Nat} {h h' : Zaa} {a : Pt} {n c : Nat} {l : List Nd} (f : Yor b h a n c l) (s : Zaz h.length h h') : Yor b h' a n c l := ⟨f.vec.same s, f.len, f.low⟩
def But (a : Pt) (h h' : Zaa) : Prop := h.length ≤ h'.length ∧ ∀ j, j < h.length → (∀ i, a = some (i, 0) → j ≠ i) → h'[j]? = h[j]?
theorem But.of {a : Pt} {h h' : Zaa} (s : Zaz h.length h h') : But a h h' := ⟨s.le, fun j hj _ => s.eq j hj⟩
theorem But.below {a : Pt} {b : Nat} {h h' : Zaa} (s : But a h h') (hb : b ≤ h.length) (hl : ∀ i, a = some (i, 0) → b ≤ i) : Zaz b h h' := ⟨s.1, fun j hj => s.2 j (by omega) fun i hi => by have := hl i hi; omega⟩
end Go.Sim

set_option linter.unusedVariables false
set_option linter.unusedSimpArgs false
set_option maxRecDepth 20000
namespace Go.Sim
open Go Go.RowKit

theorem Ybo (w : Wd) (s : List Nat) : ∀ d ∈ Zdb w s, 65 ≤ d ∧ d < 85 := by
  intro d hd
  unfold Zdb at hd
  split at hd
  · unfold Ygq at hd
    have := (List.mem_filter.1 hd).1
    rw [List.mem_range'] at this
    obtain ⟨i, hi, rfl⟩ := this
    omega
  · simp at hd
theorem Zvg (w : Wd) (s : List Nat) : (Zdb w s).length ≤ 20 := by
  unfold Zdb
  split
  · unfold Ygq; exact Nat.le_trans (List.length_filter_le _ _) (by simp)
  · simp
theorem Yhk {h : Zaa} {a0 a1 : Pt} {n0 c0 n1 c1 : Nat} {e0 e1 : Bool} {w : Wd} {s : List Nat} (r : Zmi h a0 n0 c0 a1 n1 c1 w) (b : WB w) :
    Zad pg Zoe [.agg [.slice a0 n0 c0 e0, .slice a1 n1 c1 e1], .str s] h fun v h' => Zaz h.length h h' ∧ ∃ a n c e, v = .slice a n c e ∧ Row h'.length h' a n (strs ((Zdb w s).map one)) ∧ ∀ i o, a = some (i, o) → n ≠ 0 → h.length ≤ i := by
  apply Zjk.call
  simp only [Zax]
  generalize hh0 : h ++ [Zcn.cells Zak [.slice a0 n0 c0 e0, .slice a1 n1 c1 e1] false] = h0
  generalize hh1 : h0 ++ [Zcn.cells Zcm [] false] = h1
  have s0 : Zaz h.length h h0 := by rw [← hh0]; exact Zau
  have s1 : Zaz h0.length h0 h1 := by rw [← hh1]; exact Zau
  have l0 : h0.length = h.length + 1 := by rw [← hh0]; simp
  have l1 : h1.length = h.length + 2 := by rw [← hh1]; simp [l0]
  have w0 : h0[h.length]? = some (Zns a0 n0 c0 e0 a1 n1 c1 e1) := by rw [← hh0]; simp [Zns]
  have w1 := s1.get w0 (Own.lt w0)
  have o1 : h1[h0.length]? = some (.cells Zcm [] false) := by rw [← hh1]; simp
  rw [Zsg w1]
  simp only [Zan, Zae, Zap, Zah]
  refine (Ycc (r.same (s0.cat s1)) b).mono ?_
  rintro v h2 ⟨rfl, s2⟩
  simp only [Zaf]
  have hsm := Ybo w s
  have hln := Zvg w s
  generalize Zdb w s = t at hsm hln
  have hle2 := s2.le
  have o2 := s2.get o1 (by omega)
  have S2 := (s0.cat s1).cat s2
  refine Zjk.L3ind _ _ (J := fun (g : Nat) a5 n5 c5 e5 h' => g ≤ t.length ∧ h'[h2.length]? = some (.iter t g) ∧ Zaz h.length h h' ∧ n5 = g ∧ Vec Zcm h' a5 n5 c5 (strs ((t.take g).map one)) ∧ (∀ i, a5 = some (i, 0) → h.length ≤ i ∧ i ≠ h2.length)) (fun g => t.length - g) ?_ 0 _ _ _ _ _
    ⟨by omega, by simp, S2.cat Zau, rfl, Vec.mk1 (by rw [Zwy (by omega)]; exact o2), fun i hi => by cases hi; omega⟩
  rintro g a5 n5 c5 e5 h' ⟨hg, hit, hS, rfl, hv, ha⟩ R hR
  unfold Zjk.L3t
  have hx : ∀ K, K t n5 → Zyt h' h2.length K := fun K hK => by unfold Zyt; rw [hit]; exact hK
  refine hx _ ⟨fun hlt => ?_, fun hge => ?_⟩
  · have hd := hsm t[n5] (List.getElem_mem hlt)
    have hitl := Own.lt hit
    simp only [Zea hlt, Zax, Int.toNat_natCast]
    refine ⟨by omega, by omega, ?_⟩
    have hv2 : Vec Zcm (h'.set h2.length (.iter t (n5 + 1))) a5 n5 c5 (strs ((t.take n5).map one)) := hv.agree fun i hi => by rw [Zcr (ha i hi).2.symm]
    have hl2 : (h'.set h2.length (.iter t (n5 + 1))).length = h'.length := by simp
    refine hv2.push Zqt Zuj Zvh Zvf (by simp; omega) rfl (by omega) (fun h4 hl4 hi4 hk4 => ?_)
    simp only [Zah]
    have hle := hS.le
    refine hR (n5 + 1) _ _ _ _ _ (by omega) ⟨by omega, ?_, ⟨by omega, fun j hj => ?_⟩, rfl, Vec.mk1 ?_, fun i hi => by cases hi; omega⟩
    · rw [hk4 _ (by omega) fun i hi => (ha i hi).2.symm, Zdi hit]
    · rw [hk4 j (by omega) fun i hi => by have := (ha i hi).1; omega, Zcr (by omega)]; exact hS.eq j hj
    · rw [hi4, List.take_succ_eq_append_getElem hlt, List.map_append]; simp [strs, one]
  · apply Zjk.A3x0i
    have : n5 = t.length := by omega
    subst this
    rw [List.take_length] at hv
    refine ⟨hS, _, _, _, _, rfl, hv.row (by simp), fun i o hi hn => ?_⟩
    rcases hv with ⟨h0, _⟩ | ⟨j, hj, _⟩
    · rw [hi] at h0; cases h0
    · rw [hi] at hj; cases hj; exact (ha i hi).1
end Go.Sim
