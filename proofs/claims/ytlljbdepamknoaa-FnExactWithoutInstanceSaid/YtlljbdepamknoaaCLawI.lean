/- A part of the proof of a statement of this seat: see the text that holds the theorem. No condition. -/
import Derived.Test.YtlljbdepamknoaaPTCWLaw2
import Derived.Test.YtlljbdepamknoaaCWLaw
import Derived.Test.YtlljbdepamknoaaCWRep
import Derived.Test.YtlljbdepamknoaaNm
import Derived.Test.YtlljbdepamknoaaCTy
import Derived.Test.YtlljbdepamknoaaSimX
import Derived.Test.YtlljbdepamknoaaShelf
import Derived.Test.YtlljbdepamknoaaPTCOwn
set_option linter.unusedVariables false
set_option linter.unusedSimpArgs false
set_option linter.all false
set_option linter.unusedVariables false
set_option linter.unusedSimpArgs false
set_option maxRecDepth 20000
namespace Go.Sim
open Go Go.RowKit

def isz (i : Ins) : Nat := i.1.1.length + i.1.2.length + (i.2.length + Zty i.2)
def Zzw (l : List Ins) : Nat := (l.map isz).sum
def wsz (w : Wd) : Nat := w.cs.length + Zty w.cs + (w.is.length + Zzw w.is)
theorem Zuq {l : List Ins} {g : Nat} (h : g < l.length) : Zzw (l.take (g + 1)) = Zzw (l.take g) + isz l[g] := by
  unfold Zzw; rw [List.take_succ_eq_append_getElem h, List.map_append, List.sum_append]; simp
theorem Ztk (l : List Ins) (g : Nat) : Zzw (l.take g) ≤ Zzw l := by
  conv => rhs; rw [← List.take_append_drop g l]
  unfold Zzw; rw [List.map_append, List.sum_append]; omega
theorem Ydd {l : List Ins} {g : Nat} (h : g < l.length) : isz l[g] ≤ Zzw l := by
  have := Zuq h; have := Ztk l (g + 1); omega
def Zpg (n : Nat) : Prop := n ≤ 9223372036854775807
structure Yha (w : Wd) : Prop where
  lc : Zpg w.cs.length
  li : Zpg w.is.length
  cs : ∀ p ∈ w.cs, Zpg p.1.length ∧ Zpg p.2.length ∧ ∀ b ∈ p.1, b < 256
  is : ∀ i ∈ w.is, Zpg i.1.1.length ∧ Zpg i.1.2.length ∧ Zpg i.2.length ∧ ∀ p ∈ i.2, Zpg p.1.length ∧ Zpg p.2.length
theorem WB.of {w : Wd} (b : Yha w) (h : wsz w ≤ 1048576) : WB w := by
  have h1 : ∀ p ∈ w.cs, p.1.length + p.2.length ≤ Zty w.cs := fun p hp => by
    obtain ⟨k, hk, rfl⟩ := List.mem_iff_getElem.1 hp; exact Zwx hk
  have h2 : ∀ i ∈ w.is, isz i ≤ Zzw w.is := fun p hp => by
    obtain ⟨k, hk, rfl⟩ := List.mem_iff_getElem.1 hp; exact Ydd hk
  unfold wsz at h
  refine ⟨by omega, by omega, fun p hp => ⟨by have := h1 p hp; omega, by have := h1 p hp; omega, (b.cs p hp).2.2⟩, fun i hi => ?_⟩
  have := h2 i hi
  unfold isz at this
  refine ⟨by omega, by omega, by omega, fun p hp => ?_⟩
  have h3 : p.1.length + p.2.length ≤ Zty i.2 := by obtain ⟨k, hk, rfl⟩ := List.mem_iff_getElem.1 hp; exact Zwx hk
  omega
theorem Zsk {h : Zaa} {a : Pt} {n cp : Nat} {e : Bool} {i : Ins} {x : Int} (r : Row h.length h a (n * 2) (Zbv eP i.2)) (hb : Zpg i.1.1.length ∧ Zpg i.1.2.length ∧ Zpg i.2.length ∧ ∀ p ∈ i.2, Zpg p.1.length ∧ Zpg p.2.length) (hx : 0 ≤ x ∧ x ≤ 1048576) :
    Zae pg Zhl [.agg [.str i.1.1, .str i.1.2, .slice a n cp e], .int .i64 x] h fun v h' => ∃ y, v = .int .i64 y ∧ Zbd h.length h h' ∧ (0 ≤ y → (isz i : Int) + y = x) := by
  have hl : i.2.length = n := by have := r.1; rw [Zaw Zdq] at this; omega
  apply Zkc.call
  simp only [Zbf]
  have s1 : Zbd h.length h (h ++ [.cells Zdm [.str i.1.1, .str i.1.2, .slice a n cp e] false]) := Zax
  have hi : (h ++ [Zck.cells Zdm [.str i.1.1, .str i.1.2, .slice a n cp e] false])[h.length]? = some (.cells Zdm [.str i.1.1, .str i.1.2, .slice a n cp e] false) := by simp
  simp only [Nat.add_zero]
  rw [Zha hi (by simp)]
  simp only [List.drop_zero, List.take_succ_cons, List.take_zero, Zaq, Zah, Zap, Zal]
  refine (Ztw hb.1 hb.2.1 hx).mono ?_
  rintro v h2 ⟨y, rfl, s2, hy⟩
  simp only [Zbe]
  have i2 := s2.get hi (Own.lt hi)
  refine Zam (fun hlt => ⟨_, rfl, s1.cat s2, by omega⟩) (fun hge => ?_)
  have hyy := hy (by omega)
  simp only [Zau i2, Nat.zero_add, List.getElem?_cons_succ, List.getElem?_cons_zero, Zaf]
  have hN := hb.2.2.1
  unfold Zpg at hN
  refine (Zzm (r.same' (s1.cat s2)) (fun p hp => hb.2.2.2 p hp) (by omega) (left := y) (by omega)).mono ?_
  rintro v h3 ⟨z, rfl, s3, hz⟩
  simp only [Zbe]
  refine Zam (fun hlt => ⟨_, rfl, (s1.cat s2).cat s3, by omega⟩) (fun hge => ⟨_, rfl, (s1.cat s2).cat s3, fun h0 => ?_⟩)
  have := hz h0
  unfold isz; omega
theorem Zqt {h : Zaa} {a0 a : Pt} {n0 c0 n cp : Nat} {e : Bool} {w : Wd} {x : Int} (r : Zln h a0 n0 c0 a n cp w) (hb : Yha w) (hx : 0 ≤ x ∧ x ≤ 1048576) :
    Zae pg Zgy [.slice a n cp e, .int .i64 x] h fun v h' => ∃ y, v = .int .i64 y ∧ Zbd h.length h h' ∧ (0 ≤ y → (w.is.length : Int) + Zzw w.is + y = x) := by
  have hl := r.len1
  have hbl := hb.li
  unfold Zpg at hbl
  apply Zec.call
  rw [IntWalk.i64_in _ (by omega)]
  refine Zam (fun hlt => ⟨_, rfl, Zbd.refl _ _, by omega⟩) (fun hge => ?_)
  refine Zec.L5ind _ _ _ _ _ (J := fun (g : Nat) x1 x5 h' => x5 = (g : Int) ∧ Zbd h.length h h' ∧ g ≤ n ∧ 0 ≤ x1 ∧ x1 + n + Zzw (w.is.take g) = x) (fun g => n - g) ?_ 0 _ 0 h ⟨rfl, Zbd.refl _ _, by omega, by omega, by simp [Zzw]⟩
  rintro g x1 x5 h' ⟨rfl, hS, hg, h0, ht⟩ R hR
  unfold Zec.L5t
  refine Zam (fun hlt => ?_) (fun hge => ?_)
  · obtain ⟨i, o, hgl, a2, n2, c2, e2, rfl, _, hr, _, _, _, hrow, hn⟩ := (r.same hS).inst (k := g) (by omega)
    simp only [Zba, Int.toNat_natCast, hr, Zaq, Zah, Zap, Zal, Zaf]
    refine ⟨by omega, (Zsk (i := w.is[g]) hrow (hb.is _ (List.getElem_mem hgl)) (by omega)).mono ?_⟩
    rintro v h1 ⟨y, rfl, hs1, hy⟩
    simp only [Zbe]
    have hS1 := hS.cat hs1
    refine Zam (fun hneg => ⟨_, rfl, hS1, by omega⟩) (fun hneg => ?_)
    have hyy := hy (by omega)
    rw [Zcd (by omega)]
    exact hR (g + 1) _ _ _ (by omega) ⟨rfl, hS1, by omega, by omega, by rw [Zuq hgl]; omega⟩
  · have : g = n := by omega
    subst this
    rw [List.take_of_length_le (by omega)] at ht
    exact Zec.A5x0i _ _ _ ⟨_, rfl, hS, by omega⟩
theorem Zzv {h : Zaa} {a0 a1 : Pt} {n0 c0 n1 c1 : Nat} {e0 e1 : Bool} {w : Wd} {x : Int} (r : Zln h a0 n0 c0 a1 n1 c1 w) (hb : Yha w) (hx : 0 ≤ x ∧ x ≤ 1048576) :
    Zae pg Zjr [.agg [.slice a0 n0 c0 e0, .slice a1 n1 c1 e1], .int .i64 x] h fun v h' => ∃ y, v = .int .i64 y ∧ Zbd h.length h h' ∧ (0 ≤ y → (wsz w : Int) + y = x) := by
  have hl0 := r.len0
  apply Zmv.call
  simp only [Zbf]
  have s1 : Zbd h.length h (h ++ [.cells Zdf [.slice a0 n0 c0 e0, .slice a1 n1 c1 e1] false]) := Zax
  have hi : (h ++ [Zck.cells Zdf [.slice a0 n0 c0 e0, .slice a1 n1 c1 e1] false])[h.length]? = some (.cells Zdf [.slice a0 n0 c0 e0, .slice a1 n1 c1 e1] false) := by simp
  simp only [Zau hi, Nat.add_zero, List.getElem?_cons_zero, Zaf]
  have hN := hb.lc
  unfold Zpg at hN
  refine (Zus (r.cls.same' s1) (fun p hp => ⟨(hb.cs p hp).1, (hb.cs p hp).2.1⟩) (by omega) hx).mono ?_
  rintro v h2 ⟨y, rfl, s2, hy⟩
  simp only [Zbe]
  have i2 := s2.get hi (Own.lt hi)
  refine Zam (fun hlt => ⟨_, rfl, s1.cat s2, by omega⟩) (fun hge => ?_)
  have hyy := hy (by omega)
  simp only [Zau i2, Nat.zero_add, List.getElem?_cons_succ, List.getElem?_cons_zero, Zaf]
  refine (Zqt (r.same (s1.cat s2)) hb (x := y) (by omega)).mono ?_
  rintro v h3 ⟨z, rfl, s3, hz⟩
  simp only [Zbe]
  refine Zam (fun hlt => ⟨_, rfl, (s1.cat s2).cat s3, by omega⟩) (fun hge => ⟨_, rfl, (s1.cat s2).cat s3, fun h0 => ?_⟩)
  have := hz h0
  unfold wsz; omega

theorem Yce {h : Zaa} {i : Nat} {t : TypeId} {x y z v : Zag} (hi : h[i]? = some (.cells t [x, y, z] false)) : Zbc h (.ptr (some (i, 2))) [v] = some (h.set i (.cells t [x, y, v] false)) := by
  rw [Zbb hi (by simp)]; rfl
theorem Zzo {h : Zaa} {i : Nat} {t : TypeId} {x y z v u : Zag} (hi : h[i]? = some (.cells t [x, y, z] false)) : Zbc h (.ptr (some (i, 0))) [v, u] = some (h.set i (.cells t [v, u, z] false)) := by
  rw [Zbb hi (by simp)]; rfl
theorem Zzr {h : Zaa} {i : Nat} {t : TypeId} {x y z a b c : Zag} (hi : h[i]? = some (.cells t [x, y, z] false)) : Zbc h (.ptr (some (i, 0))) [a, b, c] = some (h.set i (.cells t [a, b, c] false)) := by
  rw [Zbb hi (by simp)]; rfl
theorem Zma {h : Zaa} {i : Nat} {t : TypeId} {x y z : Zag} {ro : Bool} (hi : h[i]? = some (.cells t [x, y, z] ro)) : Zbw h (.ptr (some (i, 0))) 3 = some [x, y, z] := by
  rw [Zha hi (by simp)]; rfl
theorem Yan {h : Zaa} {i : Nat} {t : TypeId} {x y z : Zag} {ro : Bool} (hi : h[i]? = some (.cells t [x, y, z] ro)) : Zbw h (.ptr (some (i, 0))) 2 = some [x, y] := by
  rw [Zha hi (by simp)]; rfl
theorem Zbd.set' {b i : Nat} {h h1 : Zaa} {x : Zck} (s : Zbd b h h1) (hi : b ≤ i) : Zbd b h (h1.set i x) := ⟨by simp; exact s.le, fun j hj => by rw [Zbl (by omega)]; exact s.eq j hj⟩
theorem Zbr.keep {α : Type} {ty : TypeId} {enc : α → List Zag} {b b' : Nat} {h h' : Zaa} {a : Pt} {n : Nat} {l : List α} (f : Zbr ty enc b h a n l) (hb : b' ≤ b) (hk : ∀ i, b ≤ i → i < h.length → h'[i]? = h[i]?) : Zbr ty enc b' h' a n l :=
  ⟨f.1, f.2.imp id fun ⟨i, ha, hbi, hi⟩ => ⟨i, ha, by omega, by rw [hk i hbi (Own.lt hi)]; exact hi⟩⟩
theorem Zss {h : Zaa} {a : Pt} {n cp : Nat} {e : Bool} {i : Ins} (r : Row h.length h a (n * 2) (Zbv eP i.2)) (hn : n ≤ 1048576) :
    Zae pg Zhk [.agg [.str i.1.1, .str i.1.2, .slice a n cp e]] h fun v h' => ∃ a' c' e', v = .agg [.str i.1.1, .str i.1.2, .slice a' n c' e'] ∧ Zbd h.length h h' ∧ Zbr Zao eP h.length h' a' n i.2 ∧ a' ≠ none := by
  apply Zkh.call
  simp only [Zbf]
  generalize hh0 : h ++ [Zck.cells Zdm [.str i.1.1, .str i.1.2, .slice a n cp e] false] = h0
  generalize hh1 : h0 ++ [Zck.cells Zab [.str [], .str [], .slice none 0 0 true] false] = h1
  generalize hh2 : h1 ++ [Zck.cells Zab [.str [], .str [], .slice none 0 0 true] false] = h2
  have s0 : Zbd h.length h h0 := by rw [← hh0]; exact Zax
  have s1 : Zbd h0.length h0 h1 := by rw [← hh1]; exact Zax
  have s2 : Zbd h1.length h1 h2 := by rw [← hh2]; exact Zax
  have l0 : h0.length = h.length + 1 := by rw [← hh0]; simp
  have l1 : h1.length = h.length + 2 := by rw [← hh1]; simp [l0]
  have l2 : h2.length = h.length + 3 := by rw [← hh2]; simp [l1]
  have x0 : h0[h.length]? = some (.cells Zdm [.str i.1.1, .str i.1.2, .slice a n cp e] false) := by rw [← hh0]; simp
  have y1 : h1[h0.length]? = some (.cells Zab [.str [], .str [], .slice none 0 0 true] false) := by rw [← hh1]; simp
  have z2 : h2[h1.length]? = some (.cells Zab [.str [], .str [], .slice none 0 0 true] false) := by rw [← hh2]; simp
  have x2 := s2.get (s1.get x0 (by omega)) (by omega)
  have y2 := s2.get y1 (by omega)
  have S2 := (s0.cat s1).cat s2
  simp only [Nat.add_zero, Nat.zero_add]
  rw [Yan x2]
  simp only [Zaq, Zah, Zap, Zal]
  refine Zub.mono ?_
  rintro v h3 ⟨rfl, s3⟩
  simp only [Zdk, Zah, Zap, Zal]
  have z3 := s3.get z2 (by omega)
  have x3 := s3.get x2 (by omega)
  have y3 := s3.get y2 (by omega)
  have l3 := s3.le
  rw [Zzo z3]
  simp only [Zar]
  have x4 : (h3.set h1.length (.cells Zab [.str i.1.1, .str i.1.2, .slice none 0 0 true] false))[h.length]? = some (.cells Zdm [.str i.1.1, .str i.1.2, .slice a n cp e] false) := by rw [Zbl (by omega)]; exact x3
  have y4 : (h3.set h1.length (.cells Zab [.str i.1.1, .str i.1.2, .slice none 0 0 true] false))[h0.length]? = some (.cells Zab [.str [], .str [], .slice none 0 0 true] false) := by rw [Zbl (by omega)]; exact y3
  have z4 : (h3.set h1.length (.cells Zab [.str i.1.1, .str i.1.2, .slice none 0 0 true] false))[h1.length]? = some (.cells Zab [.str i.1.1, .str i.1.2, .slice none 0 0 true] false) := Zbn z3
  have S4 : Zbd h.length h (h3.set h1.length (.cells Zab [.str i.1.1, .str i.1.2, .slice none 0 0 true] false)) := (S2.cat s3).set' (by omega)
  generalize hh4 : h3.set h1.length (.cells Zab [.str i.1.1, .str i.1.2, .slice none 0 0 true] false) = h4 at *
  have l4 : h4.length = h3.length := by rw [← hh4]; simp
  simp only [Zau x4, List.getElem?_cons_succ, List.getElem?_cons_zero, Zaf]
  refine (Zvn (r.same' S4) hn).mono ?_
  rintro v h5 ⟨a', c', e', rfl, s5, f5, hc5, hnn⟩
  simp only [Zaf]
  have l5 := s5.le
  have y5 := s5.get y4 (by omega)
  have z5 := s5.get z4 (by omega)
  rw [Yce z5]
  simp only [Zar]
  rw [Zma (Zbn z5)]
  simp only [Zaq, Zah, Zap, Zal, Zaf]
  have y6 : (h5.set h1.length (.cells Zab [.str i.1.1, .str i.1.2, .slice a' n c' e'] false))[h0.length]? = some (.cells Zab [.str [], .str [], .slice none 0 0 true] false) := by rw [Zbl (by omega)]; exact y5
  rw [Zzr y6]
  simp only [Zar]
  rw [Zma (Zbn y6)]
  simp only [Zaq, Zah, Zap, Zal, Zaf]
  exact ⟨_, _, _, rfl, ((S4.cat s5).set' (by omega)).set' (by omega), f5.keep (by omega) fun j hj _ => by rw [Zbl (by omega), Zbl (by omega)], hnn⟩
end Go.Sim

set_option linter.unusedVariables false
set_option linter.unusedSimpArgs false
set_option maxRecDepth 20000
namespace Go.Sim
open Go Go.RowKit

theorem Ydk {α : Type} {enc : α → List Zag} {w : Nat} (hw : ∀ x, (enc x).length = w) {ys : List α} {y : α} {k n : Nat} {z : List Zag} (hk : ys.length = k) (hn : k < n) (hz : z.length = w) :
    Zbi (Zbv enc ys ++ reps (n - k) z) (k * w) (enc y) = Zbv enc (ys ++ [y]) ++ reps (n - (k + 1)) z := by
  have h1 : (Zbv enc ys).length = k * w := by rw [Zaw hw, hk]
  have h2 : reps (n - k) z = z ++ reps (n - (k + 1)) z := by
    rw [show n - k = (n - (k + 1)) + 1 by omega]; simp [reps, List.replicate_succ]
  unfold Zbi
  rw [List.take_append_of_le_length (by omega), List.take_of_length_le (by omega), Znb, Zem, Yef, List.append_nil, hw, h2, List.append_assoc, List.append_assoc]
  congr 2
  rw [← h1, ← hz, List.drop_append, List.drop_of_length_le (by omega)]
  simp
theorem Ydf {α : Type} {enc : α → List Zag} {w : Nat} (hw : ∀ x, (enc x).length = w) {ys : List α} {k n : Nat} {z : List Zag} (hk : ys.length = k) (hn : k ≤ n) (hz : z.length = w) : (Zbv enc ys ++ reps (n - k) z).length = n * w := by
  have h1 : (reps (n - k) z).length = (n - k) * w := by unfold reps; rw [List.length_flatten]; simp [hz]
  rw [List.length_append, Zaw hw, h1, hk, ← Nat.add_mul]; congr 1; omega
theorem Zrc {h : Zaa} {a0 a : Pt} {n0 c0 n cp : Nat} {e : Bool} {w : Wd} (r : Zln h a0 n0 c0 a n cp w) (b : WB w) :
    Zae pg Zgz [.slice a n cp e] h fun v h' => ∃ a' c' e' ys, v = .slice a' n c' e' ∧ n ≤ c' ∧ Zbd h.length h h' ∧ Zbr Zab eN h.length h' a' n ys ∧ ys.length = w.is.length ∧
      (∀ (k : Nat) (x : EI) (i : Ins), ys[k]? = some x → w.is[k]? = some i → x.c = i.1.1 ∧ x.t = i.1.2 ∧ Zbr Zao eP h.length h' x.a x.n i.2) ∧
      (∀ (j k : Nat) (x y : EI), j ≠ k → ys[j]? = some x → ys[k]? = some y → x.n ≠ 0 → y.n ≠ 0 → x.a ≠ y.a) ∧ ∀ x ∈ ys, x.a ≠ none := by
  have hl := r.len1
  have hli := b.li
  apply Zed.call
  simp only [Zbf, Int.toNat_natCast]
  refine ⟨by trivial, by trivial, ⟨by omega, by omega, by omega⟩, ?_⟩
  refine Zed.L3ind _ _ _ _ _ _ _ _ _ (J := fun (g : Nat) x4 h' => x4 = (g : Int) ∧ g ≤ n ∧ Zbd h.length h h' ∧ ∃ ys : List EI, ys.length = g ∧ h'[h.length]? = some (.cells Zab (Zbv eN ys ++ reps (n - g) [.str [], .str [], .slice none 0 0 true]) false) ∧
      (∀ (k : Nat) (x : EI) (i : Ins), ys[k]? = some x → w.is[k]? = some i → x.c = i.1.1 ∧ x.t = i.1.2 ∧ Zbr Zao eP (h.length + 1) h' x.a x.n i.2) ∧
      (∀ (j k : Nat) (x y : EI), j ≠ k → ys[j]? = some x → ys[k]? = some y → x.n ≠ 0 → y.n ≠ 0 → x.a ≠ y.a) ∧ ∀ x ∈ ys, x.a ≠ none) (fun g => n - g) ?_ 0 _ _
    ⟨rfl, by omega, Zbd.app (Nat.le_refl _) _, [], rfl, by simp, by simp, by simp, by simp⟩
  rintro g x4 h' ⟨rfl, hg, hs, ys, hy, ho, hrep, hsep, hnn⟩ R hR
  unfold Zed.L3t
  refine Zam (fun hlt => ?_) (fun hge => ?_)
  · have hlt' : g < n := by omega
    obtain ⟨i, o, hgl, a2, n2, c2, e2, rfl, _, hr, _, _, _, hrow, hn⟩ := (r.same hs).inst (k := g) (by omega)
    simp only [Zba, Int.toNat_natCast, hr, Zaq, Zah, Zap, Zal, Zaf]
    have hb := b.is _ (List.getElem_mem hgl)
    refine ⟨by omega, (Zss (i := w.is[g]) hrow (by omega)).mono ?_⟩
    rintro v h1 ⟨a', c', e', rfl, s1, f1, hnn1⟩
    simp only [Zdk, Zah, Zap, Zal, Zaf]
    have hol := Own.lt ho
    have ho1 := s1.get ho hol
    have hlen := Ydf (enc := eN) Zeo (ys := ys) (k := g) (n := n) (z := [.str [], .str [], .slice none 0 0 true]) hy hg rfl
    rw [Zbb ho1 (by rw [hlen]; simp; omega)]
    simp only [Zar]
    have hput := Ydk (enc := eN) Zeo (ys := ys) (y := ⟨w.is[g].1.1, w.is[g].1.2, a', n2, c', e'⟩) (k := g) (n := n) (z := [.str [], .str [], .slice none 0 0 true]) hy hlt' rfl
    rw [Nat.zero_add, show ([.str w.is[g].1.1, .str w.is[g].1.2, .slice a' n2 c' e'] : List Zag) = eN ⟨w.is[g].1.1, w.is[g].1.2, a', n2, c', e'⟩ from rfl, hput, Zcd (by omega)]
    refine ⟨by omega, hR (g + 1) _ _ (by omega) ⟨rfl, by omega, (hs.cat s1).set' (Nat.le_refl _), ys ++ [⟨w.is[g].1.1, w.is[g].1.2, a', n2, c', e'⟩], by simp [hy], Zbn ho1, ?_, ?_, fun x hx => by
      rcases List.mem_append.1 hx with hx | hx
      · exact hnn x hx
      · rw [List.mem_singleton] at hx; subst hx; exact hnn1⟩⟩
    · intro k x j hx hj
      by_cases hk : k < g
      · rw [List.getElem?_append_left (by omega)] at hx
        obtain ⟨p1, p2, p3⟩ := hrep k x j hx hj
        refine ⟨p1, p2, p3.keep (Nat.le_refl _) fun q hq hq2 => ?_⟩
        rw [Zbl (by omega)]; exact s1.eq q hq2
      · have hkl := (List.getElem?_eq_some_iff.1 hx).1
        simp [hy] at hkl
        have : k = g := by omega
        subst this
        rw [List.getElem?_append_right (by omega), hy, Nat.sub_self] at hx
        simp at hx
        subst hx
        rw [List.getElem?_eq_getElem hgl] at hj
        cases hj
        exact ⟨rfl, rfl, f1.keep (by omega) fun q hq hq2 => by rw [Zbl (by omega)]⟩
    · have old : ∀ (j : Nat) (x : EI), ys[j]? = some x → x.n ≠ 0 → x.a ≠ a' ∨ n2 = 0 := by
        intro j x hx hn
        have hjl := (List.getElem?_eq_some_iff.1 hx).1
        obtain ⟨_, _, _, p3⟩ := hrep j x (w.is[j]'(by omega)) hx (List.getElem?_eq_getElem (by omega))
        rcases p3 with h0 | ⟨q, hq, _, hq2⟩
        · exact absurd h0 hn
        · have := Own.lt hq2
          rcases f1.2 with h0 | ⟨q', hq', hb', _⟩
          · exact .inr h0
          · refine .inl ?_
            rw [hq, hq']; intro e; cases e; omega
      intro j k x y hjk hx hy' hxn hyn
      by_cases hj : j < g <;> by_cases hk : k < g
      · rw [List.getElem?_append_left (by omega)] at hx hy'
        exact hsep j k x y hjk hx hy' hxn hyn
      · have hkl := (List.getElem?_eq_some_iff.1 hy').1
        simp [hy] at hkl
        have : k = g := by omega
        subst this
        rw [List.getElem?_append_right (by omega), hy, Nat.sub_self] at hy'
        simp at hy'
        subst hy'
        rw [List.getElem?_append_left (by omega)] at hx
        rcases old j x hx hxn with h1 | h1
        · exact h1
        · exact absurd h1 hyn
      · have hkl := (List.getElem?_eq_some_iff.1 hx).1
        simp [hy] at hkl
        have : j = g := by omega
        subst this
        rw [List.getElem?_append_right (by omega), hy, Nat.sub_self] at hx
        simp at hx
        subst hx
        rw [List.getElem?_append_left (by omega)] at hy'
        rcases old k y hy' hyn with h1 | h1
        · exact fun e => h1 e.symm
        · exact absurd h1 hxn
      · have h1 := (List.getElem?_eq_some_iff.1 hx).1
        have h2 := (List.getElem?_eq_some_iff.1 hy').1
        simp [hy] at h1 h2
        omega
  · have : g = n := by omega
    subst this
    apply Zed.A3x0i
    simp [reps] at ho
    refine ⟨_, _, _, ys, rfl, Nat.le_refl _, hs, ⟨hy, .inr ⟨h.length, rfl, Nat.le_refl _, ho⟩⟩, by omega, fun k x i hx hi => ?_, hsep, hnn⟩
    obtain ⟨p1, p2, p3⟩ := hrep k x i hx hi
    exact ⟨p1, p2, p3.keep (by omega) fun _ _ _ => rfl⟩
theorem Zuz {h : Zaa} {i : Nat} {t : TypeId} {x y v : Zag} (hi : h[i]? = some (.cells t [x, y] false)) : Zbc h (.ptr (some (i, 0))) [v] = some (h.set i (.cells t [v, y] false)) := by
  rw [Zbb hi (by simp)]; rfl
theorem Zte {h : Zaa} {i : Nat} {t : TypeId} {x y v : Zag} (hi : h[i]? = some (.cells t [x, y] false)) : Zbc h (.ptr (some (i, 1))) [v] = some (h.set i (.cells t [x, v] false)) := by
  rw [Zbb hi (by simp)]; rfl
theorem Zzl {h : Zaa} {i : Nat} {t : TypeId} {x y a b : Zag} (hi : h[i]? = some (.cells t [x, y] false)) : Zbc h (.ptr (some (i, 0))) [a, b] = some (h.set i (.cells t [a, b] false)) := by
  rw [Zbb hi (by simp)]; rfl
theorem Zch {h : Zaa} {i : Nat} {t : TypeId} {x y : Zag} {ro : Bool} (hi : h[i]? = some (.cells t [x, y] ro)) : Zbw h (.ptr (some (i, 0))) 2 = some [x, y] := by
  rw [Zha hi (by simp)]; rfl
theorem Zmd {h : Zaa} {a0 a1 : Pt} {n0 c0 n1 c1 : Nat} {e0 e1 : Bool} {w : Wd} (r : Zln h a0 n0 c0 a1 n1 c1 w) (b : WB w) :
    Zae pg Zfe [.agg [.slice a0 n0 c0 e0, .slice a1 n1 c1 e1]] h fun v h' => ∃ b0 d0 f0 b1 d1 f1 ys, v = .agg [.slice b0 n0 d0 f0, .slice b1 n1 d1 f1] ∧ n0 ≤ d0 ∧ n1 ≤ d1 ∧ Zbd h.length h h' ∧ Zgu h.length h' b0 n0 b1 n1 ys w := by
  have hl0 := r.len0
  have hlc := b.lc
  apply Zmq.call
  simp only [Zbf]
  generalize hh0 : h ++ [Zck.cells Zdf [.slice a0 n0 c0 e0, .slice a1 n1 c1 e1] false] = h0
  generalize hh1 : h0 ++ [Zck.cells Zac [.slice none 0 0 true, .slice none 0 0 true] false] = h1
  generalize hh2 : h1 ++ [Zck.cells Zac [.slice none 0 0 true, .slice none 0 0 true] false] = h2
  have s0 : Zbd h.length h h0 := by rw [← hh0]; exact Zax
  have s1 : Zbd h0.length h0 h1 := by rw [← hh1]; exact Zax
  have s2 : Zbd h1.length h1 h2 := by rw [← hh2]; exact Zax
  have l0 : h0.length = h.length + 1 := by rw [← hh0]; simp
  have l1 : h1.length = h.length + 2 := by rw [← hh1]; simp [l0]
  have l2 : h2.length = h.length + 3 := by rw [← hh2]; simp [l1]
  have x0 : h0[h.length]? = some (.cells Zdf [.slice a0 n0 c0 e0, .slice a1 n1 c1 e1] false) := by rw [← hh0]; simp
  have y1 : h1[h0.length]? = some (.cells Zac [.slice none 0 0 true, .slice none 0 0 true] false) := by rw [← hh1]; simp
  have z2 : h2[h1.length]? = some (.cells Zac [.slice none 0 0 true, .slice none 0 0 true] false) := by rw [← hh2]; simp
  have x2 := s2.get (s1.get x0 (by omega)) (by omega)
  have y2 := s2.get y1 (by omega)
  have S2 := (s0.cat s1).cat s2
  simp only [Nat.add_zero, Nat.zero_add, Zau x2, List.getElem?_cons_zero, Zaf]
  refine (Zut (r.cls.same' S2) (by omega)).mono ?_
  rintro v h3 ⟨b0, d0, f0, rfl, s3, g3, hd0⟩
  simp only [Zaf]
  have z3 := s3.get z2 (by omega)
  have x3 := s3.get x2 (by omega)
  have y3 := s3.get y2 (by omega)
  have l3 := s3.le
  rw [Zuz z3]
  simp only [Zar]
  have x4 : (h3.set h1.length (.cells Zac [.slice b0 n0 d0 f0, .slice none 0 0 true] false))[h.length]? = some (.cells Zdf [.slice a0 n0 c0 e0, .slice a1 n1 c1 e1] false) := by rw [Zbl (by omega)]; exact x3
  have y4 : (h3.set h1.length (.cells Zac [.slice b0 n0 d0 f0, .slice none 0 0 true] false))[h0.length]? = some (.cells Zac [.slice none 0 0 true, .slice none 0 0 true] false) := by rw [Zbl (by omega)]; exact y3
  have z4 : (h3.set h1.length (.cells Zac [.slice b0 n0 d0 f0, .slice none 0 0 true] false))[h1.length]? = some (.cells Zac [.slice b0 n0 d0 f0, .slice none 0 0 true] false) := Zbn z3
  have S4 : Zbd h.length h (h3.set h1.length (.cells Zac [.slice b0 n0 d0 f0, .slice none 0 0 true] false)) := (S2.cat s3).set' (by omega)
  have g4 : Zbr Zan eP (h.length + 3) (h3.set h1.length (.cells Zac [.slice b0 n0 d0 f0, .slice none 0 0 true] false)) b0 n0 w.cs := g3.keep (by omega) fun j hj _ => by rw [Zbl (by omega)]
  generalize hh4 : h3.set h1.length (.cells Zac [.slice b0 n0 d0 f0, .slice none 0 0 true] false) = h4 at *
  have l4 : h4.length = h3.length := by rw [← hh4]; simp
  simp only [Zau x4, List.getElem?_cons_succ, List.getElem?_cons_zero, Zaf]
  refine (Zrc (r.same S4) b).mono ?_
  rintro v h5 ⟨b1, d1, f1, ys, rfl, hd1, s5, g5, hyl, hrep, hsep, hnn⟩
  simp only [Zaf]
  have l5 := s5.le
  have y5 := s5.get y4 (by omega)
  have z5 := s5.get z4 (by omega)
  rw [Zte z5]
  simp only [Zar]
  rw [Zch (Zbn z5)]
  simp only [Zaq, Zah, Zap, Zaf]
  have y6 : (h5.set h1.length (.cells Zac [.slice b0 n0 d0 f0, .slice b1 n1 d1 f1] false))[h0.length]? = some (.cells Zac [.slice none 0 0 true, .slice none 0 0 true] false) := by rw [Zbl (by omega)]; exact y5
  rw [Zzl y6]
  simp only [Zar]
  rw [Zch (Zbn y6)]
  simp only [Zaq, Zah, Zap, Zaf]
  refine ⟨_, _, _, _, _, _, ys, rfl, hd0, hd1, ((S4.cat s5).set' (by omega)).set' (by omega), ?_⟩
  have kp : ∀ j, h.length + 3 ≤ j → j < h5.length → ((h5.set h1.length (.cells Zac [.slice b0 n0 d0 f0, .slice b1 n1 d1 f1] false)).set h0.length (.cells Zac [.slice b0 n0 d0 f0, .slice b1 n1 d1 f1] false))[j]? = h5[j]? := fun j hj _ => by rw [Zbl (by omega), Zbl (by omega)]
  exact ⟨(g4.same s5).keep (by omega) fun j hj hj2 => kp j hj hj2, g5.keep (by omega) fun j hj hj2 => kp j (by omega) hj2, hyl, fun k x i hx hi => by
    obtain ⟨p1, p2, p3⟩ := hrep k x i hx hi
    exact ⟨p1, p2, p3.keep (by omega) fun j hj hj2 => kp j (by omega) hj2⟩, hsep, hnn⟩

theorem Zsi {h : Zaa} {a a' : Pt} {n n' c c' : Nat} {e e' : Bool} {i : Ins} (r : Row h.length h a (n * 2) (Zbv eP i.2)) (r' : Row h.length h a' (n' * 2) (Zbv eP i.2)) (hn : n ≤ 1048576) :
    Zae pg Zhm [.agg [.str i.1.1, .str i.1.2, .slice a n c e], .agg [.str i.1.1, .str i.1.2, .slice a' n' c' e']] h fun v h' => v = .bool true ∧ Zbd h.length h h' := by
  apply Zkg.call
  simp only [Zbf]
  generalize hh0 : h ++ [Zck.cells Zab [.str i.1.1, .str i.1.2, .slice a n c e] false] = h0
  generalize hh1 : h0 ++ [Zck.cells Zab [.str i.1.1, .str i.1.2, .slice a' n' c' e'] false] = h1
  have s0 : Zbd h.length h h0 := by rw [← hh0]; exact Zax
  have s1 : Zbd h0.length h0 h1 := by rw [← hh1]; exact Zax
  have x0 : h0[h.length]? = some (.cells Zab [.str i.1.1, .str i.1.2, .slice a n c e] false) := by rw [← hh0]; simp
  have y1 : h1[h0.length]? = some (.cells Zab [.str i.1.1, .str i.1.2, .slice a' n' c' e'] false) := by rw [← hh1]; simp
  have x1 := s1.get x0 (Own.lt x0)
  simp only [Nat.add_zero, Nat.zero_add]
  rw [Yan x1, Yan y1]
  simp only [Zaq, Zah, Zap, Zal]
  refine Zuh.mono ?_
  rintro v h2 ⟨rfl, s2⟩
  simp only [Zat, decide_true, Bool.and_self, Bool.not_true, Zbj]
  simp only [Zau (s2.get x1 (Own.lt x1)), Zau (s2.get y1 (Own.lt y1)), List.getElem?_cons_succ, List.getElem?_cons_zero, Zaf]
  have S2 := (s0.cat s1).cat s2
  refine (Zyz (r.same' S2) (r'.same' S2) (by omega) rfl).mono ?_
  rintro v h3 ⟨rfl, s3⟩
  simp only [Zat, Bool.not_true, Zbj]
  exact ⟨by trivial, S2.cat s3⟩
theorem Zqs {h : Zaa} {a a' x x' : Pt} {n n' c c' m m' d d' : Nat} {e e' : Bool} {w : Wd} (r : Zln h x m d a n c w) (r' : Zln h x' m' d' a' n' c' w) (b : WB w) :
    Zae pg Zgx [.slice a n c e, .slice a' n' c' e'] h fun v h' => v = .bool true ∧ Zbd h.length h h' := by
  have hl := r.len1
  have hl' := r'.len1
  have hli := b.li
  have : n' = n := by omega
  subst this
  apply Zef.call
  simp only [beq_self_eq_true, Bool.not_true, Zbj]
  refine Zef.L4ind _ _ _ _ _ _ _ _ _ (J := fun (k : Nat) x5 h' => Zbd h.length h h' ∧ x5 = (k : Int) ∧ k ≤ n') (fun k => n' - k) ?_ 0 0 h ⟨Zbd.refl _ _, rfl, by omega⟩
  rintro k x5 h' ⟨hs, rfl, hk⟩ R hR
  unfold Zef.L4t
  refine Zam (fun hlt => ?_) (fun hge => Zef.A4x0i _ _ ⟨rfl, hs⟩)
  obtain ⟨i, o, hgl, a2, n2, c2, e2, rfl, _, hr, _, _, _, hrow, hn⟩ := (r.same hs).inst (k := k) (by omega)
  obtain ⟨i', o', hgl', a2', n2', c2', e2', rfl, _, hr', _, _, _, hrow', hn'⟩ := (r'.same hs).inst (k := k) (by omega)
  have hb := b.is _ (List.getElem_mem hgl)
  simp only [Zba, Int.toNat_natCast, hr, hr', Zaq, Zah, Zap, Zal, Zaf, true_and]
  refine ⟨⟨by omega, by omega⟩, ⟨by omega, by omega⟩, (Zsi (i := w.is[k]) hrow hrow' (by omega)).mono ?_⟩
  rintro v h1 ⟨rfl, s1⟩
  simp only [Zat, Bool.not_true, Zbj]
  rw [Zcd (by omega)]
  exact hR (k + 1) _ _ (by omega) ⟨hs.cat s1, rfl, by omega⟩
theorem Zmf {h : Zaa} {a0 a1 b0 b1 : Pt} {n0 c0 n1 c1 m0 d0 m1 d1 : Nat} {e0 e1 f0 f1 : Bool} {w : Wd} (r : Zln h a0 n0 c0 a1 n1 c1 w) (r' : Zln h b0 m0 d0 b1 m1 d1 w) (b : WB w) :
    Zae pg Zfc [.agg [.slice a0 n0 c0 e0, .slice a1 n1 c1 e1], .agg [.slice b0 m0 d0 f0, .slice b1 m1 d1 f1]] h fun v h' => v = .bool true ∧ Zbd h.length h h' := by
  have hl := r.len0
  have hlc := b.lc
  apply Zmn.call
  simp only [Zbf]
  generalize hh0 : h ++ [Zck.cells Zac [.slice a0 n0 c0 e0, .slice a1 n1 c1 e1] false] = h0
  generalize hh1 : h0 ++ [Zck.cells Zac [.slice b0 m0 d0 f0, .slice b1 m1 d1 f1] false] = h1
  have s0 : Zbd h.length h h0 := by rw [← hh0]; exact Zax
  have s1 : Zbd h0.length h0 h1 := by rw [← hh1]; exact Zax
  have x0 : h0[h.length]? = some (.cells Zac [.slice a0 n0 c0 e0, .slice a1 n1 c1 e1] false) := by rw [← hh0]; simp
  have y1 : h1[h0.length]? = some (.cells Zac [.slice b0 m0 d0 f0, .slice b1 m1 d1 f1] false) := by rw [← hh1]; simp
  have x1 := s1.get x0 (Own.lt x0)
  simp only [Nat.add_zero, Nat.zero_add, Zau x1, Zau y1, List.getElem?_cons_zero, Zaf]
  have S1 := s0.cat s1
  refine (Zur (r.cls.same' S1) (r'.cls.same' S1) (by omega) rfl).mono ?_
  rintro v h2 ⟨rfl, s2⟩
  simp only [Zat, Bool.not_true, Zbj, Zau (s2.get x1 (Own.lt x1)), Zau (s2.get y1 (Own.lt y1)), List.getElem?_cons_succ, List.getElem?_cons_zero, Zaf]
  refine (Zqs (r.same (S1.cat s2)) (r'.same (S1.cat s2)) b).mono ?_
  rintro v h3 ⟨rfl, s3⟩
  simp only [Zat, Bool.not_true, Zbj]
  exact ⟨by trivial, (S1.cat s2).cat s3⟩
end Go.Sim

set_option linter.unusedVariables false
set_option linter.unusedSimpArgs false
set_option maxRecDepth 20000
namespace Go.Sim
open Go Go.RowKit

theorem Zii.same {S : Nat → Prop} {h h' : Zaa} (s : Zbd h.length h h') : ∀ {t : Ty} {v : List Zag}, Zii S h t v → Zii S h' t v
  | .k d, _, h => h
  | .u d x, _, ⟨j, c, e, r, hv, sj, hj, hr⟩ => ⟨j, c, e, r, hv, sj, s.get hj (Own.lt hj), hr.same s⟩
  | .w d x y, _, ⟨j, c, e, r, r', hv, sj, hj, hr, hr'⟩ => ⟨j, c, e, r, r', hv, sj, s.get hj (Own.lt hj), hr.same s, hr'.same s⟩
end Go.Sim

set_option linter.unusedVariables false
set_option linter.unusedSimpArgs false
set_option maxRecDepth 20000
namespace Go.Sim
open Go Go.RowKit

theorem Znf.keep {S : Nat → Prop} {h h' : Zaa} (hh : ∀ j, S j → j < h.length → h'[j]? = h[j]?) : ∀ {t : Ty} {p : Pt}, Znf S h t p → Znf S h' t p
  | .k d, p, ⟨i, a, c, e, hp, si, hi⟩ => ⟨i, a, c, e, hp, si, by rw [hh i si (Own.lt hi)]; exact hi⟩
  | .u d x, p, ⟨i, j, c, e, q, hp, si, hi, sj, hj, hq⟩ => ⟨i, j, c, e, q, hp, si, by rw [hh i si (Own.lt hi)]; exact hi, sj, by rw [hh j sj (Own.lt hj)]; exact hj, hq.keep hh⟩
  | .w d x y, p, ⟨i, j, c, e, q, r, hp, si, hi, sj, hj, hq, hr⟩ => ⟨i, j, c, e, q, r, hp, si, by rw [hh i si (Own.lt hi)]; exact hi, sj, by rw [hh j sj (Own.lt hj)]; exact hj, hq.keep hh, hr.keep hh⟩
theorem Znf.same {S : Nat → Prop} {h h' : Zaa} {t : Ty} {p : Pt} (r : Znf S h t p) (s : Zbd h.length h h') : Znf S h' t p := r.keep fun j _ hj => s.eq j hj
theorem Zii.keep {S : Nat → Prop} {h h' : Zaa} (hh : ∀ j, S j → j < h.length → h'[j]? = h[j]?) : ∀ {t : Ty} {v : List Zag}, Zii S h t v → Zii S h' t v
  | .k d, _, h => h
  | .u d x, _, ⟨j, c, e, r, hv, sj, hj, hr⟩ => ⟨j, c, e, r, hv, sj, by rw [hh j sj (Own.lt hj)]; exact hj, hr.keep hh⟩
  | .w d x y, _, ⟨j, c, e, r, r', hv, sj, hj, hr, hr'⟩ => ⟨j, c, e, r, r', hv, sj, by rw [hh j sj (Own.lt hj)]; exact hj, hr.keep hh, hr'.keep hh⟩
theorem Zii.get {S : Nat → Prop} {h : Zaa} {t : Ty} {a : Pt} {vs : List (List Zag)} (hrow : Row h.length h a (t.ps.length * 2) vs.flatten) (hvl : vs.length = t.ps.length) (hp : ∀ (k : Nat) (w : List Zag) (x : Ty), vs[k]? = some w → t.ps[k]? = some x → Zii S h x w) {g : Nat} (hg' : g < t.ps.length) :
    ∃ i o a2 c2 e2, a = some (i, o) ∧ Zbw h (.ptr (some (i, o + g * 2))) 2 = some [.int .u8 (t.ps[g].hd : Int), .slice a2 t.ps[g].ps.length c2 e2] ∧ Zii S h t.ps[g] [.int .u8 (t.ps[g].hd : Int), .slice a2 t.ps[g].ps.length c2 e2] := by
  have hgv : g < vs.length := by omega
  have hk := hp g vs[g] t.ps[g] (List.getElem?_eq_getElem hgv) (List.getElem?_eq_getElem hg')
  have hz : ∀ v ∈ vs, v.length = 2 := fun v hv => by
    obtain ⟨k, hk, rfl⟩ := List.mem_iff_getElem.1 hv
    exact (hp k vs[k] (t.ps[k]'(by omega)) (List.getElem?_eq_getElem hk) (List.getElem?_eq_getElem (by omega))).len
  have hfl : vs.flatten = Zbv (fun (v : {v : List Zag // v.length = 2}) => v.1) (vs.attach.map fun v => ⟨v.1, hz v.1 v.2⟩) := by
    unfold Zbv; rw [List.flatMap_map]; simp
  rw [hfl] at hrow
  obtain ⟨i, o, hk', ha, _, hr, _⟩ := Row.el (enc := fun (v : {v : List Zag // v.length = 2}) => v.1) (fun x => x.2) hrow (by simp [hvl]) (k := g) hg' (by omega)
  obtain ⟨a2, c2, e2, hv2⟩ := hk.shape
  rw [hv2] at hk
  exact ⟨i, o, a2, c2, e2, ha, by rw [hr]; simp [hv2], hk⟩
end Go.Sim

set_option linter.unusedVariables false
namespace Go.Sim
open Go Go.RowKit Go.Maps Go.Sort Go.Shelf Go.Proofs
end Go.Sim

set_option linter.unusedSimpArgs false
set_option linter.unusedVariables false
namespace Go.Sim

abbrev Bd := List (Nat × Ty)
def Zpf : Bd → Nat → Option Ty
  | [], _ => none
  | (v, t) :: m, x => if v = x then some t else Zpf m x
def Ygg (m : Bd) (v : Nat) (t : Ty) : Option Bd := match Zpf m v with | some t' => if t' = t then some m else none | none => some (m ++ [(v, t)])
def matchT : Bd → Ty → Ty → Option Bd
  | m, .k c, t => if Zgr c then Ygg m c t else if c = t.hd then some m else none
  | m, .u c a, t => if c = t.hd then (match t.ps with | [x] => matchT m a x | _ => none) else none
  | m, .w c a b, t => if c = t.hd then (match t.ps with | [x, y] => (match matchT m a x with | some m1 => matchT m1 b y | none => none) | _ => none) else none
structure BOk (n : Nat) (m : Bd) : Prop where
  var : ∀ p ∈ m, Zgr p.1 = true ∧ p.2.ok = true ∧ p.2.txt.length ≤ n
  nd : (m.map (·.1)).Nodup
theorem Ztl : ∀ {m : Bd} {v : Nat}, Zpf m v = none ↔ v ∉ m.map (·.1)
  | [], v => by simp [Zpf]
  | (w, u) :: m, v => by
    simp only [Zpf]
    by_cases e : w = v
    · simp [e]
    · simp only [e, if_false, Ztl (m := m), List.map_cons, List.mem_cons, not_or]
      exact ⟨fun h => ⟨fun e' => e e'.symm, h⟩, fun h => h.2⟩
theorem Zxt {m : Bd} {v x : Nat} {t : Ty} : Zpf (m ++ [(v, t)]) x = match Zpf m x with | some u => some u | none => if v = x then some t else none := by
  induction m with
  | nil => simp [Zpf]
  | cons p m ih =>
    obtain ⟨w, u⟩ := p
    simp only [List.cons_append, Zpf, ih]
    split <;> rfl
theorem BOk.nil {n : Nat} : BOk n [] := ⟨by simp, by simp⟩
theorem BOk.note {n : Nat} {m m' : Bd} {v : Nat} {t : Ty} (b : BOk n m) (hv : Zgr v = true) (ht : t.ok = true) (hn : t.txt.length ≤ n) (h : Ygg m v t = some m') : BOk n m' := by
  unfold Ygg at h
  split at h
  · split at h
    · cases h; exact b
    · cases h
  · rename_i hg
    cases h
    refine ⟨?_, ?_⟩
    · intro p hp
      rcases List.mem_append.1 hp with hp | hp
      · exact b.var p hp
      · simp at hp; subst hp; exact ⟨hv, ht, hn⟩
    · rw [List.map_append, List.nodup_append]
      refine ⟨b.nd, by simp, ?_⟩
      intro x hx y hy e
      simp at hy; subst hy; subst e
      exact Ztl.1 hg hx
theorem Zsx {t x : Ty} (h : x ∈ t.ps) : x.txt.length ≤ t.txt.length := by
  cases t with
  | k c => simp [Ty.ps] at h
  | u c a => simp [Ty.ps] at h; subst h; simp [Ty.txt]; omega
  | w c a b => simp [Ty.ps] at h; rcases h with rfl | rfl <;> simp [Ty.txt] <;> omega
theorem BOk.matchT {n : Nat} : ∀ {a t : Ty} {m m' : Bd}, a.ok = true → t.ok = true → t.txt.length ≤ n → BOk n m → Go.Sim.matchT m a t = some m' → BOk n m'
  | .k c, t, m, m', ha, ht, hn, b, h => by
    simp only [Go.Sim.matchT] at h
    split at h
    · rename_i hv; exact b.note hv ht hn h
    · split at h
      · cases h; exact b
      · cases h
  | .u c a, t, m, m', ha, ht, hn, b, h => by
    simp only [Ty.ok, Bool.and_eq_true] at ha
    simp only [Go.Sim.matchT] at h
    split at h
    · split at h
      · rename_i x hx
        have hm : x ∈ t.ps := by rw [hx]; simp
        exact BOk.matchT ha.2 (Ty.ok_ps ht x hm) (Nat.le_trans (Zsx hm) hn) b h
      · cases h
    · cases h
  | .w c a a2, t, m, m', ha, ht, hn, b, h => by
    simp only [Ty.ok, Bool.and_eq_true] at ha
    simp only [Go.Sim.matchT] at h
    split at h
    · split at h
      · rename_i x y hx
        have hm : x ∈ t.ps := by rw [hx]; simp
        have hm2 : y ∈ t.ps := by rw [hx]; simp
        split at h
        · rename_i m1 h1
          exact BOk.matchT ha.2 (Ty.ok_ps ht y hm2) (Nat.le_trans (Zsx hm2) hn) (BOk.matchT ha.1.2 (Ty.ok_ps ht x hm) (Nat.le_trans (Zsx hm) hn) b h1) h
        · cases h
      · cases h
    · cases h
def bdL (m : Bd) : List Nd := Zhs.filterMap fun v => (Zpf m v).map fun t => ([v], t.txt)
noncomputable def Yez (p s : List Nat) : Option Bd := match Zlm p, Zlm s with | some a, some b => matchT [] a b | _, _ => none
noncomputable def Yil (p s : List Nat) : Bool := (Yez p s).isSome
theorem Zwe : Zhs.Nodup := by decide
end Go.Sim

set_option linter.unusedVariables false
set_option linter.unusedSimpArgs false
set_option maxRecDepth 20000
namespace Go.Sim
open Go Go.RowKit

def Yih (h : Zaa) (i : Nat) (m : Bd) : Prop := ∃ es clk, h[i]? = some (.map es clk) ∧ es.map (·.1) = m.map (fun p => Zag.str [p.1]) ∧ es.map (·.2.1) = m.map (fun p => Zag.str p.2.txt) ∧ (es.map (·.2.2)).Nodup ∧ ∀ e ∈ es, e.2.2 < clk
theorem Yih.eq {h h' : Zaa} {i : Nat} {m : Bd} (r : Yih h i m) (he : h'[i]? = h[i]?) : Yih h' i m := by
  obtain ⟨es, clk, h1, x⟩ := r
  exact ⟨es, clk, by rw [he]; exact h1, x⟩
theorem Yih.lt {h : Zaa} {i : Nat} {m : Bd} (r : Yih h i m) : i < h.length := by obtain ⟨es, clk, h1, _⟩ := r; exact Own.lt h1
end Go.Sim

set_option linter.unusedVariables false
set_option linter.unusedSimpArgs false
set_option maxRecDepth 20000
namespace Go.Sim
open Go Go.RowKit

theorem Vec.fresh {α : Type} {ty : TypeId} {enc : α → List Zag} {b : Nat} {h : Zaa} {a : Pt} {n c : Nat} {l : List α} (v : Vec ty h a n c (Zbv enc l)) (hn : n = l.length) (ha : ∀ i, a = some (i, 0) → b ≤ i) : Zbr ty enc b h a n l := by
  refine ⟨hn.symm, ?_⟩
  rcases v with ⟨rfl, h0, _⟩ | ⟨i, rfl, hi⟩
  · exact .inl h0
  · exact .inr ⟨i, rfl, ha i rfl, hi⟩
end Go.Sim

set_option linter.unusedSimpArgs false
set_option linter.unusedVariables false
namespace Go.Sim

noncomputable def Yhp (l : List Nd) (i : Nat) : Bool := Znv (l.getD i ([], [])).1 && Zpe (l.getD i ([], [])).2 && (i == 0 || Zea (l.getD (i - 1) ([], [])).1 (l.getD i ([], [])).1)
noncomputable def Yic (l : List Nd) : Bool := (List.range l.length).all (Yhp l)
def Yir (l : List Nd) (c : Nat) : List Nat := match l.find? fun p => decide (p.1 = [c]) with | some p => p.2 | none => [c]
def Ybd (l : List Nd) (t : List Nat) : List Nat := t.flatMap (Yir l)
noncomputable def subst (f : Nat → Option Ty) : Ty → Ty
  | .k c => (f c).getD (.k c)
  | .u c a => .u c (subst f a)
  | .w c a b => .w c (subst f a) (subst f b)
noncomputable def Yhr (l : List Nd) (t : List Nat) : Option (List Nat) := if Yic l && Zpe t && decide ((Ybd l t).length ≤ 60) then some (Ybd l t) else none
noncomputable def Yht (i : Ins) (t : List Nat) : Option (List Nd) :=
  match Yez i.1.2 t with
  | none => none
  | some m => if i.2.all fun n => (Yhr (bdL m) n.2).isSome then some (i.2.map fun n => (n.1, Ybd (bdL m) n.2)) else none
end Go.Sim

set_option linter.unusedVariables false
set_option linter.unusedSimpArgs false
set_option maxRecDepth 20000
namespace Go.Sim
open Go Go.RowKit

end Go.Sim

set_option linter.unusedVariables false
set_option linter.unusedSimpArgs false
set_option maxRecDepth 20000
namespace Go.Sim
open Go Go.RowKit

def eR (x : Zag × Zag) : List Zag := [x.1, x.2]
theorem Zmk (x : Zag × Zag) : (eR x).length = 2 := rfl
theorem Zxj {α : Type} {enc : α → List Zag} {w : Nat} (hw : ∀ x, (enc x).length = w) : ∀ {l : List α} {k : Nat} {x : α}, k < l.length → Zbi (Zbv enc l) (k * w) (enc x) = Zbv enc (l.set k x)
  | [], k, x, h => by simp at h
  | y :: l, 0, x, _ => by
    simp only [Nat.zero_mul, Zem, List.set_cons_zero, Zbi, List.take_zero, List.nil_append, Nat.zero_add, hw]
    rw [← hw y, List.drop_left]
  | y :: l, k + 1, x, h => by
    have ih := Zxj hw (l := l) (k := k) (x := x) (by simpa using h)
    unfold Zbi at ih ⊢
    simp only [Zem, List.set_cons_succ]
    rw [← ih, Nat.succ_mul, Nat.add_comm (k * w) w, ← hw y, List.take_length_add_append, Nat.add_assoc, List.drop_length_add_append]; simp only [List.append_assoc]
def Zpq (S : Nat → Prop) (h : Zaa) (i : Nat) (m : Bd) : Prop := ∃ rows : List (Zag × Zag), rows.length = 12 ∧ h[i]? = some (.cells Zhz (Zbv eR rows) false) ∧
  ∀ (k : Nat) (x : Zag × Zag), rows[k]? = some x → match (Zhs[k]?).bind (Zpf m) with | some t => Zii S h t (eR x) | none => x = (.int .u8 0, .slice none 0 0 true)
theorem Zpq.keep {S : Nat → Prop} {h h' : Zaa} {i : Nat} {m : Bd} (r : Zpq S h i m) (hi : h'[i]? = h[i]?) (hh : ∀ j, S j → j < h.length → h'[j]? = h[j]?) : Zpq S h' i m := by
  obtain ⟨rows, h1, h2, h3⟩ := r
  refine ⟨rows, h1, by rw [hi]; exact h2, fun k x hx => ?_⟩
  have := h3 k x hx
  split at this
  · exact this.keep hh
  · exact this
theorem Zpq.same {S : Nat → Prop} {h h' : Zaa} {i : Nat} {m : Bd} (r : Zpq S h i m) (s : Zbd h.length h h') : Zpq S h' i m := by
  have hl : i < h.length := by obtain ⟨_, _, h2, _⟩ := r; exact Own.lt h2
  exact r.keep (s.eq i hl) fun j _ hj => s.eq j hj
theorem Zpq.lt {S : Nat → Prop} {h : Zaa} {i : Nat} {m : Bd} (r : Zpq S h i m) : i < h.length := by obtain ⟨_, _, h2, _⟩ := r; exact Own.lt h2
theorem Zpq.nil {S : Nat → Prop} {h : Zaa} {i : Nat} (hi : h[i]? = some (.cells Zhz (Zbv eR (List.replicate 12 (.int .u8 0, .slice none 0 0 true))) false)) : Zpq S h i [] := by
  refine ⟨_, by simp, hi, fun k x hx => ?_⟩
  have : (Zhs[k]?).bind (Zpf []) = none := by cases Zhs[k]? <;> rfl
  rw [this]
  rw [List.getElem?_replicate] at hx
  split at hx
  · cases hx; rfl
  · cases hx
theorem Zpq.get {S : Nat → Prop} {h : Zaa} {i : Nat} {m : Bd} (r : Zpq S h i m) {k : Nat} (hk : k < 12) : ∃ x : Zag × Zag, Zai h (.ptr (some (i, 0 + k * 2 + 0))) = some x.1 ∧ Zbw h (.ptr (some (i, 0 + k * 2))) 2 = some [x.1, x.2] ∧
    match (Zhs[k]?).bind (Zpf m) with | some t => Zii S h t [x.1, x.2] | none => x = (.int .u8 0, .slice none 0 0 true) := by
  obtain ⟨rows, h1, h2, h3⟩ := r
  have hrow : Row h.length h (some (i, 0)) (12 * 2) (Zbv eR rows) := ⟨by rw [Zaw Zmk, h1], .inr ⟨i, 0, _, _, _, rfl, Own.lt h2, h2, by rw [Zaw Zmk, h1]; simp, by rw [List.drop_zero, List.take_of_length_le (by rw [Zaw Zmk, h1]; simp)]⟩⟩
  obtain ⟨i', o', hk', he, _, hr, hc⟩ := Row.el Zmk hrow h1 hk (by omega)
  cases he
  exact ⟨rows[k], by have := hc 0 (by omega); simpa [eR] using this, hr, h3 k _ (List.getElem?_eq_getElem hk')⟩
def Yet (S : Nat → Prop) (h : Zaa) (i : Nat) (m : Bd) : Prop := ∃ rows : List (Zag × Zag), rows.length = 12 ∧ h[i]? = some (.cells Zhz (Zbv eR rows) false) ∧
  ∀ (k : Nat) (x : Zag × Zag), k < 6 → rows[k]? = some x → match (Zhs[k]?).bind (Zpf m) with | some t => Zii S h t (eR x) | none => x = (.int .u8 0, .slice none 0 0 true)
theorem Zpq.w {S : Nat → Prop} {h : Zaa} {i : Nat} {m : Bd} (r : Zpq S h i m) : Yet S h i m := by
  obtain ⟨rows, h1, h2, h3⟩ := r
  exact ⟨rows, h1, h2, fun k x _ hx => h3 k x hx⟩
theorem Yet.lt {S : Nat → Prop} {h : Zaa} {i : Nat} {m : Bd} (r : Yet S h i m) : i < h.length := by obtain ⟨_, _, h2, _⟩ := r; exact Own.lt h2
theorem Yet.same {S : Nat → Prop} {h h' : Zaa} {i : Nat} {m : Bd} (r : Yet S h i m) (s : Zbd h.length h h') : Yet S h' i m := by
  obtain ⟨rows, h1, h2, h3⟩ := r
  refine ⟨rows, h1, by rw [s.eq i (Own.lt h2)]; exact h2, fun k x hk hx => ?_⟩
  have := h3 k x hk hx
  split at this
  · exact this.keep fun j _ hj => s.eq j hj
  · exact this
theorem Yet.get {S : Nat → Prop} {h : Zaa} {i : Nat} {m : Bd} (r : Yet S h i m) {k : Nat} (hk : k < 6) : ∃ x : Zag × Zag, Zai h (.ptr (some (i, 0 + k * 2 + 0))) = some x.1 ∧ Zbw h (.ptr (some (i, 0 + k * 2))) 2 = some [x.1, x.2] ∧
    match (Zhs[k]?).bind (Zpf m) with | some t => Zii S h t [x.1, x.2] | none => x = (.int .u8 0, .slice none 0 0 true) := by
  obtain ⟨rows, h1, h2, h3⟩ := r
  have hrow : Row h.length h (some (i, 0)) (12 * 2) (Zbv eR rows) := ⟨by rw [Zaw Zmk, h1], .inr ⟨i, 0, _, _, _, rfl, Own.lt h2, h2, by rw [Zaw Zmk, h1]; simp, by rw [List.drop_zero, List.take_of_length_le (by rw [Zaw Zmk, h1]; simp)]⟩⟩
  obtain ⟨i', o', hk', he, _, hr, hc⟩ := Row.el Zmk hrow h1 (show k < 12 by omega) (by omega)
  cases he
  exact ⟨rows[k], by have := hc 0 (by omega); simpa [eR] using this, hr, h3 k _ hk (List.getElem?_eq_getElem hk')⟩
theorem Zpq.put {S : Nat → Prop} {h : Zaa} {i : Nat} {m : Bd} (r : Zpq S h i m) (hSi : ∀ j, S j → j ≠ i) {k v : Nat} (hk : Zhs[k]? = some v) (hg : Zpf m v = none) {t : Ty} {x y : Zag} (ht : Zii S h t [x, y]) :
    ∃ h', Zbc h (.ptr (some (i, 0 + k * 2))) [x, y] = some h' ∧ Zjx i h h' ∧ Zpq S h' i (m ++ [(v, t)]) := by
  obtain ⟨rows, h1, h2, h3⟩ := r
  have hk6 : k < 6 := (List.getElem?_eq_some_iff.1 hk).1
  have hput : Zbi (Zbv eR rows) (k * 2) (eR (x, y)) = Zbv eR (rows.set k (x, y)) := Zxj Zmk (by omega)
  refine ⟨h.set i (.cells Zhz (Zbv eR (rows.set k (x, y))) false), ?_, Zjx.set _ _ _, ?_⟩
  · rw [Nat.zero_add, Zbb h2 (by rw [Zaw Zmk, h1]; simp; omega), ← hput]; rfl
  · have hkeep : ∀ j, S j → j < h.length → (h.set i (.cells Zhz (Zbv eR (rows.set k (x, y))) false))[j]? = h[j]? := fun j hj _ => Zbl (fun e => hSi j hj e.symm)
    refine ⟨_, by simp [h1], Zbn h2, fun k' x' hx' => ?_⟩
    by_cases e : k = k'
    · subst e
      rw [List.getElem?_set_self (by omega)] at hx'
      cases hx'
      rw [hk]
      simp only [Option.bind_some, Zxt, hg, if_true]
      exact ht.keep hkeep
    · rw [List.getElem?_set_ne e] at hx'
      have := h3 k' x' hx'
      have hb : (Zhs[k']?).bind (Zpf (m ++ [(v, t)])) = (Zhs[k']?).bind (Zpf m) := by
        cases hv' : Zhs[k']? with
        | none => rfl
        | some w =>
          simp only [Option.bind_some, Zxt]
          cases hb : Zpf m w with
          | some u => rfl
          | none =>
            have : ¬ v = w := fun e' => by
              subst e'
              have h5 := List.getElem?_eq_some_iff.1 hk
              have h6 := List.getElem?_eq_some_iff.1 hv'
              exact e ((List.getElem_inj (h₀ := h5.1) (h₁ := h6.1) Zwe).1 (h5.2.trans h6.2.symm))
            simp [this]
      rw [hb]
      split at this
      · exact this.keep hkeep
      · exact this
theorem Zjx.of_same {i : Nat} {h h' : Zaa} (s : Zbd h.length h h') : Zjx i h h' := ⟨s.le, fun j hj _ => s.eq j hj⟩
end Go.Sim

set_option linter.unusedVariables false
set_option linter.unusedSimpArgs false
set_option maxRecDepth 20000
namespace Go.Sim
open Go Go.RowKit

end Go.Sim

set_option linter.unusedVariables false
set_option linter.unusedSimpArgs false
set_option maxRecDepth 20000
namespace Go.Sim
open Go Go.RowKit

theorem Zii.below {S : Nat → Prop} {h : Zaa} : ∀ {t : Ty} {v : List Zag}, Zii S h t v → Zii (fun j => S j ∧ j < h.length) h t v
  | .k d, _, h => h
  | .u d x, _, ⟨j, c, e, r, hv, sj, hj, hr⟩ => ⟨j, c, e, r, hv, ⟨sj, Own.lt hj⟩, hj, hr.below⟩
  | .w d x y, _, ⟨j, c, e, r, r', hv, sj, hj, hr, hr'⟩ => ⟨j, c, e, r, r', hv, ⟨sj, Own.lt hj⟩, hj, hr.below, hr'.below⟩
end Go.Sim

set_option linter.unusedVariables false
set_option linter.unusedSimpArgs false
set_option maxRecDepth 20000
namespace Go.Sim
open Go Go.RowKit

def Ygh (p : Nd) : Prop := Zpg p.1.length ∧ Zpg p.2.length ∧ (∀ b ∈ p.1, b < 256) ∧ ∀ b ∈ p.2, b < 256
theorem Yav {P : Program} {h : Zaa} {f : Nat} {e : TypeId} {f0 f1 : Field} {v : List Zag} {d : Dt} (he : P.underlying e = some (.struct #[f0, f1])) (h0 : P.underlying f0.type = some .string) (h1 : P.underlying f1.type = some .string) (hr : rd P h (f + 2) e v d) :
    ∃ p : Nd, v = eP p ∧ Ygh p := by
  unfold rd at hr
  rw [he] at hr
  obtain ⟨ds', vs', rfl, hd1, hd2, rfl, hall'⟩ := hr
  match vs', ds', hd2, hd1 with
  | [u, w], [x, y], _, _ =>
    have g0 := (hall' 0 f0 u x rfl rfl rfl).2
    have g1 := (hall' 1 f1 w y rfl rfl rfl).2
    simp only [rd, h0] at g0
    simp only [rd, h1] at g1
    obtain ⟨s, rfl, _, hs1, hs2⟩ := g0
    obtain ⟨t, rfl, _, ht1, ht2⟩ := g1
    exact ⟨(s, t), rfl, hs1, ht1, hs2, ht2⟩
theorem Ycj {P : Program} {h : Zaa} {f : Nat} {e : TypeId} {α : Type} {enc : α → List Zag} {G : α → Prop} (el : ∀ v d, rd P h f e v d → ∃ x : α, v = enc x ∧ G x) :
    ∀ (vs : List (List Zag)) (ds : List Dt), ds.length = vs.length → (∀ (i : Nat) (v : List Zag) (x : Dt), vs[i]? = some v → ds[i]? = some x → v.length = P.cellsOf e ∧ rd P h f e v x) →
    ∃ l : List α, l.length = vs.length ∧ vs.flatten = Zbv enc l ∧ ∀ x ∈ l, G x
  | [], _, _, _ => ⟨[], rfl, rfl, by simp⟩
  | v :: vs, [], h, _ => by simp at h
  | v :: vs, d :: ds, hl, hall => by
    obtain ⟨l, hll, hfl, hs⟩ := Ycj el vs ds (by simpa using hl) fun i v x hv hx => hall (i + 1) v x (by simpa using hv) (by simpa using hx)
    obtain ⟨x, rfl, hx⟩ := el v d (hall 0 v d rfl rfl).2
    exact ⟨x :: l, by simp [hll], by simp [hfl], fun y hy => (List.mem_cons.1 hy).elim (fun e => e ▸ hx) (hs y)⟩
theorem Ybh {P : Program} {h : Zaa} {f : Nat} {t e : TypeId} {α : Type} {enc : α → List Zag} {G : α → Prop} {cs : List Zag} {d : Dt} (ht : P.underlying t = some (.slice e)) (el : ∀ v d, rd P h f e v d → ∃ x : α, v = enc x ∧ G x) (hr : rd P h (f + 1) t cs d) :
    ∃ a n c ex, ∃ l : List α, cs = [.slice a n c ex] ∧ Row h.length h a (n * P.cellsOf e) (Zbv enc l) ∧ Zpg n ∧ l.length = n ∧ ∀ x ∈ l, G x := by
  unfold rd at hr
  rw [ht] at hr
  obtain ⟨a, n, c, ex, ds, vs, rfl, rfl, hdl, hn, hvl, hrow, hall⟩ := hr
  obtain ⟨l, hll, hfl, hs⟩ := Ycj el vs ds (by omega) hall
  rw [hfl] at hrow
  exact ⟨a, n, c, ex, l, rfl, hrow, hn, by omega, hs⟩
theorem Zxy {P : Program} {h : Zaa} {f : Nat} {t e : TypeId} {f0 f1 : Field} {cs : List Zag} {d : Dt} (ht : P.underlying t = some (.slice e)) (he : P.underlying e = some (.struct #[f0, f1])) (h0 : P.underlying f0.type = some .string) (h1 : P.underlying f1.type = some .string) (hc : P.cellsOf e = 2)
    (hr : rd P h (f + 3) t cs d) : ∃ a n c ex, ∃ l : List Nd, cs = [.slice a n c ex] ∧ Row h.length h a (n * 2) (Zbv eP l) ∧ Zpg n ∧ l.length = n ∧ ∀ p ∈ l, Ygh p := by
  have := Ybh (enc := eP) (G := Ygh) ht (fun v d hr => Yav he h0 h1 hr) hr
  rwa [hc] at this
def Yiv (h : Zaa) (x : EI) : Prop := ∃ i : Ins, Ygo h x i ∧ Ygh i.1 ∧ Zpg i.2.length ∧ ∀ p ∈ i.2, Ygh p
theorem Ygp {P : Program} {h : Zaa} {f : Nat} {ti tn ts : TypeId} {g0 g1 f0 f1 : Field} {v : List Zag} {d : Dt} (hi : P.underlying ti = some (.struct #[g0, g1])) (hg0 : g0.type = tn) (hg1 : g1.type = ts)
    (he : P.underlying tn = some (.struct #[f0, f1])) (h0 : P.underlying f0.type = some .string) (h1 : P.underlying f1.type = some .string) (hc : P.cellsOf tn = 2) (ht : P.underlying ts = some (.slice tn)) (hr : rd P h (f + 4) ti v d) :
    ∃ x : EI, v = eN x ∧ Yiv h x := by
  unfold rd at hr
  rw [hi] at hr
  obtain ⟨ds', vs', rfl, hd1, hd2, rfl, hall'⟩ := hr
  match vs', ds', hd2, hd1 with
  | [u, w], [x, y], _, _ =>
    have k0 := (hall' 0 g0 u x rfl rfl rfl).2
    have k1 := (hall' 1 g1 w y rfl rfl rfl).2
    rw [hg0] at k0
    rw [hg1] at k1
    obtain ⟨p, rfl, hp⟩ := Yav (f := f + 1) he h0 h1 k0
    obtain ⟨a, n, c, ex, l, rfl, hrow, hn, hll, hl⟩ := Zxy (f := f) ht he h0 h1 hc k1
    exact ⟨⟨p.1, p.2, a, n, c, ex⟩, rfl, (p, l), ⟨rfl, rfl, hrow⟩, hp, by rw [hll]; exact hn, hl⟩
theorem Zpv {h : Zaa} : ∀ {xs : List EI}, (∀ x ∈ xs, Yiv h x) → ∃ is : List Ins, Zqv h xs is ∧ ∀ i ∈ is, Ygh i.1 ∧ Zpg i.2.length ∧ ∀ p ∈ i.2, Ygh p
  | [], _ => ⟨[], ⟨rfl, by simp⟩, by simp⟩
  | x :: xs, hx => by
    obtain ⟨is, ⟨hl, hr⟩, hb⟩ := Zpv (xs := xs) fun y hy => hx y (by simp [hy])
    obtain ⟨i, hi, hib⟩ := hx x (by simp)
    refine ⟨i :: is, ⟨by simp [hl], fun k y j hy hj => ?_⟩, fun j hj => (List.mem_cons.1 hj).elim (fun e => e ▸ hib) (hb j)⟩
    cases k with
    | zero => simp at hy hj; subst hy; subst hj; exact hi
    | succ k => simp at hy hj; exact hr k y j hy hj
theorem rd_world {P : Program} {h : Zaa} {f : Nat} {tw tc tcs ti tis tn ts : TypeId} {w0 w1 q0 q1 g0 g1 f0 f1 : Field} {cs : List Zag} {d : Dt} (hw : P.underlying tw = some (.struct #[w0, w1])) (hw0 : w0.type = tcs) (hw1 : w1.type = tis)
    (hcs : P.underlying tcs = some (.slice tc)) (hct : P.underlying tc = some (.struct #[q0, q1])) (hq0 : P.underlying q0.type = some .string) (hq1 : P.underlying q1.type = some .string) (hcc : P.cellsOf tc = 2)
    (his : P.underlying tis = some (.slice ti)) (hic : P.cellsOf ti = 3) (hi : P.underlying ti = some (.struct #[g0, g1])) (hg0 : g0.type = tn) (hg1 : g1.type = ts)
    (he : P.underlying tn = some (.struct #[f0, f1])) (h0 : P.underlying f0.type = some .string) (h1 : P.underlying f1.type = some .string) (hc : P.cellsOf tn = 2) (ht : P.underlying ts = some (.slice tn)) (hr : rd P h (f + 6) tw cs d) :
    ∃ a0 n0 c0 e0 a1 n1 c1 e1, ∃ w : Wd, cs = [.slice a0 n0 c0 e0, .slice a1 n1 c1 e1] ∧ (n0 ≤ c0 → n1 ≤ c1 → Zln h a0 n0 c0 a1 n1 c1 w) ∧ Yha w := by
  unfold rd at hr
  rw [hw] at hr
  obtain ⟨ds', vs', rfl, hd1, hd2, rfl, hall'⟩ := hr
  match vs', ds', hd2, hd1 with
  | [u, v], [x, y], _, _ =>
    have k0 := (hall' 0 w0 u x rfl rfl rfl).2
    have k1 := (hall' 1 w1 v y rfl rfl rfl).2
    rw [hw0] at k0
    rw [hw1] at k1
    obtain ⟨a0, n0, c0, e0, l0, rfl, hrow0, hn0, hl0, hb0⟩ := Zxy (f := f + 2) hcs hct hq0 hq1 hcc k0
    obtain ⟨a1, n1, c1, e1, l1, rfl, hrow1, hn1, hl1, hb1⟩ := Ybh (f := f + 4) (enc := eN) (G := Yiv h) his (fun v d hr => Ygp hi hg0 hg1 he h0 h1 hc ht hr) k1
    rw [hic] at hrow1
    obtain ⟨is, hrep, hib⟩ := Zpv hb1
    refine ⟨a0, n0, c0, e0, a1, n1, c1, e1, ⟨l0, is⟩, rfl, fun k0 k1 => ⟨hrow0, ⟨l1, hrow1, hrep⟩, k0, k1⟩, ?_⟩
    refine ⟨by rw [show (Wd.mk l0 is).cs.length = n0 from hl0]; exact hn0, ?_, fun p hp => ⟨(hb0 p hp).1, (hb0 p hp).2.1, (hb0 p hp).2.2.1⟩, fun i hi => ?_⟩
    · have : is.length = n1 := by have := hrep.1; omega
      show Zpg is.length
      rw [this]; exact hn1
    · obtain ⟨p1, p2, p3⟩ := hib i hi
      exact ⟨p1.1, p1.2.1, p2, fun p hp => ⟨(p3 p hp).1, (p3 p hp).2.1⟩⟩

end Go.Sim

set_option linter.unusedSimpArgs false
set_option linter.unusedVariables false
namespace Go.Sim

def Ydz : Ty → List Nat
  | .k c => if Zgr c then [c] else []
  | .u c a => Ydz a
  | .w c a b => Ydz a ++ Ydz b
structure Yjv (m m' : Bd) (a t : Ty) : Prop where
  keep : ∀ v u, Zpf m v = some u → Zpf m' v = some u
  sub : subst (Zpf m') a = t
  vars : ∀ v, (Zpf m' v).isSome = true ↔ ((Zpf m v).isSome = true ∨ v ∈ Ydz a)
end Go.Sim

set_option linter.unusedSimpArgs false
set_option linter.unusedVariables false
namespace Go.Sim

structure Yjs (f : Nat → Option Ty) : Prop where
  nv : ∀ v, Zgr v = false → f v = none
  ok : ∀ v t, f v = some t → t.ok = true
noncomputable def after (f g : Nat → Option Ty) (v : Nat) : Option Ty := if Zgr v then some (subst g ((f v).getD (.k v))) else none
noncomputable def Yis (a b : Ins) : Bool := decide (a.1.1 = b.1.1) && Yil b.1.2 a.1.2
end Go.Sim

set_option linter.unusedVariables false
set_option linter.unusedSimpArgs false
set_option maxRecDepth 20000
namespace Go.Sim
open Go Go.RowKit

end Go.Sim

set_option linter.unusedVariables false
set_option linter.unusedSimpArgs false
set_option maxRecDepth 20000
namespace Go.Sim
open Go Go.RowKit

def ixs {α : Type} (f : α → Bool) (l : List α) : List Int := (l.zipIdx.filter fun p => f p.1).map fun p => (p.2 : Int)
end Go.Sim

set_option linter.unusedVariables false
set_option linter.unusedSimpArgs false
set_option maxRecDepth 20000
namespace Go.Sim
open Go Go.RowKit

noncomputable def Yiz (n : Nd) (i : Ins) : Bool := decide (i.1.1 = n.1) && Yil i.1.2 n.2
noncomputable def Yjf (w : Wd) (n : Nd) : List Int := ixs (Yiz n) w.is
theorem Zbr.low {α : Type} {ty : TypeId} {enc : α → List Zag} {b b' : Nat} {h : Zaa} {a : Pt} {n : Nat} {l : List α} (f : Zbr ty enc b h a n l) (hb : b' ≤ b) : Zbr ty enc b' h a n l :=
  ⟨f.1, f.2.imp id fun ⟨i, ha, hbi, hi⟩ => ⟨i, ha, by omega, hi⟩⟩
end Go.Sim

set_option linter.unusedVariables false
set_option linter.unusedSimpArgs false
set_option maxRecDepth 20000
namespace Go.Sim
open Go Go.RowKit

def Yge (w : Wd) (x : Int) : Ins := w.is.getD x.toNat (([], []), [])
noncomputable def Yjh (w : Wd) (l : List Int) (x : Int) : Bool := l.all fun k => Yis (Yge w x) (Yge w k)
noncomputable def Yiy (w : Wd) (l : List Int) : Int := match l.find? (Yjh w l) with | some x => x | none => -1
theorem Row.i64 {b : Nat} {h : Zaa} {a : Pt} {n : Nat} {l : List Int} (r : Row b h a n (Zbv eI l)) {k : Nat} (hk : k < n) : ∃ i o, ∃ hk' : k < l.length, a = some (i, o) ∧ i < b ∧ Zai h (.ptr (some (i, o + k * 1))) = some (.int .i64 l[k]) := by
  obtain ⟨i, o, hk', ha, hi, hc⟩ := Row.el1 Yhw r hk
  exact ⟨i, o, hk', ha, hi, hc⟩
end Go.Sim

set_option linter.unusedSimpArgs false
set_option linter.unusedVariables false
namespace Go.Sim

end Go.Sim

set_option linter.unusedVariables false
set_option linter.unusedSimpArgs false
set_option maxRecDepth 20000
namespace Go.Sim
open Go Go.RowKit

theorem Zpq.mono {S S' : Nat → Prop} {h : Zaa} {i : Nat} {m : Bd} (r : Zpq S h i m) (hs : ∀ j, S j → S' j) : Zpq S' h i m := by
  obtain ⟨rows, h1, h2, h3⟩ := r
  refine ⟨rows, h1, h2, fun k x hx => ?_⟩
  have := h3 k x hx
  split at this
  · exact this.mono hs
  · exact this
theorem Zpq.below {S : Nat → Prop} {h : Zaa} {i : Nat} {m : Bd} (r : Zpq S h i m) : Zpq (fun j => S j ∧ j < h.length) h i m := by
  obtain ⟨rows, h1, h2, h3⟩ := r
  refine ⟨rows, h1, h2, fun k x hx => ?_⟩
  have := h3 k x hx
  split at this
  · exact Zii.below this
  · exact this
end Go.Sim

set_option linter.unusedVariables false
set_option linter.unusedSimpArgs false
set_option maxRecDepth 20000
namespace Go.Sim
open Go Go.RowKit

end Go.Sim

set_option linter.unusedSimpArgs false
set_option linter.unusedVariables false
namespace Go.Sim

def Up (cs : List Nd) (a b : Nat) : Prop := ∃ i, ∃ h : i < cs.length, cs[i].1 = [a] ∧ b ∈ cs[i].2
inductive Rch (cs : List Nd) (a : Nat) : Nat → Prop
  | one {b : Nat} : Up cs a b → Rch cs a b
  | more {b c : Nat} : Rch cs a b → Up cs b c → Rch cs a c
theorem Zsj {cs : List Nd} (h : Zgo cs = true) {i : Nat} (hi : i < cs.length) : Zpx cs i = true := by
  unfold Zgo at h
  simp only [Bool.and_eq_true, List.all_eq_true] at h
  exact h.1 i (List.mem_range.2 hi)
theorem Ydo {cs : List Nd} (h : Zgo cs = true) {i : Nat} (hi : i < cs.length) : ∃ d, cs[i].1 = [d] ∧ 65 ≤ d ∧ d ≤ 84 := by
  have := Zsj h hi
  unfold Zpx at this
  rw [Zgv hi] at this
  simp only [Bool.and_eq_true] at this
  have h1 := this.1.1
  unfold Zoa at h1
  split at h1
  · rename_i d hd; exact ⟨d, hd, by simpa using h1⟩
  · cases h1
theorem Zux {cs : List Nd} (h : Zgo cs = true) {i : Nat} (hi : i + 1 < cs.length) {a b : Nat} (ha : cs[i].1 = [a]) (hb : cs[i + 1].1 = [b]) : a < b := by
  have := Zsj h hi
  unfold Zpx at this
  rw [Zgv hi, Nat.add_sub_cancel, Zgv (by omega), ha, hb] at this
  simp only [Bool.and_eq_true] at this
  have h1 := this.1.2
  simpa [Zea] using h1
theorem Zsf {cs : List Nd} (h : Zgo cs = true) : ∀ (k i : Nat) (hi : i + k + 1 < cs.length) {a b : Nat}, cs[i].1 = [a] → cs[i + k + 1].1 = [b] → a < b
  | 0, i, hi, a, b, ha, hb => Zux h hi ha hb
  | k + 1, i, hi, a, b, ha, hb => by
    obtain ⟨d, hd, _⟩ := Ydo h (show i + k + 1 < cs.length by omega)
    have h1 := Zsf h k i (by omega) ha hd
    have h2 := Zux h (i := i + k + 1) (by omega) hd hb
    omega
theorem Zvk {cs : List Nd} (h : Zgo cs = true) {i j : Nat} (hi : i < cs.length) (hj : j < cs.length) {a : Nat} (ha : cs[i].1 = [a]) (hb : cs[j].1 = [a]) : i = j := by
  rcases Nat.lt_trichotomy i j with hl | he | hl
  · obtain ⟨k, rfl⟩ : ∃ k, j = i + k + 1 := ⟨j - i - 1, by omega⟩
    have := Zsf h k i hj ha hb; omega
  · exact he
  · obtain ⟨k, rfl⟩ : ∃ k, i = j + k + 1 := ⟨i - j - 1, by omega⟩
    have := Zsf h k j hi hb ha; omega
theorem Zns {cs : List Nd} (h : Zgo cs = true) {i : Nat} (hi : i < cs.length) {b : Nat} (hb : b ∈ cs[i].2) : ∃ j, ∃ hj : j < i, cs[j].1 = [b] := by
  have := Zsj h hi
  unfold Zpx at this
  rw [Zgv hi] at this
  simp only [Bool.and_eq_true] at this
  have h1 := this.2
  unfold Ztn at h1
  rw [List.all_eq_true] at h1
  obtain ⟨k, hk, rfl⟩ := List.mem_iff_getElem.1 hb
  have h2 := h1 k (List.mem_range.2 hk)
  unfold Zqx at h2
  rw [Zgv hk] at h2
  simp only [Bool.and_eq_true] at h2
  have h3 := h2.1
  unfold Zfi at h3
  rw [List.any_eq_true] at h3
  obtain ⟨x, hx, he⟩ := h3
  obtain ⟨j, hj, rfl⟩ := List.mem_iff_getElem.1 hx
  rw [List.length_take] at hj
  exact ⟨j, by omega, by simpa using he⟩
theorem Up.ix {cs : List Nd} (h : Zgo cs = true) {a b i : Nat} (u : Up cs a b) (hi : i < cs.length) (ha : cs[i].1 = [a]) : b ∈ cs[i].2 := by
  obtain ⟨j, hj, hja, hb⟩ := u
  have := Zvk h hi hj ha hja
  subst this; exact hb
theorem Rch.ix {cs : List Nd} (h : Zgo cs = true) {a b i : Nat} (r : Rch cs a b) (hi : i < cs.length) (ha : cs[i].1 = [a]) : ∃ j, ∃ hj : j < i, cs[j].1 = [b] := by
  induction r with
  | one u => exact Zns h hi (u.ix h hi ha)
  | more _ u ih =>
    obtain ⟨j, hj, hb⟩ := ih
    obtain ⟨k, hk, hc⟩ := Zns h (show j < cs.length by omega) (u.ix h (by omega) hb)
    exact ⟨k, by omega, hc⟩
structure Zun (cs : List Nd) (a : Nat) (i : Nat) (ab : List Nat) : Prop where
  sound : ∀ d ∈ ab, Rch cs a d
  done : ∀ j, i ≤ j → ∀ hj : j < cs.length, (cs[j].1 = [a] ∨ ∃ d, cs[j].1 = [d] ∧ d ∈ ab) → ∀ b ∈ cs[j].2, b ∈ ab
theorem Zun.step {cs : List Nd} (h : Zgo cs = true) {a i : Nat} {ab : List Nat} (D : Zun cs a (i + 1) ab) (hi : i < cs.length) (hc : cs[i].1 = [a] ∨ ∃ d, cs[i].1 = [d] ∧ d ∈ ab) : Zun cs a i (ab ++ cs[i].2) := by
  refine ⟨fun d hd => ?_, fun j hj hjl hcj b hb => ?_⟩
  · rcases List.mem_append.1 hd with hd | hd
    · exact D.sound d hd
    · rcases hc with hc | ⟨e, he, hm⟩
      · exact .one ⟨i, hi, hc, hd⟩
      · exact .more (D.sound e hm) ⟨i, hi, he, hd⟩
  · by_cases hji : j = i
    · subst hji; exact List.mem_append_right _ hb
    · refine List.mem_append_left _ (D.done j (by omega) hjl ?_ b hb)
      rcases hcj with hcj | ⟨e, he, hm⟩
      · exact .inl hcj
      · rcases List.mem_append.1 hm with hm | hm
        · exact .inr ⟨e, he, hm⟩
        · exfalso
          obtain ⟨k, hk, hke⟩ := Zns h hi hm
          have := Zvk h hjl (show k < cs.length by omega) he hke
          omega
theorem Zun.skip {cs : List Nd} {a i : Nat} {ab : List Nat} (D : Zun cs a (i + 1) ab) (hc : ∀ hi : i < cs.length, ¬ (cs[i].1 = [a] ∨ ∃ d, cs[i].1 = [d] ∧ d ∈ ab)) : Zun cs a i ab :=
  ⟨D.sound, fun j hj hjl hcj b hb => by
    by_cases hji : j = i
    · subst hji; exact absurd hcj (hc hjl)
    · exact D.done j (by omega) hjl hcj b hb⟩
theorem Zun.all {cs : List Nd} (h : Zgo cs = true) {a i : Nat} {ab : List Nat} (D : Zun cs a 0 ab) (hi : i < cs.length) (ha : cs[i].1 = [a]) (d : Nat) : d ∈ ab ↔ Rch cs a d := by
  refine ⟨D.sound d, fun r => ?_⟩
  induction r with
  | one u => exact D.done i (by omega) hi (.inl ha) _ (u.ix h hi ha)
  | more r u ih =>
    obtain ⟨j, hj, hb⟩ := r.ix h hi ha
    exact D.done j (by omega) (by omega) (.inr ⟨_, hb, ih⟩) _ (u.ix h (by omega) hb)
structure Yik (cs : List Nd) (a i : Nat) (r : Nat) (ab : List Nat) : Prop where
  sound : ∀ d ∈ ab, Rch cs a d
  first : ∀ d, Up cs a d → d ∈ ab
  near : ∀ j, j < i → i ≤ j + 1 + r → ∀ hj : j < cs.length, ∀ d, cs[j].1 = [d] → Rch cs a d → d ∈ ab
theorem Yik.next {cs : List Nd} (h : Zgo cs = true) {a i r : Nat} {ab ab' : List Nat} (R : Yik cs a i r ab) (hi : i < cs.length) (ha : cs[i].1 = [a])
    (hs : ∀ d ∈ ab', d ∈ ab ∨ ∃ e ∈ ab, Up cs e d) (hc : ∀ d, (d ∈ ab ∨ ∃ e ∈ ab, Up cs e d) → d ∈ ab') : Yik cs a i (r + 1) ab' := by
  refine ⟨fun d hd => ?_, fun d u => hc d (.inl (R.first d u)), fun j hj hn hjl d hd rc => ?_⟩
  · rcases hs d hd with hd | ⟨e, he, u⟩
    · exact R.sound d hd
    · exact .more (R.sound e he) u
  · cases rc with
    | one u => exact hc d (.inl (R.first d u))
    | more rc u =>
      rename_i e
      obtain ⟨k, hk, hb⟩ := rc.ix h hi ha
      have hjk : j < k := by
        obtain ⟨q, hq, hcq⟩ := Zns h (show k < cs.length by omega) (u.ix h (by omega) hb)
        have := Zvk h hjl (show q < cs.length by omega) hd hcq
        omega
      exact hc d (.inr ⟨e, R.near k hk (by omega) (by omega) e hb rc, u⟩)
theorem Yik.all {cs : List Nd} (h : Zgo cs = true) {a i r : Nat} {ab : List Nat} (R : Yik cs a i r ab) (hi : i < cs.length) (ha : cs[i].1 = [a]) (hr : i ≤ r + 1) (d : Nat) : d ∈ ab ↔ Rch cs a d := by
  refine ⟨R.sound d, fun rc => ?_⟩
  obtain ⟨j, hj, hd⟩ := rc.ix h hi ha
  exact R.near j hj (by omega) (by omega) d hd rc
end Go.Sim

set_option linter.unusedVariables false
set_option linter.unusedSimpArgs false
set_option maxRecDepth 20000
namespace Go.Sim
open Go Go.RowKit

end Go.Sim

set_option linter.unusedVariables false
set_option linter.unusedSimpArgs false
set_option maxRecDepth 20000
namespace Go.Sim
open Go Go.RowKit

end Go.Sim

set_option linter.unusedVariables false
set_option linter.unusedSimpArgs false
set_option maxRecDepth 20000
namespace Go.Sim
open Go Go.RowKit

structure Ygs (b : Nat) (h : Zaa) (a : Pt) (n c : Nat) (l : List Nd) : Prop where
  vec : Vec Zao h a n c (Zbv eP l)
  len : l.length = n
  low : ∀ i, a = some (i, 0) → b ≤ i
theorem Ygs.row {b : Nat} {h : Zaa} {a : Pt} {n c : Nat} {l : List Nd} (f : Ygs b h a n c l) : Row h.length h a (n * 2) (Zbv eP l) := f.vec.row (by rw [Zaw Zdq, f.len])
theorem Ygs.same {b : Nat} {h h' : Zaa} {a : Pt} {n c : Nat} {l : List Nd} (f : Ygs b h a n c l) (s : Zbd h.length h h') : Ygs b h' a n c l := ⟨f.vec.same s, f.len, f.low⟩
def But (a : Pt) (h h' : Zaa) : Prop := h.length ≤ h'.length ∧ ∀ j, j < h.length → (∀ i, a = some (i, 0) → j ≠ i) → h'[j]? = h[j]?
theorem But.of {a : Pt} {h h' : Zaa} (s : Zbd h.length h h') : But a h h' := ⟨s.le, fun j hj _ => s.eq j hj⟩
theorem But.below {a : Pt} {b : Nat} {h h' : Zaa} (s : But a h h') (hb : b ≤ h.length) (hl : ∀ i, a = some (i, 0) → b ≤ i) : Zbd b h h' := ⟨s.1, fun j hj => s.2 j (by omega) fun i hi => by have := hl i hi; omega⟩
end Go.Sim

set_option linter.unusedSimpArgs false
set_option linter.unusedVariables false
namespace Go.Sim

structure Wk where
  cand : Nd → List Int
  needs : Int → List Nat → Option (List Nd)
  most : List Int → Int
inductive Fnd where
  | ok (s : List Nat)
  | no (why : List Nat) (n : Nd)
end Go.Sim

set_option linter.unusedVariables false
set_option linter.unusedSimpArgs false
set_option maxRecDepth 20000
namespace Go.Sim
open Go Go.RowKit

noncomputable def wk (w : Wd) : Wk := ⟨Yjf w, fun x t => Yht (Yge w x) t, Yiy w⟩
structure FrS (i : Nat) (qa : Pt) (h h' : Zaa) (qa' : Pt) : Prop where
  le : h.length ≤ h'.length
  eq : ∀ j, j < h.length → j ≠ i → (∀ q, qa = some (q, 0) → j ≠ q) → h'[j]? = h[j]?
  pt : qa' = qa ∨ ∀ q, qa' = some (q, 0) → h.length ≤ q
theorem FrS.of_same {i : Nat} {qa : Pt} {h h' : Zaa} (s : Zbd h.length h h') : FrS i qa h h' qa := ⟨s.le, fun j hj _ _ => s.eq j hj, .inl rfl⟩
theorem FrS.refl (i : Nat) (qa : Pt) (h : Zaa) : FrS i qa h h qa := .of_same (Zbd.refl _ _)
theorem FrS.ne {i : Nat} {qa qa' : Pt} {h h' : Zaa} (f : FrS i qa h h' qa') {j : Nat} (hj : j < h.length) (hq : ∀ q, qa = some (q, 0) → j ≠ q) : ∀ q, qa' = some (q, 0) → j ≠ q := by
  intro q hq'
  rcases f.pt with e | e
  · exact hq q (e ▸ hq')
  · have := e q hq'; omega
theorem FrS.trans {i : Nat} {qa qa1 qa2 : Pt} {h h1 h2 : Zaa} (f : FrS i qa h h1 qa1) (g : FrS i qa1 h1 h2 qa2) : FrS i qa h h2 qa2 := by
  have := f.le; have := g.le
  refine ⟨by omega, fun j hj hi hq => ?_, ?_⟩
  · rw [g.eq j (by omega) hi (f.ne hj hq)]; exact f.eq j hj hi hq
  · rcases g.pt with e | e
    · rcases f.pt with e' | e'
      · exact .inl (e.trans e')
      · exact .inr fun q hq => e' q (e ▸ hq)
    · exact .inr fun q hq => by have := e q hq; omega
theorem FrS.set {i : Nat} {qa : Pt} {h : Zaa} {x : Zck} : FrS i qa h (h.set i x) qa := ⟨by simp, fun j _ hi _ => Zbl (fun e => hi e.symm), .inl rfl⟩
theorem FrS.get {i : Nat} {qa qa' : Pt} {h h' : Zaa} (f : FrS i qa h h' qa') {j : Nat} {x : Zck} (hj : h[j]? = some x) (hi : j ≠ i) (hq : ∀ q, qa = some (q, 0) → j ≠ q) : h'[j]? = some x := by rw [f.eq j (Own.lt hj) hi hq]; exact hj
theorem FrS.row {i : Nat} {qa qa' : Pt} {h h' : Zaa} (f : FrS i qa h h' qa') {a : Pt} {n : Nat} {cs : List Zag} (r : Row h.length h a n cs) (hn : ∀ j o, n ≠ 0 → a = some (j, o) → j ≠ i ∧ ∀ q, qa = some (q, 0) → j ≠ q) : Row h'.length h' a n cs := by
  obtain ⟨hl, r⟩ := r
  by_cases h0 : n = 0
  · exact ⟨hl, .inl h0⟩
  · refine ⟨hl, r.imp id ?_⟩
    rintro ⟨j, o', t, all, ro, ha, hi, hg, x⟩
    have := f.le
    obtain ⟨h1, h2⟩ := hn j o' h0 ha
    exact ⟨j, o', t, all, ro, ha, by omega, by rw [f.eq j hi h1 h2]; exact hg, x⟩
theorem FrS.below {i b : Nat} {qa qa' : Pt} {h h' : Zaa} (f : FrS i qa h h' qa') (hb : b ≤ h.length) (hi : b ≤ i) (hq : ∀ q, qa = some (q, 0) → b ≤ q) : Zbd b h h' := ⟨f.le, fun j hj => f.eq j (by omega) (by omega) fun q hq' => by have := hq q hq'; omega⟩
end Go.Sim

set_option linter.unusedSimpArgs false
set_option linter.unusedVariables false
namespace Go.Sim

section
variable {k : Wk} {sp : Bool} {dec : Int → List Nat}
end
end Go.Sim

set_option linter.unusedVariables false
set_option linter.unusedSimpArgs false
set_option maxRecDepth 20000
namespace Go.Sim
open Go Go.RowKit

theorem Vec.app0 {P : Program} {t ty : TypeId} {h : Zaa} {i n c sz : Nat} {e : Bool} {xa : Pt} {m c' : Nat} {e' : Bool} {cs new : List Zag} {K : Zag → Zaa → Prop} (hi : h[i]? = some (.cells ty cs false))
    (hu : P.underlying t = some (.slice ty)) (hc : P.cellsOf ty = sz) (hok : P.okElem ty = true) (hby : P.bytesOf ty ≤ 127) (hn : cs.length = n * sz) (hx : rowOf h xa (m * sz) = some new) (hl : new.all Zag.leaf = true)
    (hle : n + m ≤ 1099511627776) (hk : ∀ h', h'.length = h.length + 1 → h'[h.length]? = some (.cells ty (cs ++ new) false) → (∀ j, j < h.length → j ≠ i → h'[j]? = h[j]?) →
      K (.slice (some (h.length, 0)) (n + m) (n + m) false) h') : Zcy P t h (.slice (some (i, 0)) n c e) (.slice xa m c' e') K := by
  unfold Zcy
  simp only [hu, hc, hx, Zaq]
  refine ⟨⟨hok, ?_, hl⟩, .inl ⟨by trivial, ?_⟩⟩
  · have : (n + m) * (P.bytesOf ty + 1) ≤ (n + m) * 128 := Nat.mul_le_mul_left _ (by omega)
    omega
  · simp only [Zlj, hi, true_and]
    refine ⟨hn, hk _ (by simp) (by rw [List.getElem?_append_right (by simp)]; simp) fun j hj hne => ?_⟩
    rw [List.getElem?_append_left (by simpa using hj), List.getElem?_set_ne (fun e => hne e.symm)]
theorem Ycg {h : Zaa} {a : Pt} {n c : Nat} {e : Bool} {l : List Nd} (r : Row h.length h a (n * 2) (Zbv eP l)) (he : a = none → e = true) (hn : n ≤ 1048576) :
    Zae pg Zcx [.slice a n c e] h fun v h' => ∃ a' c' e', v = .slice a' n c' e' ∧ Ygs h.length h' a' n c' l ∧ Zbd h.length h h' ∧ (a' = none → e' = true) := by
  have hl : l.length = n := by have := r.1; rw [Zaw Zdq] at this; omega
  apply Zdv.call
  refine ⟨he, ?_⟩
  match a with
  | none =>
    have h0 : n = 0 := by
      rcases r.2 with h0 | ⟨i, o, t, all, ro, ha, _⟩
      · omega
      · cases ha
    subst h0
    have : l = [] := List.eq_nil_of_length_eq_zero hl
    subst this
    exact ⟨none, 0, true, rfl, ⟨.inl ⟨rfl, rfl, rfl, rfl⟩, rfl, fun i hi => by cases hi⟩, Zbd.refl _ _, fun _ => rfl⟩
  | some (i, o) =>
    simp only [Option.isNone_some, Zbf]
    generalize hh0 : h ++ [Zck.cells Zao [] false] = h0
    have s0 : Zbd h.length h h0 := by rw [← hh0]; exact Zax
    have o0 : h0[h.length]? = some (.cells Zao [] false) := by rw [← hh0]; simp
    have l0 : h0.length = h.length + 1 := by rw [← hh0]; simp
    refine Zgl (fun h => by cases h) (fun _ => ?_)
    refine Vec.app0 (n := 0) o0 Zxa Yey Yfh Yer (by simp) (r.same' s0).rowOf (Zlr (enc := eP) (fun _ => rfl) l) (by omega) (fun h1 hl1 hi1 hk1 => ?_)
    simp only [Zaf, Nat.zero_add]
    exact ⟨_, _, _, rfl, ⟨Vec.mk1 (by simpa using hi1), hl, fun j hj => by cases hj; omega⟩, ⟨by omega, fun j hj => by rw [hk1 j (by omega) (by omega)]; exact s0.eq j hj⟩, fun h => by cases h⟩
section
variable {hb : Zaa} {i : Nat} {u v : Zag} {sp : Bool} {h : Zaa} {qa : Pt} {asked : List Nd} {fl : Nd}
end
end Go.Sim

set_option linter.unusedVariables false
set_option linter.unusedSimpArgs false
set_option maxRecDepth 20000
namespace Go.Sim
open Go Go.RowKit

end Go.Sim
