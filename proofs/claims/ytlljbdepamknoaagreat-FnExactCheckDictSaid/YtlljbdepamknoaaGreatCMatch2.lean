/- A part of the proof of a statement of this seat: see the text that holds the theorem. No condition. -/
import Derived.Test.YtlljbdepamknoaaGreatPTCWVar2
import Derived.Test.YtlljbdepamknoaaGreatCWLaw
import Derived.Test.YtlljbdepamknoaaGreatPTCText
import Derived.Test.YtlljbdepamknoaaGreatCVars
import Derived.Test.YtlljbdepamknoaaGreatNm
import Derived.Test.YtlljbdepamknoaaGreatCTy
import Derived.Test.YtlljbdepamknoaaGreatSimX
import Derived.Test.YtlljbdepamknoaaGreatShelf
set_option linter.unusedVariables false
set_option linter.unusedSimpArgs false
set_option linter.all false
set_option linter.unusedVariables false
set_option linter.unusedSimpArgs false
set_option maxRecDepth 20000
namespace Go.Sim
open Go Go.RowKit

def isz (i : Ins) : Nat := i.1.1.length + i.1.2.length + (i.2.length + Zzf i.2)
def Yer (l : List Ins) : Nat := (l.map isz).sum
def wsz (w : Wd) : Nat := w.cs.length + Zzf w.cs + (w.is.length + Yer w.is)
theorem Zyb {l : List Ins} {g : Nat} (h : g < l.length) : Yer (l.take (g + 1)) = Yer (l.take g) + isz l[g] := by
  unfold Yer; rw [List.take_succ_eq_append_getElem h, List.map_append, List.sum_append]; simp
theorem Zyt (l : List Ins) (g : Nat) : Yer (l.take g) ≤ Yer l := by
  conv => rhs; rw [← List.take_append_drop g l]
  unfold Yer; rw [List.map_append, List.sum_append]; omega
theorem Yjc {l : List Ins} {g : Nat} (h : g < l.length) : isz l[g] ≤ Yer l := by
  have := Zyb h; have := Zyt l (g + 1); omega
def Zrb (n : Nat) : Prop := n ≤ 9223372036854775807
structure Yms (w : Wd) : Prop where
  lc : Zrb w.cs.length
  li : Zrb w.is.length
  cs : ∀ p ∈ w.cs, Zrb p.1.length ∧ Zrb p.2.length ∧ ∀ b ∈ p.1, b < 256
  is : ∀ i ∈ w.is, Zrb i.1.1.length ∧ Zrb i.1.2.length ∧ Zrb i.2.length ∧ ∀ p ∈ i.2, Zrb p.1.length ∧ Zrb p.2.length
theorem WB.of {w : Wd} (b : Yms w) (h : wsz w ≤ 1048576) : WB w := by
  have h1 : ∀ p ∈ w.cs, p.1.length + p.2.length ≤ Zzf w.cs := fun p hp => by
    obtain ⟨k, hk, rfl⟩ := List.mem_iff_getElem.1 hp; exact Ycp hk
  have h2 : ∀ i ∈ w.is, isz i ≤ Yer w.is := fun p hp => by
    obtain ⟨k, hk, rfl⟩ := List.mem_iff_getElem.1 hp; exact Yjc hk
  unfold wsz at h
  refine ⟨by omega, by omega, fun p hp => ⟨by have := h1 p hp; omega, by have := h1 p hp; omega, (b.cs p hp).2.2⟩, fun i hi => ?_⟩
  have := h2 i hi
  unfold isz at this
  refine ⟨by omega, by omega, by omega, fun p hp => ?_⟩
  have h3 : p.1.length + p.2.length ≤ Zzf i.2 := by obtain ⟨k, hk, rfl⟩ := List.mem_iff_getElem.1 hp; exact Ycp hk
  omega
theorem Zwe {h : Zaa} {a : Pt} {n cp : Nat} {e : Bool} {i : Ins} {x : Int} (r : Row h.length h a (n * 2) (Zfa eP i.2)) (hb : Zrb i.1.1.length ∧ Zrb i.1.2.length ∧ Zrb i.2.length ∧ ∀ p ∈ i.2, Zrb p.1.length ∧ Zrb p.2.length) (hx : 0 ≤ x ∧ x ≤ 1048576) :
    Zad pg Zjf [.agg [.str i.1.1, .str i.1.2, .slice a n cp e], .int .i64 x] h fun v h' => ∃ y, v = .int .i64 y ∧ Zbe h.length h h' ∧ (0 ≤ y → (isz i : Int) + y = x) := by
  have hl : i.2.length = n := by have := r.1; rw [Zbk Zek] at this; omega
  apply Zly.call
  simp only [Zaz]
  have s1 : Zbe h.length h (h ++ [.cells Zdw [.str i.1.1, .str i.1.2, .slice a n cp e] false]) := Zas
  have hi : (h ++ [Zcj.cells Zdw [.str i.1.1, .str i.1.2, .slice a n cp e] false])[h.length]? = some (.cells Zdw [.str i.1.1, .str i.1.2, .slice a n cp e] false) := by simp
  simp only [Nat.add_zero]
  rw [Zdt hi (by simp)]
  simp only [List.drop_zero, List.take_succ_cons, List.take_zero, Zau, Zaf, Zaq, Zag]
  refine (Zsv hb.1 hb.2.1 hx).mono ?_
  rintro v h2 ⟨y, rfl, s2, hy⟩
  simp only [Zao]
  have i2 := s2.get hi (Own.lt hi)
  refine Zap (fun hlt => ⟨_, rfl, s1.cat s2, by omega⟩) (fun hge => ?_)
  have hyy := hy (by omega)
  simp only [Zak i2, Nat.zero_add, List.getElem?_cons_succ, List.getElem?_cons_zero, Zah]
  have hN := hb.2.2.1
  unfold Zrb at hN
  refine (Ydz (r.same' (s1.cat s2)) (fun p hp => hb.2.2.2 p hp) (by omega) (left := y) (by omega)).mono ?_
  rintro v h3 ⟨z, rfl, s3, hz⟩
  simp only [Zao]
  refine Zap (fun hlt => ⟨_, rfl, (s1.cat s2).cat s3, by omega⟩) (fun hge => ⟨_, rfl, (s1.cat s2).cat s3, fun h0 => ?_⟩)
  have := hz h0
  unfold isz; omega
theorem Zuz {h : Zaa} {a0 a : Pt} {n0 c0 n cp : Nat} {e : Bool} {w : Wd} {x : Int} (r : Zpe h a0 n0 c0 a n cp w) (hb : Yms w) (hx : 0 ≤ x ∧ x ≤ 1048576) :
    Zad pg Zim [.slice a n cp e, .int .i64 x] h fun v h' => ∃ y, v = .int .i64 y ∧ Zbe h.length h h' ∧ (0 ≤ y → (w.is.length : Int) + Yer w.is + y = x) := by
  have hl := r.len1
  have hbl := hb.li
  unfold Zrb at hbl
  apply Zew.call
  rw [IntWalk.i64_in _ (by omega)]
  refine Zap (fun hlt => ⟨_, rfl, Zbe.refl _ _, by omega⟩) (fun hge => ?_)
  refine Zew.L5ind _ _ _ _ _ (J := fun (g : Nat) x1 x5 h' => x5 = (g : Int) ∧ Zbe h.length h h' ∧ g ≤ n ∧ 0 ≤ x1 ∧ x1 + n + Yer (w.is.take g) = x) (fun g => n - g) ?_ 0 _ 0 h ⟨rfl, Zbe.refl _ _, by omega, by omega, by simp [Yer]⟩
  rintro g x1 x5 h' ⟨rfl, hS, hg, h0, ht⟩ R hR
  unfold Zew.L5t
  refine Zap (fun hlt => ?_) (fun hge => ?_)
  · obtain ⟨i, o, hgl, a2, n2, c2, e2, rfl, _, hr, _, _, _, hrow, hn⟩ := (r.same hS).inst (k := g) (by omega)
    simp only [Zax, Int.toNat_natCast, hr, Zau, Zaf, Zaq, Zag, Zah]
    refine ⟨by omega, (Zwe (i := w.is[g]) hrow (hb.is _ (List.getElem_mem hgl)) (by omega)).mono ?_⟩
    rintro v h1 ⟨y, rfl, hs1, hy⟩
    simp only [Zao]
    have hS1 := hS.cat hs1
    refine Zap (fun hneg => ⟨_, rfl, hS1, by omega⟩) (fun hneg => ?_)
    have hyy := hy (by omega)
    rw [Zbs (by omega)]
    exact hR (g + 1) _ _ _ (by omega) ⟨rfl, hS1, by omega, by omega, by rw [Zyb hgl]; omega⟩
  · have : g = n := by omega
    subst this
    rw [List.take_of_length_le (by omega)] at ht
    exact Zew.A5x0i _ _ _ ⟨_, rfl, hS, by omega⟩
theorem Yds {h : Zaa} {a0 a1 : Pt} {n0 c0 n1 c1 : Nat} {e0 e1 : Bool} {w : Wd} {x : Int} (r : Zpe h a0 n0 c0 a1 n1 c1 w) (hb : Yms w) (hx : 0 ≤ x ∧ x ≤ 1048576) :
    Zad pg Zln [.agg [.slice a0 n0 c0 e0, .slice a1 n1 c1 e1], .int .i64 x] h fun v h' => ∃ y, v = .int .i64 y ∧ Zbe h.length h h' ∧ (0 ≤ y → (wsz w : Int) + y = x) := by
  have hl0 := r.len0
  apply Zow.call
  simp only [Zaz]
  have s1 : Zbe h.length h (h ++ [.cells Zdy [.slice a0 n0 c0 e0, .slice a1 n1 c1 e1] false]) := Zas
  have hi : (h ++ [Zcj.cells Zdy [.slice a0 n0 c0 e0, .slice a1 n1 c1 e1] false])[h.length]? = some (.cells Zdy [.slice a0 n0 c0 e0, .slice a1 n1 c1 e1] false) := by simp
  simp only [Zak hi, Nat.add_zero, List.getElem?_cons_zero, Zah]
  have hN := hb.lc
  unfold Zrb at hN
  refine (Zxj (r.cls.same' s1) (fun p hp => ⟨(hb.cs p hp).1, (hb.cs p hp).2.1⟩) (by omega) hx).mono ?_
  rintro v h2 ⟨y, rfl, s2, hy⟩
  simp only [Zao]
  have i2 := s2.get hi (Own.lt hi)
  refine Zap (fun hlt => ⟨_, rfl, s1.cat s2, by omega⟩) (fun hge => ?_)
  have hyy := hy (by omega)
  simp only [Zak i2, Nat.zero_add, List.getElem?_cons_succ, List.getElem?_cons_zero, Zah]
  refine (Zuz (r.same (s1.cat s2)) hb (x := y) (by omega)).mono ?_
  rintro v h3 ⟨z, rfl, s3, hz⟩
  simp only [Zao]
  refine Zap (fun hlt => ⟨_, rfl, (s1.cat s2).cat s3, by omega⟩) (fun hge => ⟨_, rfl, (s1.cat s2).cat s3, fun h0 => ?_⟩)
  have := hz h0
  unfold wsz; omega

theorem Yet {h : Zaa} {i : Nat} {t : TypeId} {x y z v : Zan} (hi : h[i]? = some (.cells t [x, y, z] false)) : Zbd h (.ptr (some (i, 2))) [v] = some (h.set i (.cells t [x, y, v] false)) := by
  rw [Zbq hi (by simp)]; rfl
theorem Ydt {h : Zaa} {i : Nat} {t : TypeId} {x y z v u : Zan} (hi : h[i]? = some (.cells t [x, y, z] false)) : Zbd h (.ptr (some (i, 0))) [v, u] = some (h.set i (.cells t [v, u, z] false)) := by
  rw [Zbq hi (by simp)]; rfl
theorem Ydu {h : Zaa} {i : Nat} {t : TypeId} {x y z a b c : Zan} (hi : h[i]? = some (.cells t [x, y, z] false)) : Zbd h (.ptr (some (i, 0))) [a, b, c] = some (h.set i (.cells t [a, b, c] false)) := by
  rw [Zbq hi (by simp)]; rfl
theorem Zss {h : Zaa} {i : Nat} {t : TypeId} {x y z : Zan} {ro : Bool} (hi : h[i]? = some (.cells t [x, y, z] ro)) : Zbp h (.ptr (some (i, 0))) 3 = some [x, y, z] := by
  rw [Zdt hi (by simp)]; rfl
theorem Ygp {h : Zaa} {i : Nat} {t : TypeId} {x y z : Zan} {ro : Bool} (hi : h[i]? = some (.cells t [x, y, z] ro)) : Zbp h (.ptr (some (i, 0))) 2 = some [x, y] := by
  rw [Zdt hi (by simp)]; rfl
theorem Zbe.set' {b i : Nat} {h h1 : Zaa} {x : Zcj} (s : Zbe b h h1) (hi : b ≤ i) : Zbe b h (h1.set i x) := ⟨by simp; exact s.le, fun j hj => by rw [Zbt (by omega)]; exact s.eq j hj⟩
theorem Zej.keep {α : Type} {ty : TypeId} {enc : α → List Zan} {b b' : Nat} {h h' : Zaa} {a : Pt} {n : Nat} {l : List α} (f : Zej ty enc b h a n l) (hb : b' ≤ b) (hk : ∀ i, b ≤ i → i < h.length → h'[i]? = h[i]?) : Zej ty enc b' h' a n l :=
  ⟨f.1, f.2.imp id fun ⟨i, ha, hbi, hi⟩ => ⟨i, ha, by omega, by rw [hk i hbi (Own.lt hi)]; exact hi⟩⟩
theorem Zws {h : Zaa} {a : Pt} {n cp : Nat} {e : Bool} {i : Ins} (r : Row h.length h a (n * 2) (Zfa eP i.2)) (hn : n ≤ 1048576) :
    Zad pg Zix [.agg [.str i.1.1, .str i.1.2, .slice a n cp e]] h fun v h' => ∃ a' c' e', v = .agg [.str i.1.1, .str i.1.2, .slice a' n c' e'] ∧ Zbe h.length h h' ∧ Zej Zar eP h.length h' a' n i.2 ∧ a' ≠ none := by
  apply Zmc.call
  simp only [Zaz]
  generalize hh0 : h ++ [Zcj.cells Zdw [.str i.1.1, .str i.1.2, .slice a n cp e] false] = h0
  generalize hh1 : h0 ++ [Zcj.cells Zal [.str [], .str [], .slice none 0 0 true] false] = h1
  generalize hh2 : h1 ++ [Zcj.cells Zal [.str [], .str [], .slice none 0 0 true] false] = h2
  have s0 : Zbe h.length h h0 := by rw [← hh0]; exact Zas
  have s1 : Zbe h0.length h0 h1 := by rw [← hh1]; exact Zas
  have s2 : Zbe h1.length h1 h2 := by rw [← hh2]; exact Zas
  have l0 : h0.length = h.length + 1 := by rw [← hh0]; simp
  have l1 : h1.length = h.length + 2 := by rw [← hh1]; simp [l0]
  have l2 : h2.length = h.length + 3 := by rw [← hh2]; simp [l1]
  have x0 : h0[h.length]? = some (.cells Zdw [.str i.1.1, .str i.1.2, .slice a n cp e] false) := by rw [← hh0]; simp
  have y1 : h1[h0.length]? = some (.cells Zal [.str [], .str [], .slice none 0 0 true] false) := by rw [← hh1]; simp
  have z2 : h2[h1.length]? = some (.cells Zal [.str [], .str [], .slice none 0 0 true] false) := by rw [← hh2]; simp
  have x2 := s2.get (s1.get x0 (by omega)) (by omega)
  have y2 := s2.get y1 (by omega)
  have S2 := (s0.cat s1).cat s2
  simp only [Nat.add_zero, Nat.zero_add]
  rw [Ygp x2]
  simp only [Zau, Zaf, Zaq, Zag]
  refine Zqc.mono ?_
  rintro v h3 ⟨rfl, s3⟩
  simp only [Zde, Zaf, Zaq, Zag]
  have z3 := s3.get z2 (by omega)
  have x3 := s3.get x2 (by omega)
  have y3 := s3.get y2 (by omega)
  have l3 := s3.le
  rw [Ydt z3]
  simp only [Zav]
  have x4 : (h3.set h1.length (.cells Zal [.str i.1.1, .str i.1.2, .slice none 0 0 true] false))[h.length]? = some (.cells Zdw [.str i.1.1, .str i.1.2, .slice a n cp e] false) := by rw [Zbt (by omega)]; exact x3
  have y4 : (h3.set h1.length (.cells Zal [.str i.1.1, .str i.1.2, .slice none 0 0 true] false))[h0.length]? = some (.cells Zal [.str [], .str [], .slice none 0 0 true] false) := by rw [Zbt (by omega)]; exact y3
  have z4 : (h3.set h1.length (.cells Zal [.str i.1.1, .str i.1.2, .slice none 0 0 true] false))[h1.length]? = some (.cells Zal [.str i.1.1, .str i.1.2, .slice none 0 0 true] false) := Zcp z3
  have S4 : Zbe h.length h (h3.set h1.length (.cells Zal [.str i.1.1, .str i.1.2, .slice none 0 0 true] false)) := (S2.cat s3).set' (by omega)
  generalize hh4 : h3.set h1.length (.cells Zal [.str i.1.1, .str i.1.2, .slice none 0 0 true] false) = h4 at *
  have l4 : h4.length = h3.length := by rw [← hh4]; simp
  simp only [Zak x4, List.getElem?_cons_succ, List.getElem?_cons_zero, Zah]
  refine (Yaf (r.same' S4) hn).mono ?_
  rintro v h5 ⟨a', c', e', rfl, s5, f5, hc5, hnn⟩
  simp only [Zah]
  have l5 := s5.le
  have y5 := s5.get y4 (by omega)
  have z5 := s5.get z4 (by omega)
  rw [Yet z5]
  simp only [Zav]
  rw [Zss (Zcp z5)]
  simp only [Zau, Zaf, Zaq, Zag, Zah]
  have y6 : (h5.set h1.length (.cells Zal [.str i.1.1, .str i.1.2, .slice a' n c' e'] false))[h0.length]? = some (.cells Zal [.str [], .str [], .slice none 0 0 true] false) := by rw [Zbt (by omega)]; exact y5
  rw [Ydu y6]
  simp only [Zav]
  rw [Zss (Zcp y6)]
  simp only [Zau, Zaf, Zaq, Zag, Zah]
  exact ⟨_, _, _, rfl, ((S4.cat s5).set' (by omega)).set' (by omega), f5.keep (by omega) fun j hj _ => by rw [Zbt (by omega), Zbt (by omega)], hnn⟩
end Go.Sim

set_option linter.unusedVariables false
set_option linter.unusedSimpArgs false
set_option maxRecDepth 20000
namespace Go.Sim
open Go Go.RowKit

theorem Ykd {α : Type} {enc : α → List Zan} {w : Nat} (hw : ∀ x, (enc x).length = w) {ys : List α} {y : α} {k n : Nat} {z : List Zan} (hk : ys.length = k) (hn : k < n) (hz : z.length = w) :
    putRow (Zfa enc ys ++ reps (n - k) z) (k * w) (enc y) = Zfa enc (ys ++ [y]) ++ reps (n - (k + 1)) z := by
  have h1 : (Zfa enc ys).length = k * w := by rw [Zbk hw, hk]
  have h2 : reps (n - k) z = z ++ reps (n - (k + 1)) z := by
    rw [show n - k = (n - (k + 1)) + 1 by omega]; simp [reps, List.replicate_succ]
  unfold putRow
  rw [List.take_append_of_le_length (by omega), List.take_of_length_le (by omega), Zks, Zjp, Yjm, List.append_nil, hw, h2, List.append_assoc, List.append_assoc]
  congr 2
  rw [← h1, ← hz, List.drop_append, List.drop_of_length_le (by omega)]
  simp
theorem Yjo {α : Type} {enc : α → List Zan} {w : Nat} (hw : ∀ x, (enc x).length = w) {ys : List α} {k n : Nat} {z : List Zan} (hk : ys.length = k) (hn : k ≤ n) (hz : z.length = w) : (Zfa enc ys ++ reps (n - k) z).length = n * w := by
  have h1 : (reps (n - k) z).length = (n - k) * w := by unfold reps; rw [List.length_flatten]; simp [hz]
  rw [List.length_append, Zbk hw, h1, hk, ← Nat.add_mul]; congr 1; omega
theorem Zut {h : Zaa} {a0 a : Pt} {n0 c0 n cp : Nat} {e : Bool} {w : Wd} (r : Zpe h a0 n0 c0 a n cp w) (b : WB w) :
    Zad pg Zic [.slice a n cp e] h fun v h' => ∃ a' c' e' ys, v = .slice a' n c' e' ∧ n ≤ c' ∧ Zbe h.length h h' ∧ Zej Zal eN h.length h' a' n ys ∧ ys.length = w.is.length ∧
      (∀ (k : Nat) (x : EI) (i : Ins), ys[k]? = some x → w.is[k]? = some i → x.c = i.1.1 ∧ x.t = i.1.2 ∧ Zej Zar eP h.length h' x.a x.n i.2) ∧
      (∀ (j k : Nat) (x y : EI), j ≠ k → ys[j]? = some x → ys[k]? = some y → x.n ≠ 0 → y.n ≠ 0 → x.a ≠ y.a) ∧ ∀ x ∈ ys, x.a ≠ none := by
  have hl := r.len1
  have hli := b.li
  apply Zeu.call
  simp only [Zaz, Int.toNat_natCast]
  refine ⟨by trivial, by trivial, ⟨by omega, by omega, by omega⟩, ?_⟩
  refine Zeu.L3ind _ _ _ _ _ _ _ _ _ (J := fun (g : Nat) x4 h' => x4 = (g : Int) ∧ g ≤ n ∧ Zbe h.length h h' ∧ ∃ ys : List EI, ys.length = g ∧ h'[h.length]? = some (.cells Zal (Zfa eN ys ++ reps (n - g) [.str [], .str [], .slice none 0 0 true]) false) ∧
      (∀ (k : Nat) (x : EI) (i : Ins), ys[k]? = some x → w.is[k]? = some i → x.c = i.1.1 ∧ x.t = i.1.2 ∧ Zej Zar eP (h.length + 1) h' x.a x.n i.2) ∧
      (∀ (j k : Nat) (x y : EI), j ≠ k → ys[j]? = some x → ys[k]? = some y → x.n ≠ 0 → y.n ≠ 0 → x.a ≠ y.a) ∧ ∀ x ∈ ys, x.a ≠ none) (fun g => n - g) ?_ 0 _ _
    ⟨rfl, by omega, Zbe.app (Nat.le_refl _) _, [], rfl, by simp, by simp, by simp, by simp⟩
  rintro g x4 h' ⟨rfl, hg, hs, ys, hy, ho, hrep, hsep, hnn⟩ R hR
  unfold Zeu.L3t
  refine Zap (fun hlt => ?_) (fun hge => ?_)
  · have hlt' : g < n := by omega
    obtain ⟨i, o, hgl, a2, n2, c2, e2, rfl, _, hr, _, _, _, hrow, hn⟩ := (r.same hs).inst (k := g) (by omega)
    simp only [Zax, Int.toNat_natCast, hr, Zau, Zaf, Zaq, Zag, Zah]
    have hb := b.is _ (List.getElem_mem hgl)
    refine ⟨by omega, (Zws (i := w.is[g]) hrow (by omega)).mono ?_⟩
    rintro v h1 ⟨a', c', e', rfl, s1, f1, hnn1⟩
    simp only [Zde, Zaf, Zaq, Zag, Zah]
    have hol := Own.lt ho
    have ho1 := s1.get ho hol
    have hlen := Yjo (enc := eN) Zyn (ys := ys) (k := g) (n := n) (z := [.str [], .str [], .slice none 0 0 true]) hy hg rfl
    rw [Zbq ho1 (by rw [hlen]; simp; omega)]
    simp only [Zav]
    have hput := Ykd (enc := eN) Zyn (ys := ys) (y := ⟨w.is[g].1.1, w.is[g].1.2, a', n2, c', e'⟩) (k := g) (n := n) (z := [.str [], .str [], .slice none 0 0 true]) hy hlt' rfl
    rw [Nat.zero_add, show ([.str w.is[g].1.1, .str w.is[g].1.2, .slice a' n2 c' e'] : List Zan) = eN ⟨w.is[g].1.1, w.is[g].1.2, a', n2, c', e'⟩ from rfl, hput, Zbs (by omega)]
    refine ⟨by omega, hR (g + 1) _ _ (by omega) ⟨rfl, by omega, (hs.cat s1).set' (Nat.le_refl _), ys ++ [⟨w.is[g].1.1, w.is[g].1.2, a', n2, c', e'⟩], by simp [hy], Zcp ho1, ?_, ?_, fun x hx => by
      rcases List.mem_append.1 hx with hx | hx
      · exact hnn x hx
      · rw [List.mem_singleton] at hx; subst hx; exact hnn1⟩⟩
    · intro k x j hx hj
      by_cases hk : k < g
      · rw [List.getElem?_append_left (by omega)] at hx
        obtain ⟨p1, p2, p3⟩ := hrep k x j hx hj
        refine ⟨p1, p2, p3.keep (Nat.le_refl _) fun q hq hq2 => ?_⟩
        rw [Zbt (by omega)]; exact s1.eq q hq2
      · have hkl := (List.getElem?_eq_some_iff.1 hx).1
        simp [hy] at hkl
        have : k = g := by omega
        subst this
        rw [List.getElem?_append_right (by omega), hy, Nat.sub_self] at hx
        simp at hx
        subst hx
        rw [List.getElem?_eq_getElem hgl] at hj
        cases hj
        exact ⟨rfl, rfl, f1.keep (by omega) fun q hq hq2 => by rw [Zbt (by omega)]⟩
    · have old : ∀ (j : Nat) (x : EI), ys[j]? = some x → x.n ≠ 0 → x.a ≠ a' ∨ n2 = 0 := by
        intro j x hx hn
        have hjl := (List.getElem?_eq_some_iff.1 hx).1
        obtain ⟨_, _, _, p3⟩ := hrep j x (w.is[j]'(by omega)) hx (List.getElem?_eq_getElem (by omega))
        rcases p3 with h0 | ⟨q, hq, _, hq2⟩
        · exact absurd h0 hn
        · have := Own.lt hq2
          rcases f1.2 with h0 | ⟨q', hq', hb', _⟩
          · exact .inr h0
          · refine .inl ?_
            rw [hq, hq']; intro e; cases e; omega
      intro j k x y hjk hx hy' hxn hyn
      by_cases hj : j < g <;> by_cases hk : k < g
      · rw [List.getElem?_append_left (by omega)] at hx hy'
        exact hsep j k x y hjk hx hy' hxn hyn
      · have hkl := (List.getElem?_eq_some_iff.1 hy').1
        simp [hy] at hkl
        have : k = g := by omega
        subst this
        rw [List.getElem?_append_right (by omega), hy, Nat.sub_self] at hy'
        simp at hy'
        subst hy'
        rw [List.getElem?_append_left (by omega)] at hx
        rcases old j x hx hxn with h1 | h1
        · exact h1
        · exact absurd h1 hyn
      · have hkl := (List.getElem?_eq_some_iff.1 hx).1
        simp [hy] at hkl
        have : j = g := by omega
        subst this
        rw [List.getElem?_append_right (by omega), hy, Nat.sub_self] at hx
        simp at hx
        subst hx
        rw [List.getElem?_append_left (by omega)] at hy'
        rcases old k y hy' hyn with h1 | h1
        · exact fun e => h1 e.symm
        · exact absurd h1 hxn
      · have h1 := (List.getElem?_eq_some_iff.1 hx).1
        have h2 := (List.getElem?_eq_some_iff.1 hy').1
        simp [hy] at h1 h2
        omega
  · have : g = n := by omega
    subst this
    apply Zeu.A3x0i
    simp [reps] at ho
    refine ⟨_, _, _, ys, rfl, Nat.le_refl _, hs, ⟨hy, .inr ⟨h.length, rfl, Nat.le_refl _, ho⟩⟩, by omega, fun k x i hx hi => ?_, hsep, hnn⟩
    obtain ⟨p1, p2, p3⟩ := hrep k x i hx hi
    exact ⟨p1, p2, p3.keep (by omega) fun _ _ _ => rfl⟩
theorem Zya {h : Zaa} {i : Nat} {t : TypeId} {x y v : Zan} (hi : h[i]? = some (.cells t [x, y] false)) : Zbd h (.ptr (some (i, 0))) [v] = some (h.set i (.cells t [v, y] false)) := by
  rw [Zbq hi (by simp)]; rfl
theorem Zxa {h : Zaa} {i : Nat} {t : TypeId} {x y v : Zan} (hi : h[i]? = some (.cells t [x, y] false)) : Zbd h (.ptr (some (i, 1))) [v] = some (h.set i (.cells t [x, v] false)) := by
  rw [Zbq hi (by simp)]; rfl
theorem Yem {h : Zaa} {i : Nat} {t : TypeId} {x y a b : Zan} (hi : h[i]? = some (.cells t [x, y] false)) : Zbd h (.ptr (some (i, 0))) [a, b] = some (h.set i (.cells t [a, b] false)) := by
  rw [Zbq hi (by simp)]; rfl
theorem Zbh {h : Zaa} {i : Nat} {t : TypeId} {x y : Zan} {ro : Bool} (hi : h[i]? = some (.cells t [x, y] ro)) : Zbp h (.ptr (some (i, 0))) 2 = some [x, y] := by
  rw [Zdt hi (by simp)]; rfl
theorem Zqz {h : Zaa} {a0 a1 : Pt} {n0 c0 n1 c1 : Nat} {e0 e1 : Bool} {w : Wd} (r : Zpe h a0 n0 c0 a1 n1 c1 w) (b : WB w) :
    Zad pg Zhh [.agg [.slice a0 n0 c0 e0, .slice a1 n1 c1 e1]] h fun v h' => ∃ b0 d0 f0 b1 d1 f1 ys, v = .agg [.slice b0 n0 d0 f0, .slice b1 n1 d1 f1] ∧ n0 ≤ d0 ∧ n1 ≤ d1 ∧ Zbe h.length h h' ∧ Zvw h.length h' b0 n0 b1 n1 ys w := by
  have hl0 := r.len0
  have hlc := b.lc
  apply Zpf.call
  simp only [Zaz]
  generalize hh0 : h ++ [Zcj.cells Zdy [.slice a0 n0 c0 e0, .slice a1 n1 c1 e1] false] = h0
  generalize hh1 : h0 ++ [Zcj.cells Zam [.slice none 0 0 true, .slice none 0 0 true] false] = h1
  generalize hh2 : h1 ++ [Zcj.cells Zam [.slice none 0 0 true, .slice none 0 0 true] false] = h2
  have s0 : Zbe h.length h h0 := by rw [← hh0]; exact Zas
  have s1 : Zbe h0.length h0 h1 := by rw [← hh1]; exact Zas
  have s2 : Zbe h1.length h1 h2 := by rw [← hh2]; exact Zas
  have l0 : h0.length = h.length + 1 := by rw [← hh0]; simp
  have l1 : h1.length = h.length + 2 := by rw [← hh1]; simp [l0]
  have l2 : h2.length = h.length + 3 := by rw [← hh2]; simp [l1]
  have x0 : h0[h.length]? = some (.cells Zdy [.slice a0 n0 c0 e0, .slice a1 n1 c1 e1] false) := by rw [← hh0]; simp
  have y1 : h1[h0.length]? = some (.cells Zam [.slice none 0 0 true, .slice none 0 0 true] false) := by rw [← hh1]; simp
  have z2 : h2[h1.length]? = some (.cells Zam [.slice none 0 0 true, .slice none 0 0 true] false) := by rw [← hh2]; simp
  have x2 := s2.get (s1.get x0 (by omega)) (by omega)
  have y2 := s2.get y1 (by omega)
  have S2 := (s0.cat s1).cat s2
  simp only [Nat.add_zero, Nat.zero_add, Zak x2, List.getElem?_cons_zero, Zah]
  refine (Zyc (r.cls.same' S2) (by omega)).mono ?_
  rintro v h3 ⟨b0, d0, f0, rfl, s3, g3, hd0⟩
  simp only [Zah]
  have z3 := s3.get z2 (by omega)
  have x3 := s3.get x2 (by omega)
  have y3 := s3.get y2 (by omega)
  have l3 := s3.le
  rw [Zya z3]
  simp only [Zav]
  have x4 : (h3.set h1.length (.cells Zam [.slice b0 n0 d0 f0, .slice none 0 0 true] false))[h.length]? = some (.cells Zdy [.slice a0 n0 c0 e0, .slice a1 n1 c1 e1] false) := by rw [Zbt (by omega)]; exact x3
  have y4 : (h3.set h1.length (.cells Zam [.slice b0 n0 d0 f0, .slice none 0 0 true] false))[h0.length]? = some (.cells Zam [.slice none 0 0 true, .slice none 0 0 true] false) := by rw [Zbt (by omega)]; exact y3
  have z4 : (h3.set h1.length (.cells Zam [.slice b0 n0 d0 f0, .slice none 0 0 true] false))[h1.length]? = some (.cells Zam [.slice b0 n0 d0 f0, .slice none 0 0 true] false) := Zcp z3
  have S4 : Zbe h.length h (h3.set h1.length (.cells Zam [.slice b0 n0 d0 f0, .slice none 0 0 true] false)) := (S2.cat s3).set' (by omega)
  have g4 : Zej Zbr eP (h.length + 3) (h3.set h1.length (.cells Zam [.slice b0 n0 d0 f0, .slice none 0 0 true] false)) b0 n0 w.cs := g3.keep (by omega) fun j hj _ => by rw [Zbt (by omega)]
  generalize hh4 : h3.set h1.length (.cells Zam [.slice b0 n0 d0 f0, .slice none 0 0 true] false) = h4 at *
  have l4 : h4.length = h3.length := by rw [← hh4]; simp
  simp only [Zak x4, List.getElem?_cons_succ, List.getElem?_cons_zero, Zah]
  refine (Zut (r.same S4) b).mono ?_
  rintro v h5 ⟨b1, d1, f1, ys, rfl, hd1, s5, g5, hyl, hrep, hsep, hnn⟩
  simp only [Zah]
  have l5 := s5.le
  have y5 := s5.get y4 (by omega)
  have z5 := s5.get z4 (by omega)
  rw [Zxa z5]
  simp only [Zav]
  rw [Zbh (Zcp z5)]
  simp only [Zau, Zaf, Zaq, Zah]
  have y6 : (h5.set h1.length (.cells Zam [.slice b0 n0 d0 f0, .slice b1 n1 d1 f1] false))[h0.length]? = some (.cells Zam [.slice none 0 0 true, .slice none 0 0 true] false) := by rw [Zbt (by omega)]; exact y5
  rw [Yem y6]
  simp only [Zav]
  rw [Zbh (Zcp y6)]
  simp only [Zau, Zaf, Zaq, Zah]
  refine ⟨_, _, _, _, _, _, ys, rfl, hd0, hd1, ((S4.cat s5).set' (by omega)).set' (by omega), ?_⟩
  have kp : ∀ j, h.length + 3 ≤ j → j < h5.length → ((h5.set h1.length (.cells Zam [.slice b0 n0 d0 f0, .slice b1 n1 d1 f1] false)).set h0.length (.cells Zam [.slice b0 n0 d0 f0, .slice b1 n1 d1 f1] false))[j]? = h5[j]? := fun j hj _ => by rw [Zbt (by omega), Zbt (by omega)]
  exact ⟨(g4.same s5).keep (by omega) fun j hj hj2 => kp j hj hj2, g5.keep (by omega) fun j hj hj2 => kp j (by omega) hj2, hyl, fun k x i hx hi => by
    obtain ⟨p1, p2, p3⟩ := hrep k x i hx hi
    exact ⟨p1, p2, p3.keep (by omega) fun j hj hj2 => kp j (by omega) hj2⟩, hsep, hnn⟩

theorem Zwd {h : Zaa} {a a' : Pt} {n n' c c' : Nat} {e e' : Bool} {i : Ins} (r : Row h.length h a (n * 2) (Zfa eP i.2)) (r' : Row h.length h a' (n' * 2) (Zfa eP i.2)) (hn : n ≤ 1048576) :
    Zad pg Ziy [.agg [.str i.1.1, .str i.1.2, .slice a n c e], .agg [.str i.1.1, .str i.1.2, .slice a' n' c' e']] h fun v h' => v = .bool true ∧ Zbe h.length h h' := by
  apply Zlt.call
  simp only [Zaz]
  generalize hh0 : h ++ [Zcj.cells Zal [.str i.1.1, .str i.1.2, .slice a n c e] false] = h0
  generalize hh1 : h0 ++ [Zcj.cells Zal [.str i.1.1, .str i.1.2, .slice a' n' c' e'] false] = h1
  have s0 : Zbe h.length h h0 := by rw [← hh0]; exact Zas
  have s1 : Zbe h0.length h0 h1 := by rw [← hh1]; exact Zas
  have x0 : h0[h.length]? = some (.cells Zal [.str i.1.1, .str i.1.2, .slice a n c e] false) := by rw [← hh0]; simp
  have y1 : h1[h0.length]? = some (.cells Zal [.str i.1.1, .str i.1.2, .slice a' n' c' e'] false) := by rw [← hh1]; simp
  have x1 := s1.get x0 (Own.lt x0)
  simp only [Nat.add_zero, Nat.zero_add]
  rw [Ygp x1, Ygp y1]
  simp only [Zau, Zaf, Zaq, Zag]
  refine Zxy.mono ?_
  rintro v h2 ⟨rfl, s2⟩
  simp only [Zai, decide_true, Bool.and_self, Bool.not_true, Zay]
  simp only [Zak (s2.get x1 (Own.lt x1)), Zak (s2.get y1 (Own.lt y1)), List.getElem?_cons_succ, List.getElem?_cons_zero, Zah]
  have S2 := (s0.cat s1).cat s2
  refine (Ydk (r.same' S2) (r'.same' S2) (by omega) rfl).mono ?_
  rintro v h3 ⟨rfl, s3⟩
  simp only [Zai, Bool.not_true, Zay]
  exact ⟨by trivial, S2.cat s3⟩
theorem Zux {h : Zaa} {a a' x x' : Pt} {n n' c c' m m' d d' : Nat} {e e' : Bool} {w : Wd} (r : Zpe h x m d a n c w) (r' : Zpe h x' m' d' a' n' c' w) (b : WB w) :
    Zad pg Zib [.slice a n c e, .slice a' n' c' e'] h fun v h' => v = .bool true ∧ Zbe h.length h h' := by
  have hl := r.len1
  have hl' := r'.len1
  have hli := b.li
  have : n' = n := by omega
  subst this
  apply Zex.call
  simp only [beq_self_eq_true, Bool.not_true, Zay]
  refine Zex.L4ind _ _ _ _ _ _ _ _ _ (J := fun (k : Nat) x5 h' => Zbe h.length h h' ∧ x5 = (k : Int) ∧ k ≤ n') (fun k => n' - k) ?_ 0 0 h ⟨Zbe.refl _ _, rfl, by omega⟩
  rintro k x5 h' ⟨hs, rfl, hk⟩ R hR
  unfold Zex.L4t
  refine Zap (fun hlt => ?_) (fun hge => Zex.A4x0i _ _ ⟨rfl, hs⟩)
  obtain ⟨i, o, hgl, a2, n2, c2, e2, rfl, _, hr, _, _, _, hrow, hn⟩ := (r.same hs).inst (k := k) (by omega)
  obtain ⟨i', o', hgl', a2', n2', c2', e2', rfl, _, hr', _, _, _, hrow', hn'⟩ := (r'.same hs).inst (k := k) (by omega)
  have hb := b.is _ (List.getElem_mem hgl)
  simp only [Zax, Int.toNat_natCast, hr, hr', Zau, Zaf, Zaq, Zag, Zah, true_and]
  refine ⟨⟨by omega, by omega⟩, ⟨by omega, by omega⟩, (Zwd (i := w.is[k]) hrow hrow' (by omega)).mono ?_⟩
  rintro v h1 ⟨rfl, s1⟩
  simp only [Zai, Bool.not_true, Zay]
  rw [Zbs (by omega)]
  exact hR (k + 1) _ _ (by omega) ⟨hs.cat s1, rfl, by omega⟩
theorem Yeh {h : Zaa} {a0 a1 b0 b1 : Pt} {n0 c0 n1 c1 m0 d0 m1 d1 : Nat} {e0 e1 f0 f1 : Bool} {w : Wd} (r : Zpe h a0 n0 c0 a1 n1 c1 w) (r' : Zpe h b0 m0 d0 b1 m1 d1 w) (b : WB w) :
    Zad pg Zlq [.agg [.slice a0 n0 c0 e0, .slice a1 n1 c1 e1], .agg [.slice b0 m0 d0 f0, .slice b1 m1 d1 f1]] h fun v h' => v = .bool true ∧ Zbe h.length h h' := by
  have hl := r.len0
  have hlc := b.lc
  apply Zor.call
  simp only [Zaz]
  generalize hh0 : h ++ [Zcj.cells Zam [.slice a0 n0 c0 e0, .slice a1 n1 c1 e1] false] = h0
  generalize hh1 : h0 ++ [Zcj.cells Zam [.slice b0 m0 d0 f0, .slice b1 m1 d1 f1] false] = h1
  have s0 : Zbe h.length h h0 := by rw [← hh0]; exact Zas
  have s1 : Zbe h0.length h0 h1 := by rw [← hh1]; exact Zas
  have x0 : h0[h.length]? = some (.cells Zam [.slice a0 n0 c0 e0, .slice a1 n1 c1 e1] false) := by rw [← hh0]; simp
  have y1 : h1[h0.length]? = some (.cells Zam [.slice b0 m0 d0 f0, .slice b1 m1 d1 f1] false) := by rw [← hh1]; simp
  have x1 := s1.get x0 (Own.lt x0)
  simp only [Nat.add_zero, Nat.zero_add, Zak x1, Zak y1, List.getElem?_cons_zero, Zah]
  have S1 := s0.cat s1
  refine (Zxq (r.cls.same' S1) (r'.cls.same' S1) (by omega) rfl).mono ?_
  rintro v h2 ⟨rfl, s2⟩
  simp only [Zai, Bool.not_true, Zay, Zak (s2.get x1 (Own.lt x1)), Zak (s2.get y1 (Own.lt y1)), List.getElem?_cons_succ, List.getElem?_cons_zero, Zah]
  refine (Zux (r.same (S1.cat s2)) (r'.same (S1.cat s2)) b).mono ?_
  rintro v h3 ⟨rfl, s3⟩
  simp only [Zai, Bool.not_true, Zay]
  exact ⟨by trivial, (S1.cat s2).cat s3⟩
end Go.Sim

set_option linter.unusedVariables false
set_option linter.unusedSimpArgs false
set_option maxRecDepth 20000
namespace Go.Sim
open Go Go.RowKit

theorem Ty.size_ps (t : Ty) : t.size = 1 + (t.ps.map Ty.size).sum := by cases t <;> simp [Ty.size, Ty.ps] <;> omega
theorem Zgq.same {S : Nat → Prop} {h h' : Zaa} (s : Zbe h.length h h') : ∀ {t : Ty} {v : List Zan}, Zgq S h t v → Zgq S h' t v
  | .k d, _, h => h
  | .u d x, _, ⟨j, c, e, r, hv, sj, hj, hr⟩ => ⟨j, c, e, r, hv, sj, s.get hj (Own.lt hj), hr.same s⟩
  | .w d x y, _, ⟨j, c, e, r, r', hv, sj, hj, hr, hr'⟩ => ⟨j, c, e, r, r', hv, sj, s.get hj (Own.lt hj), hr.same s, hr'.same s⟩
end Go.Sim

set_option linter.unusedVariables false
set_option linter.unusedSimpArgs false
set_option maxRecDepth 20000
namespace Go.Sim
open Go Go.RowKit

theorem Vec.lt' {ty : TypeId} {h : Zaa} {a : Pt} {i n c : Nat} {cs : List Zan} (x : Vec ty h a n c cs) (e : a = some (i, 0)) : i < h.length := by subst e; exact x.lt
theorem Zot.keep {S : Nat → Prop} {h h' : Zaa} (hh : ∀ j, S j → j < h.length → h'[j]? = h[j]?) : ∀ {t : Ty} {p : Pt}, Zot S h t p → Zot S h' t p
  | .k d, p, ⟨i, a, c, e, hp, si, hi⟩ => ⟨i, a, c, e, hp, si, by rw [hh i si (Own.lt hi)]; exact hi⟩
  | .u d x, p, ⟨i, j, c, e, q, hp, si, hi, sj, hj, hq⟩ => ⟨i, j, c, e, q, hp, si, by rw [hh i si (Own.lt hi)]; exact hi, sj, by rw [hh j sj (Own.lt hj)]; exact hj, hq.keep hh⟩
  | .w d x y, p, ⟨i, j, c, e, q, r, hp, si, hi, sj, hj, hq, hr⟩ => ⟨i, j, c, e, q, r, hp, si, by rw [hh i si (Own.lt hi)]; exact hi, sj, by rw [hh j sj (Own.lt hj)]; exact hj, hq.keep hh, hr.keep hh⟩
theorem Zot.same {S : Nat → Prop} {h h' : Zaa} {t : Ty} {p : Pt} (r : Zot S h t p) (s : Zbe h.length h h') : Zot S h' t p := r.keep fun j _ hj => s.eq j hj
theorem Zgq.keep {S : Nat → Prop} {h h' : Zaa} (hh : ∀ j, S j → j < h.length → h'[j]? = h[j]?) : ∀ {t : Ty} {v : List Zan}, Zgq S h t v → Zgq S h' t v
  | .k d, _, h => h
  | .u d x, _, ⟨j, c, e, r, hv, sj, hj, hr⟩ => ⟨j, c, e, r, hv, sj, by rw [hh j sj (Own.lt hj)]; exact hj, hr.keep hh⟩
  | .w d x y, _, ⟨j, c, e, r, r', hv, sj, hj, hr, hr'⟩ => ⟨j, c, e, r, r', hv, sj, by rw [hh j sj (Own.lt hj)]; exact hj, hr.keep hh, hr'.keep hh⟩
theorem Ty.txt_inter (t : Ty) (h : t.ps ≠ []) : t.txt = ([t.hd] ++ [40]) ++ [44].intercalate (t.ps.map Ty.txt) ++ [41] := by
  cases t with
  | k c => simp [Ty.ps] at h
  | u c a => simp [Ty.ps, Ty.txt, Ty.hd, List.intercalate]
  | w c a b => simp [Ty.ps, Ty.txt, Ty.hd, List.intercalate]
theorem Ty.size_part {t x : Ty} (h : x ∈ t.ps) : x.size < t.size := by
  cases t with
  | k c => simp [Ty.ps] at h
  | u c a => simp [Ty.ps] at h; subst h; simp [Ty.size]
  | w c a b => simp [Ty.ps] at h; rcases h with rfl | rfl <;> simp [Ty.size] <;> omega
theorem Ty.len_part {t x : Ty} (h : x ∈ t.ps) : x.txt.length < t.txt.length := by
  cases t with
  | k c => simp [Ty.ps] at h
  | u c a => simp [Ty.ps] at h; subst h; simp [Ty.txt]; omega
  | w c a b => simp [Ty.ps] at h; rcases h with rfl | rfl <;> simp [Ty.txt] <;> omega
theorem Yia : ∀ (N : Nat) {S : Nat → Prop} {h : Zaa} {t : Ty} {p : Pt}, t.size ≤ N → t.txt.length ≤ 1048576 → Zot S h t p → Zad pg Zhq [.ptr p] h fun x h' => x = .str t.txt ∧ Zbe h.length h h'
  | 0, S, h, t, p, hN, _, _ => by have := t.size_ps; omega
  | N + 1, S, h, t, p, hN, hB, r => by
    obtain ⟨i, a, c, e, qs, rfl, si, hi, hrow, hS, hql, hq⟩ := r.parts
    have hps2 : t.ps.length ≤ 2 := by cases t <;> simp [Ty.ps]
    apply Zft.call
    simp only [Zax, Zak hi, Nat.zero_add, List.getElem?_cons_succ, List.getElem?_cons_zero, Zah, Zag]
    refine Zfe (fun hz0 => ?_) (fun hz0 => ?_)
    · have : t.ps.length = 0 := by omega
      refine ⟨?_, Zbe.refl _ _⟩
      cases t <;> simp [Ty.ps] at this
      rfl
    · simp only [Zaz]
      generalize hh0 : h ++ [Zcj.cells Zcz [] false] = h0
      have s0 : Zbe h.length h h0 := by rw [← hh0]; exact Zas
      have i0 := s0.get hi (Own.lt hi)
      have l0 : h0.length = h.length + 1 := by rw [← hh0]; simp
      have v0 : h0[h.length]? = some (.cells Zcz [] false) := by rw [← hh0]; simp
      simp only [Zak i0, List.getElem?_cons_succ, List.getElem?_cons_zero, Zah]
      refine Zft.L5ind _ _ _ _ _ _ _ (J := fun (g : Nat) a3 n3 c3 e3 x22 h' => x22 = (g : Int) ∧ g ≤ t.ps.length ∧ Zbe h.length h h' ∧ n3 = g ∧ Vec Zcz h' a3 n3 c3 (strs ((t.ps.take g).map Ty.txt)) ∧ (∀ i, a3 = some (i, 0) → h.length ≤ i)) (fun g => t.ps.length - g) ?_ 0 _ _ _ _ _ _
        ⟨rfl, by omega, s0, rfl, Vec.mk1 (by simpa using v0), fun i hi => by cases hi; omega⟩
      rintro g a3 n3 c3 e3 x22 h' ⟨rfl, hg, hSm, rfl, hv, ha⟩ R hR
      unfold Zft.L5t
      have i1 := hSm.get hi (Own.lt hi)
      refine Zap (fun hlt => ?_) (fun hge => ?_)
      · have hg' : n3 < t.ps.length := by omega
        obtain ⟨j, o, rfl, hj, hc⟩ := (hrow.same hSm).at hg'
        have hqg : n3 < qs.length := by omega
        rw [List.getElem?_map, List.getElem?_eq_getElem hqg] at hc
        simp only [Zax, Int.toNat_natCast, Nat.mul_one, hc, Option.map_some, Zgp]
        have hk := hq n3 qs[n3] t.ps[n3] (List.getElem?_eq_getElem hqg) (List.getElem?_eq_getElem hg')
        have hm := List.getElem_mem hg'
        have h1 := Ty.size_part hm
        have h2 := Ty.len_part hm
        refine ⟨by omega, (Yia N (by omega) (by omega) (hk.same hSm)).mono ?_⟩
        rintro x h2 ⟨rfl, s2⟩
        simp only [Zag, Zaz]
        refine (hv.same s2).push Ztj Zxs Zxi Zzg (by simp; omega) rfl (by omega) (fun h4 hl4 hi4 hk4 => ?_)
        simp only [Zah]
        rw [Zbs (by omega)]
        have S2 := hSm.cat s2
        have hle := S2.le
        refine hR (n3 + 1) _ _ _ _ _ _ (by omega) ⟨rfl, by omega, ⟨by omega, fun j hj => ?_⟩, rfl, Vec.mk1 ?_, fun i hi => by cases hi; omega⟩
        · rw [hk4 j (by omega) fun i hi => by have := ha i hi; omega]; exact S2.eq j hj
        · rw [hi4, List.take_succ_eq_append_getElem hg', List.map_append, Ybh]; rfl
      · apply Zft.A5x0i
        have : n3 = t.ps.length := by omega
        subst this
        rw [List.take_length] at hv
        have hne : t.ps ≠ [] := fun e => hz0 (by rw [e]; rfl)
        have htx := t.txt_inter hne
        have hln := congrArg List.length htx
        simp at hln
        simp only [Zax, Zak i1, Nat.zero_add, List.getElem?_cons_zero, Zag]
        refine ⟨by simp, ?_⟩
        refine (Ykb (hv.row (by simp)) (by omega) (by omega)).mono ?_
        rintro v h3 ⟨rfl, rfl⟩
        simp only [Zag]
        refine ⟨Zak i1, by simp; omega, by simp; omega, ?_⟩
        exact ⟨by rw [htx], hSm⟩
theorem Zgq.get {S : Nat → Prop} {h : Zaa} {t : Ty} {a : Pt} {vs : List (List Zan)} (hrow : Row h.length h a (t.ps.length * 2) vs.flatten) (hvl : vs.length = t.ps.length) (hp : ∀ (k : Nat) (w : List Zan) (x : Ty), vs[k]? = some w → t.ps[k]? = some x → Zgq S h x w) {g : Nat} (hg' : g < t.ps.length) :
    ∃ i o a2 c2 e2, a = some (i, o) ∧ Zbp h (.ptr (some (i, o + g * 2))) 2 = some [.int .u8 (t.ps[g].hd : Int), .slice a2 t.ps[g].ps.length c2 e2] ∧ Zgq S h t.ps[g] [.int .u8 (t.ps[g].hd : Int), .slice a2 t.ps[g].ps.length c2 e2] := by
  have hgv : g < vs.length := by omega
  have hk := hp g vs[g] t.ps[g] (List.getElem?_eq_getElem hgv) (List.getElem?_eq_getElem hg')
  have hz : ∀ v ∈ vs, v.length = 2 := fun v hv => by
    obtain ⟨k, hk, rfl⟩ := List.mem_iff_getElem.1 hv
    exact (hp k vs[k] (t.ps[k]'(by omega)) (List.getElem?_eq_getElem hk) (List.getElem?_eq_getElem (by omega))).len
  have hfl : vs.flatten = Zfa (fun (v : {v : List Zan // v.length = 2}) => v.1) (vs.attach.map fun v => ⟨v.1, hz v.1 v.2⟩) := by
    unfold Zfa; rw [List.flatMap_map]; simp
  rw [hfl] at hrow
  obtain ⟨i, o, hk', ha, _, hr, _⟩ := Row.el (enc := fun (v : {v : List Zan // v.length = 2}) => v.1) (fun x => x.2) hrow (by simp [hvl]) (k := g) hg' (by omega)
  obtain ⟨a2, c2, e2, hv2⟩ := hk.shape
  rw [hv2] at hk
  exact ⟨i, o, a2, c2, e2, ha, by rw [hr]; simp [hv2], hk⟩
theorem Yfu {g : Nat} (hg : g < 2) : sub [40, 44] (g : Int) ((g : Int) + 1) = [Zny g] := by
  rcases g with _ | _ | g
  · rfl
  · rfl
  · omega
theorem Ty.hd_lt (t : Ty) (h : t.ok = true) : t.hd < 256 := by
  have := Ty.ok_ar h
  unfold arN Zlo Zcv at this
  simp only [Bool.or_eq_true, beq_iff_eq] at this
  split at this
  · omega
  · split at this
    · omega
    · split at this
      · omega
      · omega
def Zmd : Nat → List Ty → List Nat
  | _, [] => []
  | g, x :: l => Zny g :: (x.txt ++ Zmd (g + 1) l)
theorem Zrd : ∀ (l : List Ty) (g k : Nat) (h : k < l.length), Zmd g (l.take (k + 1)) = Zmd g (l.take k) ++ Zny (g + k) :: l[k].txt
  | x :: l, g, 0, _ => by simp [Zmd]
  | x :: l, g, k + 1, h => by
    have := Zrd l (g + 1) k (by simpa using h)
    simp only [List.take_succ_cons, Zmd, this, List.getElem_cons_succ, List.cons_append, List.append_assoc]
    rw [show g + 1 + k = g + (k + 1) by omega]
theorem Zte : ∀ (l : List Ty) (g k : Nat), (Zmd g (l.take k)).length ≤ (Zmd g l).length
  | [], g, k => by simp [Zmd]
  | x :: l, g, 0 => by simp [Zmd]
  | x :: l, g, k + 1 => by
    have := Zte l (g + 1) k
    simp only [List.take_succ_cons, Zmd, List.length_cons, List.length_append]; omega
theorem Ty.txt_mids (t : Ty) : t.txt = t.hd :: Zmd 0 t.ps ++ (if t.ps = [] then [] else [41]) := by
  cases t <;> simp [Ty.ps, Ty.txt, Ty.hd, Zmd, Zny]
theorem Znn : ∀ (N : Nat) {S : Nat → Prop} {h : Zaa} {t : Ty} {v : List Zan}, t.size ≤ N → t.txt.length ≤ 1048576 → t.ok = true → Zgq S h t v → Zad pg Zfp [.agg v] h fun x h' => x = .str t.txt ∧ Zbe h.length h h'
  | 0, S, h, t, v, hN, _, _, _ => by have := t.size_ps; omega
  | N + 1, S, h, t, v, hN, hB, hok, r => by
    obtain ⟨a, c, e, vs, rfl, hrow, hS, hvl, hp⟩ := r.parts
    have hps2 : t.ps.length ≤ 2 := by cases t <;> simp [Ty.ps]
    have htx := t.txt_mids
    have hln := congrArg List.length htx
    rw [List.length_append, List.length_cons] at hln
    apply Zfo.call
    simp only [Zaz, Zes, Nat.zero_add, List.getElem?_cons_succ, List.getElem?_cons_zero, Zah, Zao]
    generalize hh0 : h ++ [Zcj.cells Zac [.int .u8 (t.hd : Int), .slice a t.ps.length c e] false] = h0
    have s0 : Zbe h.length h h0 := by rw [← hh0]; exact Zas
    have o0 : h0[h.length]? = some (.cells Zac [.int .u8 (t.hd : Int), .slice a t.ps.length c e] false) := by rw [← hh0]; simp
    generalize hh1 : h0 ++ [Zcj.cells Yfd [.int .u8 (t.hd : Int)] false] = h1
    have s1 : Zbe h0.length h0 h1 := by rw [← hh1]; exact Zas
    have o1 := s1.get o0 (Own.lt o0)
    have hro : rowOf h1 (some (h0.length, 0)) 1 = some [.int .u8 (t.hd : Int)] := by rw [← hh1]; simp [rowOf, Zbp]
    rw [hro]
    simp only [Zau, Znq, chk, decide_true]
    rw [show ((t.hd : Int)).toNat = t.hd from Int.toNat_natCast _]
    refine ⟨⟨by omega, by have := t.hd_lt hok; omega⟩, ?_⟩
    simp only [Zak o1, List.getElem?_cons_succ, List.getElem?_cons_zero, Zah]
    refine Zfo.L3ind _ _ _ _ _ _ _ _ (J := fun (g : Nat) x3 x13 h' => x13 = (g : Int) ∧ g ≤ t.ps.length ∧ Zbe h.length h h' ∧ Zbe h1.length h1 h' ∧ x3 = t.hd :: Zmd 0 (t.ps.take g)) (fun g => t.ps.length - g) ?_ 0 _ _ _ ⟨rfl, by omega, s0.cat s1, Zbe.refl _ _, by simp [Zmd]⟩
    rintro g x3 x13 h' ⟨rfl, hg, hSm, hS1, rfl⟩ R hR
    unfold Zfo.L3t
    have o2 := hS1.get o1 (Own.lt o1)
    refine Zap (fun hlt => ?_) (fun hge => ?_)
    · have hg' : g < t.ps.length := by omega
      obtain ⟨i, o, a2, c2, e2, rfl, hr, hk⟩ := Zgq.get (hrow.same' hSm) hvl (fun k w x h1 h2 => (hp k w x h1 h2).same hSm) hg'
      simp only [Zax, Int.toNat_natCast, hr, Zau, Zaf, Zaq, Zao, Zah, Zaz]
      rw [Zfi]
      simp only [Zav]
      rw [Yip]
      simp only [Zau, Zaf, Zaq, Zao, Zah]
      rw [Zbs (by omega), show (((g + 1 : Nat) : Int)) = (g : Int) + 1 by omega, Yfu (by omega)]
      have hm := List.getElem_mem hg'
      have h1 := Ty.size_part hm
      have h2 := Ty.len_part hm
      have hmt := Zrd t.ps 0 g hg'
      have hml : (Zmd 0 (t.ps.take (g + 1))).length ≤ (Zmd 0 t.ps).length := Zte _ _ _
      have hmtl := congrArg List.length hmt
      simp only [List.length_append, List.length_cons, Nat.zero_add] at hmtl
      have s2 : Zbe h'.length h' (h' ++ [.cells Zac [.int .u8 (t.ps[g].hd : Int), .slice a2 t.ps[g].ps.length c2 e2] false]) := Zas
      refine ⟨by omega, ⟨by omega, by omega, by simp; omega⟩, by simp; omega, (Znn N (by omega) (by omega) (Ty.ok_ps hok _ hm) (hk.same s2)).mono ?_⟩
      rintro x h3 ⟨rfl, s3⟩
      simp only [Zag]
      refine ⟨by simp; omega, ?_⟩
      exact hR (g + 1) _ _ _ (by omega) ⟨by omega, by omega, (hSm.cat s2).cat s3, (hS1.cat s2).cat s3, by rw [hmt, Nat.zero_add]; simp⟩
    · apply Zfo.A3x0i
      have : g = t.ps.length := by omega
      subst this
      simp only [Zak o2, Nat.zero_add, List.getElem?_cons_succ, List.getElem?_cons_zero, Zah]
      rw [List.take_length]
      refine Zap (fun hpos => ?_) (fun hneg => ?_)
      · have hne : t.ps ≠ [] := fun e => by rw [e] at hpos; simp at hpos
        rw [if_neg hne] at htx hln
        refine ⟨by simp; simp at hln; omega, ?_⟩
        apply Zfo.J9i
        exact ⟨by rw [htx], hSm⟩
      · have hne : t.ps = [] := List.eq_nil_of_length_eq_zero (by omega)
        rw [if_pos hne, List.append_nil] at htx
        apply Zfo.J9i
        exact ⟨by rw [htx], hSm⟩
end Go.Sim

set_option linter.unusedVariables false
namespace Go.Sim
open Go Go.RowKit Go.Maps Go.Sort Go.Shelf Go.Proofs
theorem Yjy (m : Nat) : AnyZ.SortsIn Tryz.prog Tryz.sorted115_ren Fence.wide m :=
  ⟨fun blk off cap ss W hH hblk hsz => callsIn_wide.2 (Tryz.slices_Sort_string blk off cap ss W hH hblk hsz), fun p cap W => callsIn_wide.2 (Tryz.slices_Sort_string_none p cap W)⟩
theorem Ykk {h : Zaa} {m : Option Nat} : Zad pg Zdp [.map m] h fun v h' => v = .fn Zdi [.ptr (some (h.length, 0))] ∧ h' = h ++ [.cells Zfm [.map m] false] :=
  Zad.keys ⟨_, Tryz.func116, by kernel_rfl, by kernel_rfl⟩ (fun mb W => callsIn_wide.1 (AnyZ.keys_in Tryz.keys116 Fence.wide 5 trivial rfl mb W))
set_option maxHeartbeats 1000000 in
theorem Zuw {h : Zaa} {i m : Nat} {es : List ME} {clk : Nat} (hi : h[i]? = some (.cells Zfm [.map (some m)] false)) (hm : h[m]? = some (.map es clk)) {vs : List Nat} (hks : es.map (·.1) = vs.map fun v => .str [v]) (nd : vs.Nodup) (born : (es.map (·.2.2)).Nodup) (lt : ∀ e ∈ es, e.2.2 < clk) (hl : es.length ≤ 1048576) :
    Zad pg Zit [.fn Zdi [.ptr (some (i, 0))]] h fun v h' => ∃ us : List Nat, us.Perm vs ∧ us.Pairwise (· ≤ ·) ∧ ((us = [] ∧ v = .slice none 0 0 true ∧ h' = h) ∨ (∃ c, v = .slice (some (h.length, 0)) us.length c false ∧ us.length ≤ c ∧ h' = h ++ [.cells Zcz (us.map fun v => .str [v]) false])) :=
  Zad.sortedKeys (M := Zfm) (K := Zcz) Tryz.underlying9 (by kernel_rfl) ⟨_, Tryz.func115, by kernel_rfl, by kernel_rfl⟩
    (fun Bm b nn D0 R w hown hBm hcell hmax hbytes => callsIn_wide.1 (by
      have hseq : SeqGives Fence.wide 2 Tryz.prog 147 #[.pointer (some ⟨Bm, 0, none⟩)] encStr (fun ss => ss.Perm (strKeys D0)) (Maps.size D0) w :=
        AnyZ.keys_gives (ρ := Tryz.keys116_ren) { Tryz.keys116 with } Fence.wide _ trivial rfl (by omega) Bm b nn D0 w hBm hcell hown
      exact AnyZ.sorted_in Tryz.sorted115 Fence.wide 5 trivial trivial trivial trivial rfl (by omega) (Yjy _) (enters_of Tryz.func146 (by kernel_rfl) rfl) 147 #[.pointer (some ⟨Bm, 0, none⟩)] trivial (enters_of Tryz.func147 (by kernel_rfl) rfl) _ _ hmax hbytes _ hseq))
    hi hm hks nd born lt hl
end Go.Sim

set_option linter.unusedSimpArgs false
set_option linter.unusedVariables false
namespace Go.Sim

abbrev Bd := List (Nat × Ty)
def Zge : Bd → Nat → Option Ty
  | [], _ => none
  | (v, t) :: m, x => if v = x then some t else Zge m x
def Znb (m : Bd) (v : Nat) (t : Ty) : Option Bd := match Zge m v with | some t' => if t' = t then some m else none | none => some (m ++ [(v, t)])
def matchT : Bd → Ty → Ty → Option Bd
  | m, .k c, t => if Zcv c then Znb m c t else if c = t.hd then some m else none
  | m, .u c a, t => if c = t.hd then (match t.ps with | [x] => matchT m a x | _ => none) else none
  | m, .w c a b, t => if c = t.hd then (match t.ps with | [x, y] => (match matchT m a x with | some m1 => matchT m1 b y | none => none) | _ => none) else none
def matchL : Bd → List Ty → List Ty → Option Bd
  | m, [], _ => some m
  | m, a :: xs, [] => none
  | m, a :: xs, t :: ys => match matchT m a t with | some m1 => matchL m1 xs ys | none => none
theorem Zno {a : Ty} (h : a.ok = true) (hv : Zcv a.hd = true) : a = .k a.hd := by
  cases a with
  | k c => rfl
  | u c a => simp only [Ty.ok, Bool.and_eq_true, Bool.or_eq_true, beq_iff_eq] at h; rcases h.1 with rfl | rfl <;> simp [Ty.hd, Zcv] at hv
  | w c a b => simp only [Ty.ok, Bool.and_eq_true, beq_iff_eq] at h; rcases h.1.1 with rfl; simp [Ty.hd, Zcv] at hv
theorem Ybz {a t : Ty} (ha : a.ok = true) (ht : t.ok = true) (h : a.hd = t.hd) : a.ps.length = t.ps.length := by
  have h1 := Ty.ok_ar ha; have h2 := Ty.ok_ar ht
  rw [h, h2] at h1; omega
theorem Zzd {m : Bd} {a t : Ty} (ha : a.ok = true) (ht : t.ok = true) :
    matchT m a t = if Zcv a.hd then Znb m a.hd t else if a.hd = t.hd then matchL m a.ps t.ps else none := by
  cases a with
  | k c =>
    show matchT m (.k c) t = if Zcv c then Znb m c t else if c = t.hd then matchL m [] t.ps else none
    rw [matchT, matchL]
  | u c a =>
    have hnv : Zcv c = false := by
      cases h : Zcv c with
      | false => rfl
      | true => have := Zno ha h; cases this
    show matchT m (.u c a) t = if Zcv c then Znb m c t else if c = t.hd then matchL m [a] t.ps else none
    rw [matchT, hnv, if_neg (show ¬ (false = true) by decide)]
    by_cases h : c = t.hd
    · have hl : 1 = t.ps.length := Ybz ha ht h
      rw [if_pos h, if_pos h]
      match t.ps, hl with
      | [x], _ => simp only [matchL]; cases matchT m a x <;> rfl
    · rw [if_neg h, if_neg h]
  | w c a b =>
    have hnv : Zcv c = false := by
      cases h : Zcv c with
      | false => rfl
      | true => have := Zno ha h; cases this
    show matchT m (.w c a b) t = if Zcv c then Znb m c t else if c = t.hd then matchL m [a, b] t.ps else none
    rw [matchT, hnv, if_neg (show ¬ (false = true) by decide)]
    by_cases h : c = t.hd
    · have hl : 2 = t.ps.length := Ybz ha ht h
      rw [if_pos h, if_pos h]
      match t.ps, hl with
      | [x, y], _ =>
        simp only [matchL]
        cases matchT m a x with
        | none => rfl
        | some m1 => simp only []; cases matchT m1 b y <;> rfl
    · rw [if_neg h, if_neg h]
theorem Zpg : ∀ (xs ys : List Ty) (m : Bd) (g : Nat) (h1 : g < xs.length) (h2 : g < ys.length), matchL m (xs.take (g + 1)) (ys.take (g + 1)) = match matchL m (xs.take g) (ys.take g) with | some m1 => matchT m1 xs[g] ys[g] | none => none
  | a :: xs, t :: ys, m, 0, _, _ => by
    simp only [List.take_succ_cons, List.take_zero, matchL, List.getElem_cons_zero]
    cases matchT m a t <;> rfl
  | a :: xs, t :: ys, m, g + 1, h1, h2 => by
    simp only [List.length_cons, Nat.add_lt_add_iff_right] at h1 h2
    simp only [List.take_succ_cons, matchL, List.getElem_cons_succ]
    cases hm : matchT m a t with
    | none => rfl
    | some m1 =>
      have := Zpg xs ys m1 g h1 h2
      simpa only [List.take_succ_cons] using this
theorem Zpo : ∀ (xs ys : List Ty) (m : Bd) (g : Nat), xs.length = ys.length → matchL m (xs.take g) (ys.take g) = none → matchL m xs ys = none
  | [], _, m, g, _, h => by simp [matchL] at h
  | a :: xs, [], m, g, hl, h => by simp at hl
  | a :: xs, t :: ys, m, 0, _, h => by simp [matchL] at h
  | a :: xs, t :: ys, m, g + 1, hl, h => by
    simp only [List.take_succ_cons, matchL] at h ⊢
    cases hm : matchT m a t with
    | none => rfl
    | some m1 =>
      rw [hm] at h
      exact Zpo xs ys m1 g (by simpa using hl) h

structure BOk (n : Nat) (m : Bd) : Prop where
  var : ∀ p ∈ m, Zcv p.1 = true ∧ p.2.ok = true ∧ p.2.txt.length ≤ n
  nd : (m.map (·.1)).Nodup
theorem Zok : ∀ {m : Bd} {v : Nat} {t : Ty}, Zge m v = some t → (v, t) ∈ m
  | (w, u) :: m, v, t, h => by
    simp only [Zge] at h
    split at h
    · rename_i e; cases h; subst e; simp
    · exact List.mem_cons_of_mem _ (Zok h)
theorem Zpz : ∀ {m : Bd} {v : Nat}, Zge m v = none ↔ v ∉ m.map (·.1)
  | [], v => by simp [Zge]
  | (w, u) :: m, v => by
    simp only [Zge]
    by_cases e : w = v
    · simp [e]
    · simp only [e, if_false, Zpz (m := m), List.map_cons, List.mem_cons, not_or]
      exact ⟨fun h => ⟨fun e' => e e'.symm, h⟩, fun h => h.2⟩
theorem Yaa {m : Bd} {v : Nat} : (Zge m v).isSome = true ↔ v ∈ m.map (·.1) := by
  cases h : Zge m v with
  | none => simp [Zpz.1 h]
  | some t => simp only [Option.isSome_some, true_iff]; exact List.mem_map.2 ⟨_, Zok h, rfl⟩
theorem Yca {m : Bd} {v x : Nat} {t : Ty} : Zge (m ++ [(v, t)]) x = match Zge m x with | some u => some u | none => if v = x then some t else none := by
  induction m with
  | nil => simp [Zge]
  | cons p m ih =>
    obtain ⟨w, u⟩ := p
    simp only [List.cons_append, Zge, ih]
    split <;> rfl
theorem BOk.nil {n : Nat} : BOk n [] := ⟨by simp, by simp⟩
theorem BOk.note {n : Nat} {m m' : Bd} {v : Nat} {t : Ty} (b : BOk n m) (hv : Zcv v = true) (ht : t.ok = true) (hn : t.txt.length ≤ n) (h : Znb m v t = some m') : BOk n m' := by
  unfold Znb at h
  split at h
  · split at h
    · cases h; exact b
    · cases h
  · rename_i hg
    cases h
    refine ⟨?_, ?_⟩
    · intro p hp
      rcases List.mem_append.1 hp with hp | hp
      · exact b.var p hp
      · simp at hp; subst hp; exact ⟨hv, ht, hn⟩
    · rw [List.map_append, List.nodup_append]
      refine ⟨b.nd, by simp, ?_⟩
      intro x hx y hy e
      simp at hy; subst hy; subst e
      exact Zpz.1 hg hx
theorem Zwl {t x : Ty} (h : x ∈ t.ps) : x.txt.length ≤ t.txt.length := by
  cases t with
  | k c => simp [Ty.ps] at h
  | u c a => simp [Ty.ps] at h; subst h; simp [Ty.txt]; omega
  | w c a b => simp [Ty.ps] at h; rcases h with rfl | rfl <;> simp [Ty.txt] <;> omega
theorem BOk.matchT {n : Nat} : ∀ {a t : Ty} {m m' : Bd}, a.ok = true → t.ok = true → t.txt.length ≤ n → BOk n m → Go.Sim.matchT m a t = some m' → BOk n m'
  | .k c, t, m, m', ha, ht, hn, b, h => by
    simp only [Go.Sim.matchT] at h
    split at h
    · rename_i hv; exact b.note hv ht hn h
    · split at h
      · cases h; exact b
      · cases h
  | .u c a, t, m, m', ha, ht, hn, b, h => by
    simp only [Ty.ok, Bool.and_eq_true] at ha
    simp only [Go.Sim.matchT] at h
    split at h
    · split at h
      · rename_i x hx
        have hm : x ∈ t.ps := by rw [hx]; simp
        exact BOk.matchT ha.2 (Ty.ok_ps ht x hm) (Nat.le_trans (Zwl hm) hn) b h
      · cases h
    · cases h
  | .w c a a2, t, m, m', ha, ht, hn, b, h => by
    simp only [Ty.ok, Bool.and_eq_true] at ha
    simp only [Go.Sim.matchT] at h
    split at h
    · split at h
      · rename_i x y hx
        have hm : x ∈ t.ps := by rw [hx]; simp
        have hm2 : y ∈ t.ps := by rw [hx]; simp
        split at h
        · rename_i m1 h1
          exact BOk.matchT ha.2 (Ty.ok_ps ht y hm2) (Nat.le_trans (Zwl hm2) hn) (BOk.matchT ha.1.2 (Ty.ok_ps ht x hm) (Nat.le_trans (Zwl hm) hn) b h1) h
        · cases h
      · cases h
    · cases h
theorem BOk.matchL {n : Nat} : ∀ {xs ys : List Ty} {m m' : Bd}, (∀ a ∈ xs, a.ok = true) → (∀ t ∈ ys, t.ok = true ∧ t.txt.length ≤ n) → BOk n m → Go.Sim.matchL m xs ys = some m' → BOk n m'
  | [], _, m, m', _, _, b, h => by simp [Go.Sim.matchL] at h; subst h; exact b
  | a :: xs, [], m, m', _, _, b, h => by simp [Go.Sim.matchL] at h
  | a :: xs, t :: ys, m, m', ha, ht, b, h => by
    simp only [Go.Sim.matchL] at h
    split at h
    · rename_i m1 h1
      exact BOk.matchL (fun a h => ha a (by simp [h])) (fun t h => ht t (by simp [h])) (BOk.matchT (ha a (by simp)) (ht t (by simp)).1 (ht t (by simp)).2 b h1) h
    · cases h
def bdL (m : Bd) : List Nd := Zee.filterMap fun v => (Zge m v).map fun t => ([v], t.txt)
noncomputable def Zio (p s : List Nat) : Option Bd := match Zhz p, Zhz s with | some a, some b => matchT [] a b | _, _ => none
noncomputable def Zoe (p s : List Nat) : Bool := (Zio p s).isSome
noncomputable def Zik (p s : List Nat) : List Nd := match Zio p s with | some m => bdL m | none => []
theorem Zum {p s : List Nat} {m : Bd} (h : Zio p s = some m) : BOk 60 m := by
  unfold Zio at h
  split at h
  · rename_i a b ha hb
    obtain ⟨h1, _, _⟩ := Zeq.1 ha
    obtain ⟨h2, h3, h4⟩ := Zeq.1 hb
    exact BOk.matchT h1 h2 (by rw [← h3]; exact h4) BOk.nil h
  · cases h
theorem Zpp : Zee.Nodup := by decide
theorem Zrx : Zee.Pairwise (· < ·) := by decide
theorem Ybl (m : Bd) : bdL m = (Zee.filter fun v => (Zge m v).isSome).map fun v => ([v], ((Zge m v).getD default).txt) := by
  unfold bdL
  induction Zee with
  | nil => rfl
  | cons v l ih =>
    simp only [List.filterMap_cons, List.filter_cons]
    cases h : Zge m v with
    | none => simpa [h] using ih
    | some t => simp [h, ih]
theorem Zzv {n : Nat} {m : Bd} (b : BOk n m) {ks : List Nat} (hp : ks.Perm (m.map (·.1))) (hs : ks.Pairwise (· ≤ ·)) : ks = Zee.filter fun v => (Zge m v).isSome := by
  have hnd : ks.Nodup := hp.nodup_iff.2 b.nd
  have h1 : ks.Pairwise (· < ·) := by
    have := List.pairwise_and_iff.2 ⟨hs, hnd⟩
    exact this.imp fun h => by have := h.1; have := h.2; omega
  have h2 : (Zee.filter fun v => (Zge m v).isSome).Pairwise (· < ·) := Zrx.filter _
  have hp2 : ks.Perm (Zee.filter fun v => (Zge m v).isSome) := by
    rw [List.perm_ext_iff_of_nodup hnd (Zpp.filter _)]
    intro v
    rw [hp.mem_iff, List.mem_filter, Yaa]
    constructor
    · intro hv
      obtain ⟨p, hp, rfl⟩ := List.mem_map.1 hv
      exact ⟨(Zns _).2 (b.var p hp).1, hv⟩
    · exact fun h => h.2
  exact hp2.eq_of_pairwise (fun a b _ _ h1 h2 => by omega) h1 h2
theorem Ycz {α : Type} {f : α → Bool} {l : List α} {g : Nat} (hg : g < l.length) (h : (l.take g).find? f = none) (k : f l[g] = true) : l.find? f = some l[g] := by
  have h1 : l = l.take g ++ l[g] :: l.drop (g + 1) := by rw [← List.drop_eq_getElem_cons hg, List.take_append_drop]
  conv => lhs; rw [h1]
  rw [List.find?_append, h, List.find?_cons, k]; rfl
theorem Zsu {α : Type} {f : α → Bool} {l : List α} {g : Nat} (hg : g < l.length) (h : (l.take g).find? f = none) (k : f l[g] = false) : (l.take (g + 1)).find? f = none := by
  rw [List.take_succ_eq_append_getElem hg, List.find?_append, h]; simp [k]
end Go.Sim

set_option linter.unusedVariables false
set_option linter.unusedSimpArgs false
set_option maxRecDepth 20000
namespace Go.Sim
open Go Go.RowKit

def Yhr (h : Zaa) (i : Nat) (m : Bd) : Prop := ∃ es clk, h[i]? = some (.map es clk) ∧ es.map (·.1) = m.map (fun p => Zan.str [p.1]) ∧ es.map (·.2.1) = m.map (fun p => Zan.str p.2.txt) ∧ (es.map (·.2.2)).Nodup ∧ ∀ e ∈ es, e.2.2 < clk
theorem Yhr.eq {h h' : Zaa} {i : Nat} {m : Bd} (r : Yhr h i m) (he : h'[i]? = h[i]?) : Yhr h' i m := by
  obtain ⟨es, clk, h1, x⟩ := r
  exact ⟨es, clk, by rw [he]; exact h1, x⟩
theorem Yhr.lt {h : Zaa} {i : Nat} {m : Bd} (r : Yhr h i m) : i < h.length := by obtain ⟨es, clk, h1, _⟩ := r; exact Own.lt h1
theorem Zof : ∀ {es : List ME} {m : Bd} {v k : Nat} {t : Ty}, es.map (·.1) = m.map (fun p => Zan.str [p.1]) → es.map (·.2.1) = m.map (fun p => Zan.str p.2.txt) → Zge m v = some t → ∃ j b, Zqy es [v] k = some (some (k + j, .str t.txt)) ∧ es[j]? = some (.str [v], .str t.txt, b)
  | _, [], v, k, t, _, _, h => by simp [Zge] at h
  | [], p :: m, v, k, t, h, _, _ => by simp at h
  | (ek, ev, eb) :: es, (w, u) :: m, v, k, t, hk, hv, h => by
    simp only [List.map_cons, List.cons.injEq] at hk hv
    obtain ⟨rfl, hk⟩ := hk
    obtain ⟨rfl, hv⟩ := hv
    simp only [Zge] at h
    by_cases e : w = v
    · rw [if_pos e] at h
      cases h; subst e
      exact ⟨0, eb, by simp [Zqy], rfl⟩
    · rw [if_neg e] at h
      obtain ⟨j, b, h1, h2⟩ := Zof (k := k + 1) hk hv h
      have : ¬ [v] = [w] := fun x => e (by simpa using x.symm)
      exact ⟨j + 1, b, by simp only [Zqy, this, if_false, h1]; rw [show k + 1 + j = k + (j + 1) by omega], h2⟩
theorem Zol : ∀ {es : List ME} {m : Bd} {v k : Nat}, es.map (·.1) = m.map (fun p => Zan.str [p.1]) → Zge m v = none → Zqy es [v] k = some none
  | [], [], v, k, _, _ => rfl
  | [], p :: m, v, k, h, _ => by simp at h
  | e :: es, [], v, k, h, _ => by simp at h
  | (ek, ev, eb) :: es, (w, u) :: m, v, k, hk, h => by
    simp only [List.map_cons, List.cons.injEq] at hk
    obtain ⟨rfl, hk⟩ := hk
    simp only [Zge] at h
    by_cases e : w = v
    · rw [if_pos e] at h; cases h
    · rw [if_neg e] at h
      have : ¬ [v] = [w] := fun x => e (by simpa using x.symm)
      simp only [Zqy, this, if_false]
      exact Zol hk h
theorem Zuj {α : Type} {f : α → α} {e : α} : ∀ {l : List α} {j : Nat}, l[j]? = some e → f e = e → l.modify j f = l
  | [], j, h, _ => by simp at h
  | a :: l, 0, h, hf => by simp at h; subst h; simp [hf]
  | a :: l, j + 1, h, hf => by simp at h; simp [Zuj h hf]
theorem Ycx (c : Nat) : Ziu [c] = Zcv c := rfl
theorem Row.keepAt {i : Nat} {h h' : Zaa} {a : Pt} {n : Nat} {cs : List Zan} (r : Row h.length h a n cs) (hne : ∀ j o, n ≠ 0 → a = some (j, o) → j ≠ i) (k : Zga i h h') : Row h'.length h' a n cs := by
  obtain ⟨hl, r⟩ := r
  by_cases h0 : n = 0
  · exact ⟨hl, .inl h0⟩
  · refine ⟨hl, r.imp id ?_⟩
    rintro ⟨j, o', t, all, ro, ha, hi, hg, x⟩
    have := k.le
    exact ⟨j, o', t, all, ro, ha, by omega, by rw [k.eq j hi (hne j o' h0 ha)]; exact hg, x⟩
def Yod (h : Zaa) (i : Nat) (r : Option Bd) (v : Zan) (h' : Zaa) : Prop := Zga i h h' ∧ (match r with | some m' => v = .bool true ∧ Yhr h' i m' | none => v = .bool false)
theorem Ycq : ∀ (N : Nat) {a t : Ty} {S : Nat → Prop} {h : Zaa} {p q : Pt} {i n : Nat} {m : Bd}, a.size ≤ N → a.ok = true → t.ok = true → t.txt.length ≤ 1048576 → t.txt.length ≤ n → BOk n m → (∀ j, S j → j ≠ i) → Zot S h a p → Zot S h t q → Yhr h i m →
    Zad pg Zgs [.ptr p, .ptr q, .map (some i)] h (Yod h i (matchT m a t))
  | 0, a, t, S, h, p, q, i, n, m, hN, _, _, _, _, _, _, _, _, _ => by have := a.size_ps; omega
  | N + 1, a, t, S, h, p, q, i, n, m, hN, ha, ht, hB, hn, bo, hSi, ra, rt, rm => by
    have hcase := Zzd (m := m) ha ht
    obtain ⟨ia, aa, ca, ea, qa, rfl, sia, hia, rowa, hSa, hqal, hqa⟩ := ra.parts
    obtain ⟨it, at', ct, et, qt, rfl, sit, hit, rowt, hSt, hqtl, hqt⟩ := id rt.parts
    have hps2 : a.ps.length ≤ 2 := by cases a <;> simp [Ty.ps]
    apply Zdu.call
    simp only [Zax, Zak hia, Nat.zero_add, List.getElem?_cons_succ, List.getElem?_cons_zero, Zah, Zag]
    refine (Zxb [a.hd]).mono ?_
    rintro v h1 ⟨rfl, rfl⟩
    simp only [Zai, Ycx]
    refine Zen (fun hv => ?_) (fun hv => ?_)
    · rw [hv] at hcase
      simp only [if_true] at hcase
      refine (Yia _ (Nat.le_refl _) hB rt).mono ?_
      rintro v h2 ⟨rfl, s2⟩
      have hia2 := s2.get hia (Own.lt hia)
      obtain ⟨es, clk, hm, hk, hvv, hb, hlt⟩ := id rm
      have hm2 := s2.get hm (Own.lt hm)
      have rm2 : Yhr h2 i m := rm.eq (s2.eq i (Own.lt hm))
      simp only [Zag, Zak hia2, List.getElem?_cons_succ, List.getElem?_cons_zero, Zgh, hm2, Zus]
      have K2 : Zga i h1 h2 := ⟨s2.le, fun j hj _ => s2.eq j hj⟩
      have hput : ∀ r : Option Bd, (∀ (es' : List ME) (k' : Nat), Yij es clk [a.hd] (.str t.txt) (fun x y => x = es' ∧ y = k') → Yod h1 i r (.bool true) (h2.set i (.map es' k'))) → Zdu.J6 (Yod h1 i r) (some i) (some (ia, 0)) t.txt h2 := by
        intro r hr
        apply Zdu.J6i
        simp only [Zax, Zak hia2, Nat.zero_add, List.getElem?_cons_zero, Zag, xMp, Zgh, hm2, Zaz]
        unfold Yij at hr ⊢
        cases hg : Zge m a.hd with
        | none =>
          rw [Zol hk hg] at hr ⊢
          exact hr _ _ ⟨rfl, rfl⟩
        | some u =>
          obtain ⟨j, b, hf, _⟩ := Zof (k := 0) hk hvv hg
          rw [hf] at hr ⊢
          exact hr _ _ ⟨rfl, rfl⟩
      have KS : ∀ x, Zga i h1 (h2.set i x) := fun x => K2.trans (Zga.set i h2 x)
      have hil := Own.lt hm2
      cases hg : Zge m a.hd with
      | none =>
        have hbn : Znb m a.hd t = some (m ++ [(a.hd, t)]) := by unfold Znb; rw [hg]
        rw [hbn] at hcase
        rw [hcase, Zol hk hg]
        simp only [Option.getD_none, Zag, Option.isSome_none, Zay]
        refine hput _ fun es' k' hp => ⟨KS _, rfl, ?_⟩
        unfold Yij at hp
        rw [Zol hk hg] at hp
        obtain ⟨rfl, rfl⟩ := hp
        refine ⟨_, _, List.getElem?_set_self hil, by simp [hk], by simp [hvv], ?_, ?_⟩
        · rw [List.map_append, List.nodup_append]
          refine ⟨hb, by simp, ?_⟩
          intro x hx y hy e
          simp at hy
          obtain ⟨z, hz, rfl⟩ := List.mem_map.1 hx
          have := hlt z hz; omega
        · intro e he
          rcases List.mem_append.1 he with he | he
          · have := hlt e he; omega
          · simp at he; subst he; simp
      | some u =>
        obtain ⟨j, b, hf, hj⟩ := Zof (k := 0) hk hvv hg
        rw [hf]
        simp only [Option.getD_some, Zag, Option.isSome_some, Zbj]
        have hu : u.ok = true ∨ True := .inr trivial
        by_cases he : u = t
        · subst he
          have hbn : Znb m a.hd u = some m := by unfold Znb; rw [hg]; simp
          rw [hbn] at hcase
          rw [hcase]
          simp only [decide_true, Bool.not_true, Zay]
          refine hput _ fun es' k' hp => ⟨KS _, rfl, ?_⟩
          unfold Yij at hp
          rw [hf] at hp
          obtain ⟨rfl, rfl⟩ := hp
          rw [Nat.zero_add, Zuj hj rfl]
          exact ⟨es, clk, List.getElem?_set_self hil, hk, hvv, hb, hlt⟩
        · have hu := (bo.var _ (Zok hg)).2.1
          have hne : ¬ u.txt = t.txt := fun e => he (Ty.txt_inj' hu ht e)
          have hbn : Znb m a.hd t = none := by unfold Znb; rw [hg]; simp [he]
          rw [hbn] at hcase
          rw [hcase]
          simp only [hne, decide_false, Bool.not_false, Zbj]
          exact ⟨K2, rfl⟩
    · rw [hv] at hcase
      simp only [Bool.false_eq_true, if_false] at hcase
      simp only [Zax, Zak hia, Zak hit, Nat.zero_add, List.getElem?_cons_succ, List.getElem?_cons_zero, Zah, Zag, true_and]
      refine Zhy (fun hne => ?_) (fun he => ?_)
      · rw [if_neg (fun e => hne (by rw [e]))] at hcase
        rw [hcase]
        exact ⟨Zga.refl _ _, rfl⟩
      · have he' : a.hd = t.hd := by simpa using he
        rw [if_pos he'] at hcase
        rw [hcase]
        have hlen := Ybz ha ht he'
        refine Zdu.L11ind _ _ _ _ _ _ _ _ (J := fun (g : Nat) x54 h' => x54 = (g : Int) ∧ g ≤ a.ps.length ∧ Zga i h1 h' ∧ ∃ m1, matchL m (a.ps.take g) (t.ps.take g) = some m1 ∧ Yhr h' i m1) (fun g => a.ps.length - g) ?_ 0 _ _ ⟨rfl, by omega, Zga.refl _ _, m, by simp [matchL], rm⟩
        rintro g x54 h' ⟨rfl, hg, hK, m1, hm1, rm1⟩ R hR
        unfold Zdu.L11t
        refine Zap (fun hlt => ?_) (fun hge => ?_)
        · have hga : g < a.ps.length := by omega
          have hgt : g < t.ps.length := by omega
          have hit1 : h'[it]? = some (.cells Zdv [.str [t.hd], .slice at' t.ps.length ct et, .ptr none] false) := by rw [hK.eq _ (Own.lt hit) (hSi _ sit)]; exact hit
          obtain ⟨ja, oa, rfl, _, hca⟩ := (rowa.keepAt (i := i) (fun j o h0 e => hSi j (hSa j o h0 e)) hK).at hga
          obtain ⟨jt, ot, rfl, _, hct⟩ := (rowt.keepAt (i := i) (fun j o h0 e => hSi j (hSt j o h0 e)) hK).at hgt
          have hqag : g < qa.length := by omega
          have hqtg : g < qt.length := by omega
          rw [List.getElem?_map, List.getElem?_eq_getElem hqag] at hca
          rw [List.getElem?_map, List.getElem?_eq_getElem hqtg] at hct
          simp only [Zax, Int.toNat_natCast, Nat.mul_one, hca, hct, Option.map_some, Zgp, Zak hit1, Nat.zero_add, List.getElem?_cons_succ, List.getElem?_cons_zero, Zah]
          have hma := List.getElem_mem hga
          have hmt := List.getElem_mem hgt
          have h1 := Ty.size_part hma
          have h2 := Ty.len_part hmt
          have bo1 : BOk n m1 := BOk.matchL (fun x hx => Ty.ok_ps ha x (List.mem_of_mem_take hx)) (fun x hx => ⟨Ty.ok_ps ht x (List.mem_of_mem_take hx), by have := Ty.len_part (List.mem_of_mem_take hx); omega⟩) bo hm1
          have htk := Zpg a.ps t.ps m g hga hgt
          rw [hm1] at htk
          simp only at htk
          refine ⟨by omega, by omega, (Ycq N (by omega) (Ty.ok_ps ha _ hma) (Ty.ok_ps ht _ hmt) (by omega) (by omega) bo1 hSi ((hqa g _ _ (List.getElem?_eq_getElem hqag) (List.getElem?_eq_getElem hga)).keep fun j hj hl => hK.eq j hl (hSi j hj)) ((hqt g _ _ (List.getElem?_eq_getElem hqtg) (List.getElem?_eq_getElem hgt)).keep fun j hj hl => hK.eq j hl (hSi j hj)) rm1).mono ?_⟩
          rintro v h3 ⟨K3, hres⟩
          cases hmm : matchT m1 a.ps[g] t.ps[g] with
          | none =>
            rw [hmm] at hres htk
            subst hres
            simp only [Zai, Bool.not_false, Zbj]
            rw [Zpo a.ps t.ps m (g + 1) hlen htk]
            exact ⟨hK.trans K3, rfl⟩
          | some m2 =>
            rw [hmm] at hres htk
            obtain ⟨rfl, rm2⟩ := hres
            simp only [Zai, Bool.not_true, Zay]
            rw [Zbs (by omega)]
            exact hR (g + 1) _ _ (by omega) ⟨rfl, by omega, hK.trans K3, m2, htk, rm2⟩
        · apply Zdu.A11x0i
          have : g = a.ps.length := by omega
          subst this
          rw [List.take_length, hlen, List.take_length] at hm1
          rw [hm1]
          exact ⟨hK, rfl, rm1⟩
end Go.Sim

set_option linter.unusedVariables false
set_option linter.unusedSimpArgs false
set_option maxRecDepth 20000
namespace Go.Sim
open Go Go.RowKit

theorem Ztn : pg.underlying Zju = some (.slice Zbb) := by kernel_rfl
theorem Zyv : pg.cellsOf Zbb = 2 := by kernel_rfl
theorem Zxg : pg.okElem Zbb = true := by kernel_rfl
theorem Zxk : pg.bytesOf Zbb ≤ 127 := Nat.le_of_ble_eq_true (by kernel_rfl)
theorem Vec.fresh {α : Type} {ty : TypeId} {enc : α → List Zan} {b : Nat} {h : Zaa} {a : Pt} {n c : Nat} {l : List α} (v : Vec ty h a n c (Zfa enc l)) (hn : n = l.length) (ha : ∀ i, a = some (i, 0) → b ≤ i) : Zej ty enc b h a n l := by
  refine ⟨hn.symm, ?_⟩
  rcases v with ⟨rfl, h0, _⟩ | ⟨i, rfl, hi⟩
  · exact .inl h0
  · exact .inr ⟨i, rfl, ha i rfl, hi⟩
theorem Yfx (m : Bd) : (bdL m).length ≤ 6 := by
  rw [Ybl, List.length_map]; exact Nat.le_trans (List.length_filter_le _ _) (by decide)
theorem Zzt {h : Zaa} {i : Nat} {m : Bd} (rm : Yhr h i m) (bo : BOk 60 m) :
    Zad pg Zkk [.map (some i)] h fun v h' => Zbe h.length h h' ∧ ∃ a n c e, v = .slice a n c e ∧ n ≤ c ∧ Zej Zbb eP h.length h' a n (bdL m) := by
  have hml : m.length ≤ 6 := by
    have hp : (m.map (·.1)).Perm (Zee.filter fun v => decide (v ∈ m.map (·.1))) := by
      rw [List.perm_ext_iff_of_nodup bo.nd (Zpp.filter _)]
      intro v
      rw [List.mem_filter]
      constructor
      · intro hv
        obtain ⟨p, hp, rfl⟩ := List.mem_map.1 hv
        exact ⟨(Zns _).2 (bo.var p hp).1, by simpa using hv⟩
      · exact fun h => by simpa using h.2
    have h1 := hp.length_eq
    have h2 := List.length_filter_le (fun v => decide (v ∈ m.map (·.1))) Zee
    rw [List.length_map] at h1
    have h3 : Zee.length = 6 := rfl
    omega
  apply Zgi.call
  simp only [Zaz]
  generalize hh0 : h ++ [Zcj.cells Zbb [] false] = h0
  have s0 : Zbe h.length h h0 := by rw [← hh0]; exact Zas
  have l0 : h0.length = h.length + 1 := by rw [← hh0]; simp
  have o0 : h0[h.length]? = some (.cells Zbb [] false) := by rw [← hh0]; simp
  refine Ykk.mono ?_
  rintro v h2 ⟨rfl, hh2⟩
  simp only [Zyl]
  have s2 : Zbe h0.length h0 h2 := by rw [hh2]; exact Zas
  have hc2 : h2[h0.length]? = some (.cells Zfm [.map (some i)] false) := by rw [hh2]; simp
  obtain ⟨es, clk, hm, hk, hvv, hb, hlt⟩ := id rm
  have S2 := s0.cat s2
  have hm2 := S2.get hm (Own.lt hm)
  have hel : es.length = m.length := by have := congrArg List.length hk; simpa using this
  refine (Zuw hc2 hm2 (vs := m.map (·.1)) (by rw [hk, List.map_map]; rfl) bo.nd hb hlt (by omega)).mono ?_
  rintro v h3 ⟨us, hp, hsrt, hcase⟩
  have hus := Zzv bo hp hsrt
  have hbd : bdL m = us.map fun v => ([v], ((Zge m v).getD default).txt) := by rw [Ybl, hus]
  have hul : us.length ≤ 6 := by rw [hp.length_eq]; simpa using hml
  have hmem : ∀ v ∈ us, ∃ t, Zge m v = some t := fun v hv => by
    rw [hus, List.mem_filter] at hv; exact Option.isSome_iff_exists.1 hv.2
  have hgen : ∃ a c e, v = .slice a us.length c e ∧ Row h3.length h3 a us.length (us.map fun v => Zan.str [v]) ∧ Zbe h2.length h2 h3 := by
    rcases hcase with ⟨rfl, rfl, rfl⟩ | ⟨c, rfl, hc, rfl⟩
    · exact ⟨_, _, _, rfl, Row.nil, Zbe.refl _ _⟩
    · refine ⟨_, _, _, rfl, ⟨by simp, .inr ⟨h2.length, 0, Zcz, _, false, rfl, by simp, by simp; rfl, by simp, by rw [List.drop_zero, List.take_of_length_le (by simp)]⟩⟩, Zas⟩
  obtain ⟨a9, c9, e9, rfl, hrow, s3⟩ := hgen
  simp only [Zah]
  have S3 := S2.cat s3
  have hS3le := S3.le
  have o3 : h3[h.length]? = some (.cells Zbb [] false) := s3.get (s2.get o0 (Own.lt o0)) (by have := Own.lt o0; have := s2.le; omega)
  refine Zgi.L3ind _ _ _ _ _ _ _ (J := fun (g : Nat) a3 n3 c3 e3 x11 h' => x11 = (g : Int) ∧ g ≤ us.length ∧ Zbe h.length h h' ∧ (∀ j, j < h3.length → j ≠ h.length → h'[j]? = h3[j]?) ∧ h3.length ≤ h'.length ∧ n3 = g ∧ n3 ≤ c3 ∧ Vec Zbb h' a3 n3 c3 (Zfa eP ((bdL m).take g)) ∧ (∀ i, a3 = some (i, 0) → i = h.length ∨ h3.length ≤ i)) (fun g => us.length - g) ?_ 0 _ _ _ _ _ _
    ⟨rfl, by omega, S3, fun _ _ _ => rfl, Nat.le_refl _, rfl, Nat.le_refl _, Vec.mk1 (by simpa using o3), fun i hi => by cases hi; exact .inl rfl⟩
  rintro g a3 n3 c3 e3 x11 h' ⟨rfl, hg, hSm, hK, hle3, rfl, hnc, hv, ha⟩ R hR
  unfold Zgi.L3t
  have hbl : (bdL m).length = us.length := by rw [hbd]; simp
  refine Zap (fun hlt => ?_) (fun hge => ?_)
  · have hg' : n3 < us.length := by omega
    obtain ⟨j, o, rfl, hj, hc⟩ := hrow.at hg'
    rw [List.getElem?_map, List.getElem?_eq_getElem hg', Option.map_some] at hc
    -- the row of keys has not turned: it lies apart from the row of bindings
    have hjr : j ≠ h.length := by
      rcases hcase with ⟨h0, _⟩ | ⟨c, hsl, _, _⟩
      · rw [h0] at hg'; simp at hg'
      · simp only [Zan.slice.injEq, Option.some.injEq, Prod.mk.injEq] at hsl
        have := s2.le; omega
    have hc' : Zae h' (.ptr (some (j, o + n3))) = some (.str [us[n3]]) := by
      rw [← hc]; simp only [Zae, hK j hj hjr]
    obtain ⟨t, ht⟩ := hmem _ (List.getElem_mem hg')
    have hm' := hSm.get hm (Own.lt hm)
    obtain ⟨jj, bb, hf, _⟩ := Zof (k := 0) hk hvv ht
    simp only [Zax, Int.toNat_natCast, Nat.mul_one, hc', Zag, Zgh, hm', Zus, hf, Option.getD_some, Zaz]
    have htk : (bdL m).take (n3 + 1) = (bdL m).take n3 ++ [([us[n3]], t.txt)] := by
      rw [List.take_succ_eq_append_getElem (by omega)]
      congr 2
      have : (bdL m)[n3]? = some ([us[n3]], t.txt) := by
        rw [hbd, List.getElem?_map, List.getElem?_eq_getElem hg', Option.map_some, ht, Option.getD_some]
      exact (List.getElem?_eq_some_iff.1 this).2
    refine ⟨by omega, ?_⟩
    refine hv.pushN Ztn Zyv Zxg Zxk (by rw [Zbk Zek, List.length_take]; omega) rfl (by omega) rfl (by omega) (fun h6 hl6 hi6 hk6 => ?_)
    simp only [Zah]
    rw [Zbs (by omega)]
    have hle := hSm.le
    have hb9 : ∀ i, a3 = some (i, 0) → h.length ≤ i := fun i hi => by rcases ha i hi with hh | hh <;> omega
    refine hR (n3 + 1) _ _ _ _ _ _ (by omega) ⟨rfl, by omega, ⟨by omega, fun j hj => ?_⟩, fun j hj hne => ?_, by omega, rfl, Nat.le_refl _, Vec.mk1 ?_, fun i hi => by cases hi; right; omega⟩
    · rw [hk6 j (by omega) fun i hi => by have := hb9 i hi; omega]; exact hSm.eq j hj
    · rw [hk6 j (by omega) fun i hi => by rcases ha i hi with hh | hh <;> omega]; exact hK j hj hne
    · rw [hi6, htk, Zks]; rfl
  · apply Zgi.A3x0i
    have : n3 = us.length := by omega
    subst this
    rw [show (bdL m).take us.length = bdL m from List.take_of_length_le (by omega)] at hv
    exact ⟨hSm, _, _, _, _, rfl, hnc, hv.fresh (b := h.length) hbl.symm fun i hi => by rcases ha i hi with hh | hh <;> omega⟩
def Ycc (p s : List Nat) (h : Zaa) (v : Zan) (h' : Zaa) : Prop := Zbe h.length h h' ∧ ∃ a n c e, v = .tup [.slice a n c e, .bool (Zoe p s)] ∧ n ≤ c ∧ Zej Zbb eP h.length h' a n (Zik p s)
theorem Zrq (p s : List Nat) (h : Zaa) : Zad pg Zhr [.str p, .str s] h (Ycc p s h) := by
  apply Zka.call
  refine (Ztm p h).mono ?_
  rintro v h1 ⟨s1, q1, rfl, r1⟩
  simp only [Zgp]
  refine (Ztm s h1).mono ?_
  rintro v h2 ⟨s2, q2, rfl, r2⟩
  simp only [Zgp, Zaz]
  have S2 := s1.cat s2
  have s3 : Zbe h2.length h2 (h2 ++ [.map [] 0]) := Zas
  have S3 := S2.cat s3
  have no : Zio p s = none → Ycc p s h (.tup [.slice none 0 0 true, .bool false]) (h2 ++ [.map [] 0]) := fun hn =>
    ⟨S3, none, 0, 0, true, by unfold Zoe; rw [hn]; rfl, Nat.le_refl _, by unfold Zik; rw [hn]; exact ⟨rfl, .inl rfl⟩⟩
  cases hp : Zhz p with
  | none =>
    rw [hp] at r1; simp only at r1; subst r1
    simp only [Option.isNone_none, Zbj]
    exact no (by unfold Zio; rw [hp])
  | some a =>
    rw [hp] at r1; simp only at r1
    obtain ⟨i1, rfl, b1, l1⟩ := r1.lt
    simp only [Option.isNone_some, Zay]
    cases ht : Zhz s with
    | none =>
      rw [ht] at r2; simp only at r2; subst r2
      simp only [Option.isNone_none, Zbj]
      exact no (by unfold Zio; rw [hp, ht])
    | some t =>
      rw [ht] at r2; simp only at r2
      obtain ⟨i2, rfl, b2, l2⟩ := r2.lt
      simp only [Option.isNone_some, Zay]
      obtain ⟨ha1, ha2, ha3⟩ := Zeq.1 hp
      obtain ⟨ht1, ht2, ht3⟩ := Zeq.1 ht
      have hms : Zio p s = matchT [] a t := by unfold Zio; rw [hp, ht]
      have hl1 := s1.le; have hl2 := s2.le
      have R1 := ((r1.same s2).same s3).mono (S' := fun j => j ≠ h2.length) (fun j hj => by have := hj.2; omega)
      have R2 := (r2.same s3).mono (S' := fun j => j ≠ h2.length) (fun j hj => by have := hj.2; omega)
      have rm : Yhr (h2 ++ [.map [] 0]) h2.length [] := ⟨[], 0, by simp, rfl, rfl, by simp, by simp⟩
      refine (Ycq _ (Nat.le_refl _) ha1 ht1 (by rw [← ht2]; omega) (n := 60) (by rw [← ht2]; exact ht3) BOk.nil (fun j hj => hj) R1 R2 rm).mono ?_
      rintro v h4 ⟨K4, hres⟩
      have S4 : Zbe h.length h h4 := ⟨by have := K4.le; have := S3.le; omega, fun j hj => by rw [K4.eq j (by have := S3.le; omega) (by have := S2.le; omega)]; exact S3.eq j hj⟩
      cases hm : matchT [] a t with
      | none =>
        rw [hm] at hres hms
        subst hres
        simp only [Zai, Bool.not_false, Zbj]
        exact ⟨S4, none, 0, 0, true, by unfold Zoe; rw [hms]; rfl, Nat.le_refl _, by unfold Zik; rw [hms]; exact ⟨rfl, .inl rfl⟩⟩
      | some m =>
        rw [hm] at hres hms
        obtain ⟨rfl, rm4⟩ := hres
        simp only [Zai, Bool.not_true, Zay]
        apply Zka.J4i
        refine (Zzt rm4 (Zum hms)).mono ?_
        rintro v h5 ⟨s5, a5, n5, c5, e5, rfl, hc5, f5⟩
        simp only [Zah]
        refine ⟨S4.cat s5, a5, n5, c5, e5, by unfold Zoe; rw [hms]; rfl, hc5, ?_⟩
        unfold Zik; rw [hms]
        exact ⟨f5.1, f5.2.imp id fun ⟨i, ha, hb, hi⟩ => ⟨i, ha, by have := S4.le; omega, hi⟩⟩
theorem Zwr (p s : List Nat) (h : Zaa) : Zad pg Zja [.str p, .str s] h fun v h' => v = .bool (Zoe p s) ∧ Zbe h.length h h' := by
  apply Zmi.call
  refine (Zrq p s h).mono ?_
  rintro v h1 ⟨s1, a, n, c, e, rfl, _⟩
  simp only [Zct, Zaf, Zah, Zai, Zaq]
  exact ⟨by trivial, s1⟩
end Go.Sim
