/- A part of the proof of a statement of this seat: see the text that holds the theorem. No condition. -/
import Derived.Test.YtlljbdepamknoaaGreatDoorPTCSApply
import Derived.Test.YtlljbdepamknoaaGreatDoorCWob
import Derived.Test.YtlljbdepamknoaaGreatDoorPLevel
import Derived.Test.YtlljbdepamknoaaGreatDoorCGrow2
set_option linter.unusedVariables false
set_option linter.unusedSimpArgs false
set_option linter.all false
set_option linter.unusedVariables false
set_option linter.unusedSimpArgs false
set_option maxRecDepth 20000
namespace Go.Sim
open Go Go.RowKit

def woW (w : Wd) (k : Nat) : Wd := ⟨w.cs, w.is.eraseIdx k⟩
theorem Zxi {h : Zaa} {xs : List EI} {is : List Ins} (r : Ycj h xs is) (k : Nat) : Ycj h (xs.eraseIdx k) (is.eraseIdx k) := by
 refine ⟨by rw [List.length_eraseIdx, List.length_eraseIdx, r.1], fun j x i hx hi => ?_⟩
 rw [List.getElem?_eraseIdx] at hx hi
 split at hx
 ·rename_i hj; rw [if_pos hj] at hi; exact r.2 _ _ _ hx hi
 ·rename_i hj; rw [if_neg hj] at hi; exact r.2 _ _ _ hx hi
theorem Yiq {h : Zaa} {a0 a1 : Pt} {n0 c0 n1 c1 k : Nat} {e0 e1 : Bool} {w : Wd} (r : Zmm h a0 n0 c0 a1 n1 c1 w) (nn : NNs h a1 n1 w) (b : WB w) (h0 : n0 ≠ 0) (hk : k < n1) :
  Zae pg Znq [.agg [.slice a0 n0 c0 e0, .slice a1 n1 c1 e1], .int .i64 (k : Int)] h fun v h' => ∃ b0 d0 f0 b1 d1 f1, v = .agg [.slice b0 n0 d0 f0, .slice b1 (n1 - 1) d1 f1] ∧ Zbb h.length h h' ∧ Zmm h' b0 n0 d0 b1 (n1 - 1) d1 (woW w k) := by
 have hl0 := r.len0
 have hl1 := r.len1
 have hli := b.li
 apply Zrp.call
 simp only [Zaz]
 generalize hh0 : h ++ [Zco.cells Zaf [.slice a0 n0 c0 e0, .slice a1 n1 c1 e1] false] = g0
 generalize hh1 : g0 ++ [Zco.cells Zaf [.slice none 0 0 true, .slice none 0 0 true] false] = g1
 have s0 : Zbb h.length h g0 := by rw [← hh0]; exact Zas
 have s1 : Zbb g0.length g0 g1 := by rw [← hh1]; exact Zas
 have l0 : g0.length = h.length + 1 := by rw [← hh0]; simp
 have l1 : g1.length = h.length + 2 := by rw [← hh1]; simp [l0]
 have w0 : g0[h.length]? = some (Znv a0 n0 c0 e0 a1 n1 c1 e1) := by rw [← hh0]; simp [Znv]
 have w1 := s1.get w0 (Own.lt w0)
 have z1 : g1[g0.length]? = some (.cells Zaf [.slice none 0 0 true, .slice none 0 0 true] false) := by rw [← hh1]; simp
 have S1 := s0.cat s1
 rw [Zxv w1]
 simp only [Zar, Zah, Zat, Zag]
 refine (Ymf (r.same S1) (nn.same S1) b h0 (by omega)).mono ?_
 rintro v g2 ⟨q0, d0, f0, q1, f1, ys, rfl, hd0, s2, hq0, hq1, hqq, o2, i2, hyl, hrep⟩
 have l2 := s2.le
 have z2 := s2.get z1 (Own.lt z1)
 have hq0l := Own.lt o2
 have hq1l := Own.lt i2
 simp only [Zdp, Zah, Zat, Zag]
 rw [Zgv]
 simp only [Zaw]
 generalize hh3 : g2 ++ [Zco.cells Zaf [.slice (some (q0, 0)) n0 d0 f0, .slice (some (q1, 0)) n1 n1 f1] false] = g3
 have s3 : Zbb g2.length g2 g3 := by rw [← hh3]; exact Zas
 have l3 : g3.length = g2.length + 1 := by rw [← hh3]; simp
 have u3 : g3[g2.length]? = some (.cells Zaf [.slice (some (q0, 0)) n0 d0 f0, .slice (some (q1, 0)) n1 n1 f1] false) := by rw [← hh3]; simp
 have z3' := s3.get z2 (Own.lt z2)
 have o3 := s3.get o2 hq0l
 have i3 := s3.get i2 hq1l
 simp only [Zaq u3, Nat.zero_add, List.getElem?_cons_zero, List.getElem?_cons_succ, Zag]
 rw [Zbj (by omega)]
 refine (Yit (k := k) i3 hyl hk (by omega)).mono ?_
 rintro v g4 ⟨f', rfl, rfl⟩
 simp only [Zag]
 have u4 : (g3.set q1 (.cells Zac (Zcf eN (ys.eraseIdx k) ++ z3) false))[g2.length]? = some (.cells Zaf [.slice (some (q0, 0)) n0 d0 f0, .slice (some (q1, 0)) n1 n1 f1] false) := by rw [Zcj (by omega)]; exact u3
 have z4 : (g3.set q1 (.cells Zac (Zcf eN (ys.eraseIdx k) ++ z3) false))[g0.length]? = some (.cells Zaf [.slice none 0 0 true, .slice none 0 0 true] false) := by rw [Zcj (by omega)]; exact z3'
 generalize hh4 : g3.set q1 (.cells Zac (Zcf eN (ys.eraseIdx k) ++ z3) false) = g4 at u4 z4
 have l4 : g4.length = g3.length := by rw [← hh4]; simp
 have i4 : g4[q1]? = some (.cells Zac (Zcf eN (ys.eraseIdx k) ++ z3) false) := by rw [← hh4]; exact Zcq i3
 have k4 : ∀ j, j ≠ q1 → g4[j]? = g3[j]? := fun j hj => by rw [← hh4, Zcj (fun e => hj e.symm)]
 rw [Zbr u4 (by simp)]
 simp only [Zaw, putRow, List.take_succ_cons, List.take_zero, List.length_cons, List.length_nil, List.drop_succ_cons, List.drop_zero, List.drop_nil, List.cons_append, List.nil_append, List.append_nil, Nat.zero_add]
 rw [Zby (Zcq u4)]
 simp only [Zar, Zah, Zat, Zag]
 have z5 : (g4.set g2.length (Zco.cells Zaf [.slice (some (q0, 0)) n0 d0 f0, .slice (some (q1, 0)) (n1 - 1) n1 f'] false))[g0.length]? = some (.cells Zaf [.slice none 0 0 true, .slice none 0 0 true] false) := by rw [Zcj (by omega)]; exact z4
 rw [Zbr z5 (by simp)]
 simp only [Zaw, putRow, List.take_zero, List.length_cons, List.length_nil, List.drop_succ_cons, List.drop_zero, List.drop_nil, List.cons_append, List.nil_append, List.append_nil, Nat.zero_add]
 rw [Zby (Zcq z5)]
 simp only [Zar, Zah, Zat, Zag]
 generalize hh6 : (g4.set g2.length (Zco.cells Zaf [.slice (some (q0, 0)) n0 d0 f0, .slice (some (q1, 0)) (n1 - 1) n1 f'] false)).set g0.length (Zco.cells Zaf [.slice (some (q0, 0)) n0 d0 f0, .slice (some (q1, 0)) (n1 - 1) n1 f'] false) = g6
 have l6 : g6.length = g4.length := by rw [← hh6]; simp
 have k6 : ∀ j, j ≠ g2.length → j ≠ g0.length → g6[j]? = g4[j]? := fun j h1 h2 => by rw [← hh6, Zcj (fun e => h2 e.symm), Zcj (fun e => h1 e.symm)]
 have i6 : g6[q1]? = some (.cells Zac (Zcf eN (ys.eraseIdx k) ++ z3) false) := by rw [k6 q1 (by omega) (by omega)]; exact i4
 have o6 : g6[q0]? = some (.cells Zbc (Zcf eP w.cs) false) := by rw [k6 q0 (by omega) (by omega), k4 q0 hqq]; exact o3
 have old : ∀ j, j < g2.length → j ≠ q1 → j ≠ g0.length → g6[j]? = g2[j]? := fun j h1 h2 h3 => by rw [k6 j (by omega) h3, k4 j h2, s3.eq j h1]
 refine ⟨some (q0, 0), d0, f0, some (q1, 0), n1, f', rfl, ⟨by omega, fun j hj => ?_⟩, ?_⟩
 ·rw [old j (by omega) (by omega) (by omega), s2.eq j (by omega)]; exact S1.eq j hj
 ·have hfe : (Zcf eN (ys.eraseIdx k)).length = (n1 - 1) * 3 := by rw [Zay Ziy, List.length_eraseIdx, if_pos (by omega), hyl]
  have hfc : (Zcf eP w.cs).length = n0 * 2 := by rw [Zay Zek, hl0]
  refine ⟨⟨hfc, .inr ⟨q0, 0, _, _, _, rfl, by omega, o6, by omega, ?_⟩⟩, ⟨ys.eraseIdx k, ⟨hfe, .inr ⟨q1, 0, _, _, _, rfl, by omega, i6, ?_, ?_⟩⟩, Zxi ⟨by omega, fun j x i hx hi => ?_⟩ k⟩, hd0, by omega⟩
  ·rw [List.drop_zero, List.take_of_length_le (by omega)]; rfl
  ·rw [List.length_append, hfe]; omega
  ·rw [List.drop_zero, ← hfe, List.take_left']; rfl
  ·obtain ⟨p1, p2, p3⟩ := hrep j x i hx hi
   refine ⟨p1, p2, ?_⟩
   have : Zcv Zaj eP g1.length g6 x.a x.n i.2 := ⟨p3.1, p3.2.imp id fun ⟨m, ha, hbm, hc⟩ => ⟨m, ha, hbm, by rw [old m (Own.lt hc) (Ypz hc i2 (by decide)) (by omega)]; exact hc⟩⟩
   exact this.row Zek
theorem Row.part {b : Nat} {h : Zaa} {i o N : Nat} {cs : List Zam} (r : Row b h (some (i, o)) N cs) {lo len : Nat} (hl : lo + len ≤ N) (hp : len ≠ 0) : Row b h (some (i, o + lo)) len ((cs.drop lo).take len) := by
 obtain ⟨h1, h2⟩ := r
 rcases h2 with h2 | ⟨i', o', t, all, ro, ha, hb, hg, hle, hcs⟩
 ·omega
 ·cases ha
  refine ⟨by rw [List.length_take, List.length_drop]; omega, .inr ⟨i, o + lo, t, all, ro, rfl, hb, hg, by omega, ?_⟩⟩
  rw [hcs, List.drop_take, List.take_take, List.drop_drop, Nat.min_eq_left (by omega)]
theorem Ykv (xs : List EI) (k : Nat) : (Zcf eN xs).take (k * 3) = Zcf eN (xs.take k) := by
 by_cases hk : k ≤ xs.length
 ·conv => lhs; rw [← List.take_append_drop k xs]
  rw [show Zcf eN (xs.take k ++ xs.drop k) = Zcf eN (xs.take k) ++ Zcf eN (xs.drop k) by simp only [Zcf, List.flatMap_append], List.take_left']
  rw [Zay Ziy, List.length_take, Nat.min_eq_left hk]
 ·rw [List.take_of_length_le (by rw [Zay Ziy]; omega), List.take_of_length_le (by omega)]
theorem Yhh (xs : List EI) (k : Nat) : (Zcf eN xs).drop (k * 3) = Zcf eN (xs.drop k) := by
 by_cases hk : k ≤ xs.length
 ·conv => lhs; rw [← List.take_append_drop k xs]
  rw [show Zcf eN (xs.take k ++ xs.drop k) = Zcf eN (xs.take k) ++ Zcf eN (xs.drop k) by simp only [Zcf, List.flatMap_append], List.drop_left']
  rw [Zay Ziy, List.length_take, Nat.min_eq_left hk]
 ·rw [List.drop_of_length_le (by rw [Zay Ziy]; omega), List.drop_of_length_le (by omega)]; rfl
theorem Yia {h : Zaa} {a : Pt} {i : Nat} {x : Zco} (ha : ∀ i o, a = some (i, o) → ∃ t all ro, h[i]? = some (.cells t all ro) ∧ o ≤ all.length) : rowOf h a 0 = some [] := by
 match a with
 | none => rfl
 | some (i, o) =>
  obtain ⟨t, all, ro, hi, hle⟩ := ha i o rfl
  simp [rowOf, Zbv, hi, hle]
theorem Ycx {h : Zaa} {a0 a1 : Pt} {n0 c0 n1 c1 k : Nat} {e0 e1 : Bool} {w : Wd} (r : Zmm h a0 n0 c0 a1 n1 c1 w) (b : WB w) (hk : k < n1) :
  Zae pg Zlm [.agg [.slice a0 n0 c0 e0, .slice a1 n1 c1 e1], .int .i64 (k : Int)] h fun v h' => ∃ b0 d0 f0 b1 d1 f1, v = .agg [.slice b0 n0 d0 f0, .slice b1 (n1 - 1) d1 f1] ∧ Zbb h.length h h' ∧ Zmm h' b0 n0 d0 b1 (n1 - 1) d1 (woW w k) := by
 have hl0 := r.len0
 have hl1 := r.len1
 have hli := b.li
 have hle1 := r.le1
 obtain ⟨xs, rx, rx2⟩ := r.ins
 have hxl : xs.length = n1 := by rw [rx2.1]; exact hl1
 obtain ⟨i, o, ha1⟩ : ∃ i o, a1 = some (i, o) := by
  rcases rx.2 with h1 | ⟨i, o, t, all, ro, ha, _⟩
  ·omega
  ·exact ⟨i, o, ha⟩
 subst ha1
 apply Zpv.call
 simp only [Zaz]
 generalize hh0 : h ++ [Zco.cells Zaf [.slice a0 n0 c0 e0, .slice (some (i, o)) n1 c1 e1] false] = g0
 generalize hh1 : g0 ++ [Zco.cells Zaf [.slice none 0 0 true, .slice none 0 0 true] false] = g1
 have s0 : Zbb h.length h g0 := by rw [← hh0]; exact Zas
 have s1 : Zbb g0.length g0 g1 := by rw [← hh1]; exact Zas
 have l0 : g0.length = h.length + 1 := by rw [← hh0]; simp
 have l1 : g1.length = h.length + 2 := by rw [← hh1]; simp [l0]
 have w0 : g0[h.length]? = some (Znv a0 n0 c0 e0 (some (i, o)) n1 c1 e1) := by rw [← hh0]; simp [Znv]
 have w1 := s1.get w0 (Own.lt w0)
 have z1 : g1[g0.length]? = some (.cells Zaf [.slice none 0 0 true, .slice none 0 0 true] false) := by rw [← hh1]; simp
 have S1 := s0.cat s1
 simp only [Zjq w1, Nat.zero_add, List.getElem?_cons_zero, List.getElem?_cons_succ, Zag, Zgq, Zjs]
 refine ⟨by omega, fun _ => ?_, fun h => absurd (by omega) h⟩
 rw [Zbj (by omega)]
 generalize hh2 : g1 ++ [Zco.cells Zac [] false] = g2
 have s2 : Zbb g1.length g1 g2 := by rw [← hh2]; exact Zas
 have l2 : g2.length = h.length + 3 := by rw [← hh2]; simp [l1]
 have e2 : g2[g1.length]? = some (.cells Zac (Zcf eN []) false) := by rw [← hh2]; simp
 have S2 := S1.cat s2
 have w2 := s2.get w1 (Own.lt w1)
 have z2 := s2.get z1 (Own.lt z1)
 have rx2' := rx.same' S2
 have hfx : (Zcf eN xs).length = n1 * 3 := rx.1
 have hio : ∃ t all ro, h[i]? = some (.cells t all ro) ∧ o + n1 * 3 ≤ all.length := by
  rcases rx.2 with h1 | ⟨i', o', t, all, ro, ha, hb, hg, hle, _⟩
  ·omega
  ·cases ha; exact ⟨t, all, ro, hg, hle⟩
 have hil : i < h.length := by obtain ⟨t, all, ro, hg, _⟩ := hio; exact Own.lt hg
 have part : ∀ (g : Zaa), Zbb h.length h g → ∀ lo len : Nat, lo + len ≤ n1 → rowOf g (some (i, o + lo * 3)) (len * 3) = some (Zcf eN ((xs.drop lo).take len)) := by
  intro g sg lo len hl
  by_cases hp : len = 0
  ·subst hp
   rw [Nat.zero_mul, List.take_zero]
   obtain ⟨t, all, ro, hg, hle⟩ := hio
   exact Yia (i := 0) (x := .dead) fun i' o' e => by cases e; exact ⟨t, all, ro, by rw [sg.eq i hil]; exact hg, by omega⟩
  ·have := ((rx.same' sg).part (lo := lo * 3) (len := len * 3) (by omega) (by omega)).rowOf
   rw [this, Yhh, Ykv]
 -- the tail
 have tailK : ∀ (xa : Pt) (m c' : Nat) (e' : Bool), m = n1 - (k + 1) → (∀ g, Zbb h.length h g → rowOf g xa (m * 3) = some (Zcf eN (xs.drop (k + 1)))) →
   (Zak g2 (.ptr (some (h.length, 1))) = some (.slice (some (i, o)) n1 c1 e1)) ∧ (Zak g2 (.ptr (some (h.length, 1))) = some (.slice (some (i, o)) n1 c1 e1)) ∧ (Zak g2 (.ptr (some (h.length, 0))) = some (.slice a0 n0 c0 e0)) ∧ Zdd pg Zdl g2 (.slice (some (g1.length, 0)) 0 0 true) (.slice (some (i, o + (0 : Int).toNat * 3)) ((k : Int) - 0).toNat ((c1 : Int) - 0).toNat (e1 || (none : Option Zam).isSome)) fun v_25 h_26 => xSl (some v_25) fun a_27 n_28 c_29 e_30 => (Zak h_26 (.ptr (some (h.length, 1))) = Zak g2 (.ptr (some (h.length, 1)))) ∧ (Zak h_26 (.ptr (some (h.length, 1))) = Zak g2 (.ptr (some (h.length, 1)))) ∧ (Zak h_26 (.ptr (some (h.length, 0))) = Zak g2 (.ptr (some (h.length, 0)))) ∧ Zdd pg Zdl h_26 (.slice a_27 n_28 c_29 e_30) (.slice xa m c' e') fun v_31 h_32 => xSl (some v_31) fun a_33 n_34 c_35 e_36 => (Zak h_32 (.ptr (some (h.length, 1))) = Zak h_26 (.ptr (some (h.length, 1)))) ∧ (Zak h_32 (.ptr (some (h.length, 1))) = Zak h_26 (.ptr (some (h.length, 1)))) ∧ (Zak h_32 (.ptr (some (h.length, 0))) = Zak h_26 (.ptr (some (h.length, 0)))) ∧ Zcp (Zbk h_32 (.ptr (some (g0.length, 0))) [.slice a0 n0 c0 e0, .slice a_33 n_34 c_35 e_36]) fun h_37 => Zdh (Zbv h_37 (.ptr (some (g0.length, 0))) 2) fun cs_38 => Zap cs_38 fun c_39 r_40 => xSl (some c_39) fun a_41 n_42 c_43 e_44 => Zap r_40 fun c_45 r_46 => xSl (some c_45) fun a_47 n_48 c_49 e_50 => Zcr r_46 (∃ b0 d0 f0 b1 d1 f1, Zam.agg [.slice a_41 n_42 c_43 e_44, .slice a_47 n_48 c_49 e_50] = .agg [.slice b0 n0 d0 f0, .slice b1 (n1 - 1) d1 f1] ∧ Zbb h.length h h_37 ∧ Zmm h_37 b0 n0 d0 b1 (n1 - 1) d1 (woW w k)) := by
  intro xa m c' e' hm hrow
  refine ⟨by rw [Zjq w2]; rfl, by rw [Zjq w2]; rfl, by rw [Zjq w2]; rfl, ?_⟩
  have eZ : o + (0 : Int).toNat * 3 = o + 0 * 3 := rfl
  rw [eZ]
  have hkk : ((k : Int) - 0).toNat = k := by omega
  rw [hkk]
  refine Vec.app0 (n := 0) (m := k) e2 Zsz Ygv Yfk Ygt rfl (part g2 S2 0 k (by omega)) (Zzc _) (by omega) (fun g3 l3 i3 k3 => ?_)
  have w3 : g3[h.length]? = some (Znv a0 n0 c0 e0 (some (i, o)) n1 c1 e1) := by rw [k3 _ (by omega) (by omega)]; exact w2
  have z3x : g3[g0.length]? = some (.cells Zaf [.slice none 0 0 true, .slice none 0 0 true] false) := by rw [k3 _ (by omega) (by omega)]; exact z2
  have S3 : Zbb h.length h g3 := ⟨by omega, fun j hj => by rw [k3 j (by omega) (by omega)]; exact S2.eq j hj⟩
  have i3' : g3[g2.length]? = some (.cells Zac (Zcf eN (xs.take k)) false) := by rw [i3]; simp [Zcf]
  simp only [Zag, Nat.zero_add]
  refine ⟨by rw [Zjq w3, Zjq w2], by rw [Zjq w3, Zjq w2], by rw [Zjq w3, Zjq w2], ?_⟩
  refine Vec.app0 (n := k) (m := m) i3' Zsz Ygv Yfk Ygt (by rw [Zay Ziy, List.length_take, Nat.min_eq_left (by omega)]) (hrow g3 S3) (Zzc _) (by omega) (fun g4 l4 i4 k4 => ?_)
  have w4 : g4[h.length]? = some (Znv a0 n0 c0 e0 (some (i, o)) n1 c1 e1) := by rw [k4 _ (by omega) (by omega)]; exact w3
  have z4 : g4[g0.length]? = some (.cells Zaf [.slice none 0 0 true, .slice none 0 0 true] false) := by rw [k4 _ (by omega) (by omega)]; exact z3x
  have S4 : Zbb h.length h g4 := ⟨by omega, fun j hj => by rw [k4 j (by omega) (by omega)]; exact S3.eq j hj⟩
  simp only [Zag]
  refine ⟨by rw [Zjq w4, Zjq w3], by rw [Zjq w4, Zjq w3], by rw [Zjq w4, Zjq w3], ?_⟩
  rw [Zbr z4 (by simp)]
  simp only [Zaw, putRow, List.take_zero, List.length_cons, List.length_nil, List.drop_succ_cons, List.drop_zero, List.drop_nil, List.cons_append, List.nil_append, List.append_nil, Nat.zero_add]
  rw [Zby (Zcq z4)]
  simp only [Zar, Zah, Zat, Zag]
  generalize hh5 : g4.set g0.length (Zco.cells Zaf [.slice a0 n0 c0 e0, .slice (some (g3.length, 0)) (k + m) (k + m) false] false) = g5
  have l5 : g5.length = g4.length := by rw [← hh5]; simp
  have S5 : Zbb h.length h g5 := by rw [← hh5]; exact S4.set' (by omega)
  have i5 : g5[g3.length]? = some (.cells Zac (Zcf eN (xs.eraseIdx k)) false) := by rw [← hh5, Zcj (by omega), i4, Zyh (by omega)]
  have hkm : k + m = n1 - 1 := by omega
  have hfe : (Zcf eN (xs.eraseIdx k)).length = (n1 - 1) * 3 := by rw [Zay Ziy, List.length_eraseIdx, if_pos (by omega), hxl]
  rw [hkm]
  refine ⟨_, _, _, _, _, _, rfl, S5, ⟨r.cls.same' S5, ⟨xs.eraseIdx k, ⟨hfe, .inr ⟨g3.length, 0, _, _, _, rfl, by omega, i5, by omega, ?_⟩⟩, Zxi (rx2.same S5) k⟩, r.le0, Nat.le_refl _⟩⟩
  rw [List.drop_zero, List.take_of_length_le (by omega)]
 refine ⟨by omega, fun hlt => ?_, fun hge => ?_⟩
 ·refine tailK _ _ _ _ (by omega) fun g sg => ?_
  have := part g sg (k + 1) (n1 - (k + 1)) (by omega)
  rw [show ((n1 : Int) - ((k + 1 : Nat) : Int)).toNat = n1 - (k + 1) by omega, Int.toNat_natCast, this, List.take_of_length_le (by rw [List.length_drop]; omega)]
 ·refine tailK _ _ _ _ (by omega) fun g sg => ?_
  rw [List.drop_of_length_le (by omega)]; rfl
end Go.Sim

set_option linter.unusedVariables false
set_option linter.unusedSimpArgs false
set_option maxRecDepth 20000
namespace Go.Sim
open Go Go.RowKit

noncomputable def Ynd (w : Wd) (k : Nat) : Bool := match w.is[k]? with | some i => decide (i.2.length = 0) && decide (0 ≤ Ylj (wk (woW w k)) i.1) | none => false
noncomputable def Ydj (w : Wd) (g : Nat) : List Int := ((List.range g).filter (Ynd w)).map fun (k : Nat) => (k : Int)
noncomputable def Yea (w : Wd) : List Int := if Zdm w then Ydj w w.is.length else []
theorem Ztd (w : Wd) (g : Nat) : Ydj w (g + 1) = Ydj w g ++ if Ynd w g then [(g : Int)] else [] := by
 unfold Ydj
 rw [List.range_succ, List.filter_append, List.map_append]
 cases h : Ynd w g <;> simp [h]
theorem Zzg (w : Wd) (g : Nat) : (Ydj w g).length ≤ g := by
 unfold Ydj
 rw [List.length_map]
 have := List.length_filter_le (Ynd w) (List.range g)
 rw [List.length_range] at this; exact this
theorem Yow {w : Wd} (b : WB w) : (Yea w).length ≤ 1048576 := by
 unfold Yea
 split
 ·have := Zzg w w.is.length; have := b.li; omega
 ·simp
theorem Ykc {w : Wd} {k : Nat} (h : k < w.is.length) : Ynd w k = (decide (w.is[k].2.length = 0) && decide (0 ≤ Ylj (wk (woW w k)) w.is[k].1)) := by
 unfold Ynd; rw [List.getElem?_eq_getElem h]
theorem Ytb {w : Wd} (b : WB w) (k : Nat) : WB (woW w k) := by
 refine ⟨b.lc, ?_, b.cs, fun i hi => b.is i (List.mem_of_mem_eraseIdx hi)⟩
 have := b.li
 show (w.is.eraseIdx k).length ≤ _
 rw [List.length_eraseIdx]; split <;> omega
theorem Zyl {w : Wd} (h : Zdm w = true) (k : Nat) : Zdm (woW w k) = true := by
 unfold Zdm at h ⊢
 simp only [Bool.and_eq_true, decide_eq_true_eq, List.all_eq_true] at h ⊢
 obtain ⟨⟨h1, h2⟩, h3⟩ := h
 refine ⟨⟨h1, ?_⟩, fun i hi => h3 i (List.mem_of_mem_eraseIdx hi)⟩
 show (w.is.eraseIdx k).length ≤ _
 rw [List.length_eraseIdx]; split <;> omega
theorem Ycf {w : Wd} (h : Zdm w = true) {k : Nat} (hk : k < w.is.length) : Zet (woW w k) w.is[k].1 = true := by
 unfold Zdm at h
 simp only [Bool.and_eq_true, decide_eq_true_eq, List.all_eq_true] at h
 have h1 := h.2 _ (List.getElem_mem hk)
 unfold Zmi at h1
 simp only [Bool.and_eq_true] at h1
 unfold Zet
 simp only [Bool.and_eq_true]
 exact ⟨h1.1.1.1.1.1.2, h1.1.1.1.1.2⟩
theorem Ypy {w : Wd} (h : Zdm w = true) : 1 ≤ w.cs.length := by
 unfold Zdm Zjj at h
 simp only [Bool.and_eq_true, decide_eq_true_eq] at h
 exact h.1.1.2.1
def Ytx (w : Wd) (h : Zaa) (v : Zam) (h' : Zaa) : Prop := Zbb h.length h h' ∧ ∃ a m c e, v = .tup [.slice a m c e, .bool (Zdm w)] ∧ Zcv Zgs eI h.length h' a m (Yea w)
theorem Zrx {h : Zaa} {a0 a1 : Pt} {n0 c0 n1 c1 : Nat} {e0 e1 : Bool} {w : Wd} (r : Zmm h a0 n0 c0 a1 n1 c1 w) (nn : NNs h a1 n1 w) (b : WB w) :
  Zae pg Zhf [.agg [.slice a0 n0 c0 e0, .slice a1 n1 c1 e1]] h (Ytx w h) := by
 have hl0 := r.len0
 have hl1 := r.len1
 have hli := b.li
 apply Zdy.call
 simp only [Zaz]
 generalize hh0 : h ++ [Zco.cells Zaf [.slice a0 n0 c0 e0, .slice a1 n1 c1 e1] false] = g0
 have s0 : Zbb h.length h g0 := by rw [← hh0]; exact Zas
 have w0 : g0[h.length]? = some (Znv a0 n0 c0 e0 a1 n1 c1 e1) := by rw [← hh0]; simp [Znv]
 rw [Zxv w0]
 simp only [Zar, Zah, Zat, Zag]
 refine (Yaa (r.same s0) b).mono ?_
 rintro v g1 ⟨rfl, s1⟩
 have S1 := s0.cat s1
 have w1 := s1.get w0 (Own.lt w0)
 simp only [Zal]
 refine Zcb (fun hw => ⟨S1, none, 0, 0, true, by rw [hw], by unfold Yea; rw [hw]; exact ⟨rfl, .inl rfl⟩⟩) (fun hw => ?_)
 have hcs := Ypy hw
 generalize hh2 : g1 ++ [Zco.cells Zgs [] false] = g2
 have s2 : Zbb g1.length g1 g2 := by rw [← hh2]; exact Zas
 have l2 : g2.length = g1.length + 1 := by rw [← hh2]; simp
 have o2 : g2[g1.length]? = some (.cells Zgs [] false) := by rw [← hh2]; simp
 have S2 := S1.cat s2
 have w2 := s2.get w1 (Own.lt w1)
 have hwl := Own.lt w1
 simp only [Zjq w2, Nat.zero_add, List.getElem?_cons_succ, List.getElem?_cons_zero, Zag]
 have hRW : Yea w = Ydj w n1 := by unfold Yea; rw [if_pos hw, hl1]
 refine Zdy.L5ind (J := fun (g : Nat) a4 n4 c4 e4 x14 h' => x14 = (g : Int) ∧ g ≤ n1 ∧ Zbb h.length h h' ∧ h'[h.length]? = some (Znv a0 n0 c0 e0 a1 n1 c1 e1) ∧ n4 = (Ydj w g).length ∧ Vec Zgs h' a4 n4 c4 (Zcf eI (Ydj w g)) ∧ ∀ i, a4 = some (i, 0) → h.length < i)
  (m := fun g => n1 - g) (hr := ?_) (g := 0) (hj := ⟨rfl, by omega, S2, w2, rfl, Vec.mk1 (by simpa [Ydj] using o2), fun i hi => by cases hi; omega⟩) ..
 rintro g a4 n4 c4 e4 x14 h' ⟨rfl, hg, hS, hw0, rfl, hv, ha⟩ R hR
 have hrl := Zzg w g
 have hle' := hS.le
 have hwl' := Own.lt hw0
 unfold Zdy.L5t
 refine Zan (fun hlt => ?_) (fun hge => ?_)
 ·have hgn : g < n1 := by omega
  have hgl : g < w.is.length := by omega
  obtain ⟨ii, oi, _, na, nx, ncp, ne, ha1, hii, hrow3, _, _, _, hrow, hnl⟩ := (r.same hS).inst (k := g) hgn
  simp only [ha1, Zax, Int.toNat_natCast, hrow3, Zar, Zah, Zat, Zai, Zag, Zaz]
  rw [← ha1, Ygf]
  refine ⟨by omega, ?_⟩
  generalize hh3 : h' ++ [Zco.cells Zac [.str w.is[g].1.1, .str w.is[g].1.2, .slice na nx ncp ne] false] = g3
  have s3 : Zbb h'.length h' g3 := by rw [← hh3]; exact Zas
  have o3 : g3[h'.length]? = some (.cells Zac [.str w.is[g].1.1, .str w.is[g].1.2, .slice na nx ncp ne] false) := by rw [← hh3]; simp
  have S3 := hS.cat s3
  have w3 := s3.get hw0 hwl'
  have hat := Ykc (w := w) hgl
  simp only [Zaw, Zaq o3, Nat.zero_add, List.getElem?_cons_succ, List.getElem?_cons_zero, Zag]
  have skip : ∀ hz, Zbb h'.length h' hz → Ynd w g = false → Zdy.J9 (Ytx w h) R (g : Int) (n1 : Int) a1 n1 c1 e1 h.length 0 a4 (Ydj w g).length c4 e4 hz := by
   intro hz sz hno
   apply Zdy.J9i
   rw [Zbj (by omega)]
   have hs := Ztd w g
   rw [hno] at hs
   simp only [Bool.false_eq_true, if_false, List.append_nil] at hs
   exact hR (g + 1) _ _ _ _ _ _ (by omega) ⟨rfl, by omega, hS.cat sz, sz.get hw0 hwl', by rw [hs], by rw [hs]; exact hv.same sz, ha⟩
  refine Zfh (fun hz => ?_) (fun hnz => ?_)
  ·have hn0 : w.is[g].2.length = 0 := by omega
   rw [Zxv w3, Zwf o3]
   simp only [Zar, Zah, Zat, Zag, Zai]
   refine (Yiq (k := g) (r.same S3) (nn.same S3) b (by omega) hgn).mono ?_
   rintro v g4 ⟨b0, d0, f0, b1, d1, f1, rfl, s4, r4⟩
   have o4 := s4.get o3 (Own.lt o3)
   have w4 := s4.get w3 (Own.lt w3)
   simp only [Zdp, Zah, Zat, Zag]
   refine ⟨by rw [Zwf o4], ?_⟩
   refine (Yfg (nd := w.is[g].1) r4 (Ytb b g) (Zyl hw g) (Ycf hw hgl)).mono ?_
   rintro v g5 ⟨rfl, s5⟩
   have w5 := s5.get w4 (Own.lt w4)
   simp only [Zau]
   refine ⟨by rw [Zxv w5, Zxv w4], ?_⟩
   have sA := (s3.cat s4).cat s5
   have S5 := hS.cat sA
   refine Zan (fun hpos => ?_) (fun hneg => skip _ sA (by rw [hat]; simp; intro _; omega))
   have hyes : Ynd w g = true := by rw [hat, decide_eq_true hn0, decide_eq_true (show 0 ≤ Ylj (wk (woW w g)) w.is[g].1 from hpos)]; rfl
   refine (hv.same sA).push Zzs Yoe Yob Ypd (by rw [Zay Zlu]; omega) rfl (by omega) (fun h6 hl6 hi6 hk6 => ?_)
   simp only [Zag]
   apply Zdy.J9i
   rw [Zbj (by omega)]
   have hs := Ztd w g
   rw [hyes, if_pos rfl] at hs
   have hle := S5.le
   have hleA := sA.le
   refine hR (g + 1) _ _ _ _ _ _ (by omega) ⟨rfl, by omega, ⟨by omega, fun j hj => ?_⟩, ?_, by rw [hs]; simp, Vec.mk1 ?_, fun i hi => by cases hi; omega⟩
   ·rw [hk6 j (by omega) fun i hi => by have := ha i hi; omega]; exact S5.eq j hj
   ·rw [hk6 _ (by omega) fun i hi => by have := ha i hi; omega]; exact w5
   ·rw [hi6, hs, Zeg]; rfl
  ·exact ⟨by trivial, by trivial, skip _ s3 (by rw [hat, decide_eq_false (by omega)]; rfl)⟩
 ·apply Zdy.A5x0i
  have : g = n1 := by omega
  subst this
  exact ⟨hS, _, _, _, _, by rw [hw], by rw [hRW]; exact hv.fresh (b := h.length) rfl fun i hi => by have := ha i hi; omega⟩
theorem Zvj {h : Zaa} {a0 a1 : Pt} {n0 c0 n1 c1 : Nat} {e0 e1 : Bool} {w : Wd} (r : Zmm h a0 n0 c0 a1 n1 c1 w) (b : WB w) :
  Zae pg Zkb [.agg [.slice a0 n0 c0 e0, .slice a1 n1 c1 e1]] h (Ytx w h) := by
 have hl0 := r.len0
 have hl1 := r.len1
 have hli := b.li
 apply Zdz.call
 simp only [Zaz]
 generalize hh0 : h ++ [Zco.cells Zaf [.slice a0 n0 c0 e0, .slice a1 n1 c1 e1] false] = gA
 have sA0 : Zbb h.length h gA := by rw [← hh0]; exact Zas
 have lA : gA.length = h.length + 1 := by rw [← hh0]; simp
 have wA : gA[h.length]? = some (Znv a0 n0 c0 e0 a1 n1 c1 e1) := by rw [← hh0]; simp [Znv]
 generalize hhB : gA ++ [Zco.cells Zgs [] false] = g0
 have sB : Zbb gA.length gA g0 := by rw [← hhB]; exact Zas
 have oB : g0[gA.length]? = some (.cells Zgs [] false) := by rw [← hhB]; simp
 have w0 := sB.get wA (Own.lt wA)
 have s0 := sA0.cat sB
 rw [Zxv w0]
 simp only [Zar, Zah, Zat, Zag]
 refine (Zro (r.same s0) b).mono ?_
 rintro v g2 ⟨rfl, s1⟩
 have S2 := s0.cat s1
 have w2 := s1.get w0 (Own.lt w0)
 have o2 := s1.get oB (Own.lt oB)
 simp only [Zal]
 refine Zcb (fun hw => ⟨S2, some (gA.length, 0), 0, 0, true, by rw [hw], by unfold Yea; rw [hw]; exact ⟨rfl, .inl rfl⟩⟩) (fun hw => ?_)
 have hcs := Ypy hw
 have hwl := Own.lt w2
 simp only [Zjq w2, Nat.zero_add, List.getElem?_cons_succ, List.getElem?_cons_zero, Zag]
 have hRW : Yea w = Ydj w n1 := by unfold Yea; rw [if_pos hw, hl1]
 refine Zdz.L5ind (J := fun (g : Nat) a4 n4 c4 e4 x14 h' => x14 = (g : Int) ∧ g ≤ n1 ∧ Zbb h.length h h' ∧ h'[h.length]? = some (Znv a0 n0 c0 e0 a1 n1 c1 e1) ∧ n4 = (Ydj w g).length ∧ Vec Zgs h' a4 n4 c4 (Zcf eI (Ydj w g)) ∧ ∀ i, a4 = some (i, 0) → h.length < i)
  (m := fun g => n1 - g) (hr := ?_) (g := 0) (hj := ⟨rfl, by omega, S2, w2, rfl, Vec.mk1 (by simpa [Ydj] using o2), fun i hi => by cases hi; omega⟩) ..
 rintro g a4 n4 c4 e4 x14 h' ⟨rfl, hg, hS, hw0, rfl, hv, ha⟩ R hR
 have hrl := Zzg w g
 have hle' := hS.le
 have hwl' := Own.lt hw0
 unfold Zdz.L5t
 refine Zan (fun hlt => ?_) (fun hge => ?_)
 ·have hgn : g < n1 := by omega
  have hgl : g < w.is.length := by omega
  obtain ⟨ii, oi, _, na, nx, ncp, ne, ha1, hii, hrow3, _, _, _, hrow, hnl⟩ := (r.same hS).inst (k := g) hgn
  simp only [ha1, Zax, Int.toNat_natCast, hrow3, Zar, Zah, Zat, Zai, Zag, Zaz]
  rw [← ha1, Ygf]
  refine ⟨by omega, ?_⟩
  generalize hh3 : h' ++ [Zco.cells Zac [.str w.is[g].1.1, .str w.is[g].1.2, .slice na nx ncp ne] false] = g3
  have s3 : Zbb h'.length h' g3 := by rw [← hh3]; exact Zas
  have o3 : g3[h'.length]? = some (.cells Zac [.str w.is[g].1.1, .str w.is[g].1.2, .slice na nx ncp ne] false) := by rw [← hh3]; simp
  have S3 := hS.cat s3
  have w3 := s3.get hw0 hwl'
  have hat := Ykc (w := w) hgl
  simp only [Zaw, Zaq o3, Nat.zero_add, List.getElem?_cons_succ, List.getElem?_cons_zero, Zag]
  have skip : ∀ hz, Zbb h'.length h' hz → Ynd w g = false → Zdz.J9 (Ytx w h) R (g : Int) (n1 : Int) a1 n1 c1 e1 h.length 0 a4 (Ydj w g).length c4 e4 hz := by
   intro hz sz hno
   apply Zdz.J9i
   rw [Zbj (by omega)]
   have hs := Ztd w g
   rw [hno] at hs
   simp only [Bool.false_eq_true, if_false, List.append_nil] at hs
   exact hR (g + 1) _ _ _ _ _ _ (by omega) ⟨rfl, by omega, hS.cat sz, sz.get hw0 hwl', by rw [hs], by rw [hs]; exact hv.same sz, ha⟩
  refine Zfh (fun hz => ?_) (fun hnz => ?_)
  ·have hn0 : w.is[g].2.length = 0 := by omega
   rw [Zxv w3, Zwf o3]
   simp only [Zar, Zah, Zat, Zag, Zai]
   refine (Ycx (k := g) (r.same S3) b hgn).mono ?_
   rintro v g4 ⟨b0, d0, f0, b1, d1, f1, rfl, s4, r4⟩
   have o4 := s4.get o3 (Own.lt o3)
   have w4 := s4.get w3 (Own.lt w3)
   simp only [Zdp, Zah, Zat, Zag]
   refine ⟨by rw [Zwf o4], ?_⟩
   have hbi := b.is _ (List.getElem_mem hgl)
   refine (Yds (nd := w.is[g].1) r4 (Ytb b g) hbi.2.1).mono ?_
   rintro v g5 ⟨rfl, s5⟩
   have hlv : Ybj (woW w g) w.is[g].1 = Ylj (wk (woW w g)) w.is[g].1 := by unfold Ybj; rw [Zyl hw g, Ycf hw hgl]; rfl
   rw [hlv]
   have w5 := s5.get w4 (Own.lt w4)
   simp only [Zau]
   refine ⟨by rw [Zxv w5, Zxv w4], ?_⟩
   have sA := (s3.cat s4).cat s5
   have S5 := hS.cat sA
   refine Zan (fun hpos => ?_) (fun hneg => skip _ sA (by rw [hat]; simp; intro _; omega))
   have hyes : Ynd w g = true := by rw [hat, decide_eq_true hn0, decide_eq_true (show 0 ≤ Ylj (wk (woW w g)) w.is[g].1 from hpos)]; rfl
   refine (hv.same sA).push Zzs Yoe Yob Ypd (by rw [Zay Zlu]; omega) rfl (by omega) (fun h6 hl6 hi6 hk6 => ?_)
   simp only [Zag]
   apply Zdz.J9i
   rw [Zbj (by omega)]
   have hs := Ztd w g
   rw [hyes, if_pos rfl] at hs
   have hle := S5.le
   have hleA := sA.le
   refine hR (g + 1) _ _ _ _ _ _ (by omega) ⟨rfl, by omega, ⟨by omega, fun j hj => ?_⟩, ?_, by rw [hs]; simp, Vec.mk1 ?_, fun i hi => by cases hi; omega⟩
   ·rw [hk6 j (by omega) fun i hi => by have := ha i hi; omega]; exact S5.eq j hj
   ·rw [hk6 _ (by omega) fun i hi => by have := ha i hi; omega]; exact w5
   ·rw [hi6, hs, Zeg]; rfl
  ·exact ⟨by trivial, by trivial, skip _ s3 (by rw [hat, decide_eq_false (by omega)]; rfl)⟩
 ·apply Zdz.A5x0i
  have : g = n1 := by omega
  subst this
  exact ⟨hS, _, _, _, _, by rw [hw], by rw [hRW]; exact hv.fresh (b := h.length) rfl fun i hi => by have := ha i hi; omega⟩
end Go.Sim

set_option linter.unusedVariables false
set_option linter.unusedSimpArgs false
set_option maxRecDepth 20000
namespace Go.Sim
open Go Go.RowKit

theorem lawRedundantOf {h : Zaa} {a0 a1 : Pt} {n0 c0 n1 c1 : Nat} {e0 e1 : Bool} {w : Wd} (r : Zmm h a0 n0 c0 a1 n1 c1 w) (hb : Yts w) :
  Zae pg Zja [.agg [.slice a0 n0 c0 e0, .slice a1 n1 c1 e1]] h fun v _ => v = .bool true := by
 apply Zed.call
 simp only [Zaz]
 generalize hg0 : h ++ [Zco.cells Zez [.slice a0 n0 c0 e0, .slice a1 n1 c1 e1] false] = g0
 have sg0 : Zbb h.length h g0 := by rw [← hg0]; exact Zas
 have xw0 : g0[h.length]? = some (.cells Zez [.slice a0 n0 c0 e0, .slice a1 n1 c1 e1] false) := by rw [← hg0]; simp
 try simp only [Zby xw0, Zar, Zah, Zat, Zag, Zai, Zdp, Zau, Zal, Zdn, Zaw, true_and]
 refine (Yhk (r.same sg0) hb (x := 1048576) (by omega)).mono ?_
 rintro v k11 ⟨y, rfl, sk11, hy⟩
 have xw_k11 := sk11.get xw0 (Own.lt xw0)
 have S_k11 := sg0.cat sk11
 simp only [Zau]
 refine Zan (fun _ => by trivial) (fun hge => ?_)
 have hyy := hy (by omega)
 have b : WB w := .of hb (by omega)
 try simp only [Zby xw_k11, Zby xw0, Zar, Zah, Zat, Zag, Zai, Zdp, Zau, Zal, Zdn, Zaw, true_and]
 refine (Zqt (r.same S_k11) b).mono ?_
 rintro v k12 ⟨b0, d0, f0, b1, d1, f1, ys, rfl, hd0, hd1, sk12, W3⟩
 have xw_k12 := sk12.get xw_k11 (Own.lt xw_k11)
 have S_k12 := S_k11.cat sk12
 try simp only [Zby xw_k12, Zby xw_k11, Zar, Zah, Zat, Zag, Zai, Zdp, Zau, Zal, Zdn, Zaw, true_and]
 refine (Zvj (W3.rep hd0 hd1) b).mono ?_
 rintro v k13 ⟨sk13, wa, wn, wc, we, rfl, F5⟩
 have xw_k13 := sk13.get xw_k12 (Own.lt xw_k12)
 have S_k13 := S_k12.cat sk13
 try simp only [Zby xw_k13, Zby xw_k12, Zar, Zah, Zat, Zag, Zai, Zdp, Zau, Zal, Zdn, Zaw, true_and]
 refine (Zqt (r.same S_k13) b).mono ?_
 rintro v k14 ⟨p0, q0, g0', p1, q1, g1', zs, rfl, hq0, hq1, sk14, W6⟩
 have xw_k14 := sk14.get xw_k13 (Own.lt xw_k13)
 have S_k14 := S_k13.cat sk14
 try simp only [Zby xw_k14, Zby xw_k13, Zar, Zah, Zat, Zag, Zai, Zdp, Zau, Zal, Zdn, Zaw, true_and]
 rw [Zgv]
 generalize hg1 : k14 ++ [Zco.cells Zaf [.slice p0 n0 q0 g0', .slice p1 n1 q1 g1'] false] = g1
 have sg1 : Zbb k14.length k14 g1 := by rw [← hg1]; exact Zas
 have xw_g1 := sg1.get xw_k14 (Own.lt xw_k14)
 have S_g1 := S_k14.cat sg1
 have xi_g1 : g1[k14.length]? = some (.cells Zaf [.slice p0 n0 q0 g0', .slice p1 n1 q1 g1'] false) := by rw [← hg1]; simp
 try simp only [Zby xw_g1, Zby xi_g1, Zby xw_k13, Zar, Zah, Zat, Zag, Zai, Zdp, Zau, Zal, Zdn, Zaw, true_and]
 have W7 := W6.same sg1
 refine (Zrx (W7.rep hq0 hq1) (W7.nns) b).mono ?_
 rintro v k15 ⟨sk15, ga, gn, gc, ge, rfl, F9⟩
 have xw_k15 := sk15.get xw_g1 (Own.lt xw_g1)
 have xi_k15 := sk15.get xi_g1 (Own.lt xi_g1)
 have S_k15 := S_g1.cat sk15
 simp only [Zdn, Zah, Zat, Zag, Zai, Zau, Zal]
 have hwn : (Yea w).length = wn := F5.1
 have hgn : (Yea w).length = gn := F9.1
 have hgl := Yow b
 have R5 : Row k13.length k13 wa wn (Zcf eI (Yea w)) := Ysd F5
 have T9 := ((sk14).cat sg1).cat sk15
 have R9 := R5.same T9
 refine (Zzx (Ysd F9) (R9.mono T9.le) (by omega) rfl).mono ?_
 rintro v k16 ⟨rfl, sk16⟩
 have xw_k16 := sk16.get xw_k15 (Own.lt xw_k15)
 have xi_k16 := sk16.get xi_k15 (Own.lt xi_k15)
 have S_k16 := S_k15.cat sk16
 simp only [Zal, beq_self_eq_true, Bool.not_true, Zbh]
 apply Zed.J10i
 try simp only [Zby xw_k16, Zby xi_k16, Zby xw_k15, Zby xi_k15, Zar, Zah, Zat, Zag, Zai, Zdp, Zau, Zal, Zdn, Zaw, true_and]
 refine (Zqt (r.same S_k16) b).mono ?_
 rintro v k17 ⟨u0, v0, j0, u1, v1, j1, ts, rfl, hv0, hv1, sk17, W10⟩
 have xw_k17 := sk17.get xw_k16 (Own.lt xw_k16)
 have xi_k17 := sk17.get xi_k16 (Own.lt xi_k16)
 have S_k17 := S_k16.cat sk17
 try simp only [Zby xw_k17, Zby xi_k17, Zby xw_k16, Zby xi_k16, Zar, Zah, Zat, Zag, Zai, Zdp, Zau, Zal, Zdn, Zaw, true_and]
 refine (Yhf ((((W7.rep hq0 hq1).same sk15).same sk16).same sk17) (W10.rep hv0 hv1) b).mono ?_
 rintro v k18 ⟨rfl, sk18⟩
 have xw_k18 := sk18.get xw_k17 (Own.lt xw_k17)
 have xi_k18 := sk18.get xi_k17 (Own.lt xi_k17)
 have S_k18 := S_k17.cat sk18
 simp only [Zal, Bool.not_true, Zbh]
 try simp only [Zby xw_k18, Zby xi_k18, Zby xw_k17, Zby xi_k17, Zar, Zah, Zat, Zag, Zai, Zdp, Zau, Zal, Zdn, Zaw, true_and]
 have T12 := (((((sk14).cat sg1).cat sk15).cat sk16).cat sk17).cat sk18
 have lsk13 := sk13.le
 have lsk14 := sk14.le
 have lsg1 := sg1.le
 have lsk15 := sk15.le
 have lsk16 := sk16.le
 have lsk17 := sk17.le
 have lsk18 := sk18.le
 have lS5 := S_k13.le
 have W12 := ((((W7).same sk15).same sk16).same sk17).same sk18
 refine (Ybx W12 b (H := k14.length) ⟨W6.bel.cls, W6.bel.ins, W6.bel.need⟩ (by omega) (k := 1) (by omega)).mono ?_
 rintro v m1 ⟨⟨zm, rfl, hm0, hm1⟩, M13⟩
 simp only [Zau]
 rw [show decide (zm < 0) = false by simp; omega]
 simp only [Zbh]
 have lm1 := M13.1
 have F13 : Zcv Zgs eI g1.length m1 ga gn (Yea w) := ((((F9).same sk16).same sk17).same sk18).mid M13 (by omega)
 have R13 : Row k13.length m1 wa wn (Zcf eI (Yea w)) := (R5.same T12).mid M13 (Nat.le_refl _)
 refine (Zzx (Ysd F13) (R13.mono (by omega)) (by omega) rfl).mono ?_
 rintro v m2 ⟨rfl, sm2⟩
 simp only [Zal, beq_self_eq_true, Bool.not_true, Zbh]
 apply Zed.J16i
 have F14 := F13.same sm2
 have lm2 := sm2.le
 refine (Ydy F14 (k := 1) (by omega)).mono ?_
 rintro v m3 ⟨rfl, o15, F15⟩
 simp only [Zau]
 have hin := F14.in
 have M15 : Mid g1.length m2.length m2 m3 := o15.mid fun i hi hn => hin i hi hn
 have lm3 := M15.1
 refine (Zyg (Ysd F15) (by omega)).mono ?_
 rintro v m4 ⟨rfl, sm4⟩
 simp only [Zau]
 rw [show decide ((1 + (gn : Int)) < 0) = false by simp; omega]
 simp only [Zbh, beq_self_eq_true, Bool.not_true]
 have lm4 := sm4.le
 have U : Zbb k13.length k13 m4 := ⟨by omega, fun j hj => by
  rw [sm4.eq j (by omega), M15.2 j (by omega) (.inl (by omega)), sm2.eq j (by omega), M13.2 j (by omega) (.inl (by omega)), T12.eq j hj]⟩
 have xw_m4 := U.get xw_k13 (Own.lt xw_k13)
 have S_m4 := S_k13.cat U
 try simp only [Zby xw_m4, Zar, Zah, Zat, Zag, Zai, Zdp, Zau, Zal, Zdn, Zaw, true_and]
 refine (Zqt (r.same S_m4) b).mono ?_
 rintro v k19 ⟨P0, Q0, G0, P1, Q1, G1, Zs, rfl, hQ0, hQ1, sk19, W20⟩
 have xw_k19 := sk19.get xw_m4 (Own.lt xw_m4)
 have S_k19 := S_m4.cat sk19
 try simp only [Zby xw_k19, Zby xw_m4, Zar, Zah, Zat, Zag, Zai, Zdp, Zau, Zal, Zdn, Zaw, true_and]
 refine (Zrx (W20.rep hQ0 hQ1) (W20.nns) b).mono ?_
 rintro v k20 ⟨sk20, Ga, Gn, Gc, Ge, rfl, F22⟩
 have xw_k20 := sk20.get xw_k19 (Own.lt xw_k19)
 have S_k20 := S_k19.cat sk20
 try simp only [Zby xw_k20, Zby xw_k19, Zar, Zah, Zat, Zag, Zai, Zdp, Zau, Zal, Zdn, Zaw, true_and]
 have R22 := R5.same (((U).cat sk19).cat sk20)
 have lR := (((U).cat sk19).cat sk20).le
 have hGn : (Yea w).length = Gn := F22.1
 refine (Zzx (Ysd F22) (R22.mono lR) (by omega) rfl).mono ?_
 rintro v m9 ⟨rfl, sm9⟩
 simp only [Zal, beq_self_eq_true, Bool.not_true, Zbh]
 apply Zed.J27i
 refine (Zyg (Ysd ((((F15.same sm4).same sk19).same sk20).same sm9)) (by omega)).mono ?_
 rintro v m10 ⟨rfl, sm10⟩
 simp only [Zau]
 rw [show decide ((1 + (gn : Int)) < 0) = false by simp; omega]
 simp only [Zbh, beq_self_eq_true, Bool.not_true]
end Go.Sim

set_option linter.unusedVariables false
namespace Go.Sim
open Go Go.RowKit
end Go.Sim
