/- A part of the proof of a statement of this seat: see the text that holds the theorem. No condition. -/
import Derived.Test.YtlljbdepamknoaaGreatDoorPTCMarkW
import Derived.Test.YtlljbdepamknoaaGreatDoorCAllDa
import Derived.Test.YtlljbdepamknoaaGreatDoorPApply
import Derived.Test.YtlljbdepamknoaaGreatDoorPTCDicts
import Derived.Test.YtlljbdepamknoaaGreatDoorCSAllDb
import Derived.Test.YtlljbdepamknoaaGreatDoorNm
import Derived.Test.YtlljbdepamknoaaGreatDoorCGrow2
set_option linter.unusedVariables false
set_option linter.unusedSimpArgs false
set_option linter.all false
set_option linter.unusedVariables false
set_option linter.unusedSimpArgs false
set_option maxRecDepth 20000
namespace Go.Sim
open Go Go.RowKit

theorem Ymk : pg.underlying Zna = some (.slice Zai) := by kernel_rfl
theorem Ytf : pg.cellsOf Zai = 3 := by kernel_rfl
theorem Yrp : pg.okElem Zai = true := by kernel_rfl
theorem Ysn : pg.bytesOf Zai ≤ 127 := Nat.le_of_ble_eq_true (by kernel_rfl)
theorem Yok : pg.underlying Zqj = some (.slice Zbq) := by kernel_rfl
theorem Yrv : pg.cellsOf Zbq = 2 := by kernel_rfl
theorem Yse : pg.okElem Zbq = true := by kernel_rfl
theorem Ysx : pg.bytesOf Zbq ≤ 127 := Nat.le_of_ble_eq_true (by kernel_rfl)
theorem Ysq {h : Zaa} {i j : Nat} {t t' : TypeId} {cs cs' : List Zaq} {ro ro' : Bool} (hi : h[i]? = some (.cells t cs ro)) (hj : h[j]? = some (.cells t' cs' ro')) (hne : t ≠ t') : i ≠ j := by
 rintro rfl; rw [hi] at hj; injection hj with hj; injection hj with hj _ _; exact hne hj
theorem Ykw {h : Zaa} {a : Pt} {n cp : Nat} {e : Bool} {i : Ins} (r : Row h.length h a (n * 2) (Zdl eP i.2)) (hn : n ≤ 1048576) :
  Zae pg Zgo [.agg [.str i.1.1, .str i.1.2, .slice a n cp e]] h fun v h' => ∃ a' c' e', v = .agg [.str i.1.1, .str i.1.2, .slice a' n c' e'] ∧ Zba h.length h h' ∧ Zct Zad eP h.length h' a' n i.2 ∧ a' ≠ none ∧ n ≤ c' := by
 have hl : i.2.length = n := by have := r.1; rw [Zbf Zet] at this; omega
 apply Zkg.call
 simp only [Zav]
 generalize hh0 : h ++ [Zci.cells Zai [.str i.1.1, .str i.1.2, .slice a n cp e] false] = h0
 generalize hh1 : h0 ++ [Zci.cells Zai [.str [], .str [], .slice none 0 0 true] false] = h1
 generalize hh2 : h1 ++ [Zci.cells Zad [] false] = h2
 have s0 : Zba h.length h h0 := by rw [← hh0]; exact Zan
 have s1 : Zba h0.length h0 h1 := by rw [← hh1]; exact Zan
 have s2 : Zba h1.length h1 h2 := by rw [← hh2]; exact Zan
 have l0 : h0.length = h.length + 1 := by rw [← hh0]; simp
 have l1 : h1.length = h0.length + 1 := by rw [← hh1]; simp
 have l2 : h2.length = h1.length + 1 := by rw [← hh2]; simp
 have x0 : h0[h.length]? = some (.cells Zai [.str i.1.1, .str i.1.2, .slice a n cp e] false) := by rw [← hh0]; simp
 have y1 : h1[h0.length]? = some (.cells Zai [.str [], .str [], .slice none 0 0 true] false) := by rw [← hh1]; simp
 have z2 : h2[h1.length]? = some (.cells Zad [] false) := by rw [← hh2]; simp
 have x2 := s2.get (s1.get x0 (by omega)) (by omega)
 have y2 := s2.get y1 (by omega)
 have S2 := (s0.cat s1).cat s2
 simp only [Zat x2, Nat.zero_add, List.getElem?_cons_succ, List.getElem?_cons_zero, Zaf]
 refine Vec.app0 (n := 0) z2 Ynt Yru Yrm Ysb (by simp) (r.same' S2).rowOf (Zwi (enc := eP) (fun _ => rfl) i.2) (by omega) (fun h3 hl3 hi3 hk3 => ?_)
 have x3 : h3[h.length]? = some (.cells Zai [.str i.1.1, .str i.1.2, .slice a n cp e] false) := by rw [hk3 _ (by omega) (by omega)]; exact x2
 have y3 : h3[h0.length]? = some (.cells Zai [.str [], .str [], .slice none 0 0 true] false) := by rw [hk3 _ (by omega) (by omega)]; exact y2
 simp only [Zaf, Nat.zero_add]
 rw [Zca x3 (by simp)]
 simp only [Zay, putRow, List.take_succ_cons, List.take_zero, List.length_cons, List.length_nil, List.drop_succ_cons, List.drop_zero, List.drop_nil, List.cons_append, List.nil_append, List.append_nil]
 rw [Zrq (Zcy x3)]
 simp only [Zas, Zah, Zar, Zag, Zaf]
 have y4 : (h3.set h.length (Zci.cells Zai [.str i.1.1, .str i.1.2, .slice (some (h2.length, 0)) n n false] false))[h0.length]? = some (.cells Zai [.str [], .str [], .slice none 0 0 true] false) := by rw [Zbz (by omega)]; exact y3
 rw [Zca y4 (by simp)]
 simp only [Zay, putRow, List.take_zero, List.length_cons, List.length_nil, List.drop_succ_cons, List.drop_zero, List.drop_nil, List.cons_append, List.nil_append, List.append_nil]
 rw [Zrq (Zcy y4)]
 simp only [Zas, Zah, Zar, Zag, Zaf]
 refine ⟨_, _, _, rfl, ⟨by simp; omega, fun j hj => ?_⟩, ⟨hl, .inr ⟨h2.length, rfl, by omega, ?_⟩⟩, by simp, Nat.le_refl _⟩
 ·rw [Zbz (by omega), Zbz (by omega), hk3 j (by omega) (by omega)]; exact S2.eq j hj
 ·rw [Zbz (by omega), Zbz (by omega), hi3]; simp
theorem Ygl {h : Zaa} {a0 a : Pt} {n0 c0 n cp : Nat} {e : Bool} {w : Wd} (r : Zlu h a0 n0 c0 a n cp w) (b : WB w) :
  Zae pg Zfj [.slice a n cp e] h fun v h' => ∃ a' c' e' ys, v = .slice a' n c' e' ∧ n ≤ c' ∧ Zba h.length h h' ∧ Zct Zai eN h.length h' a' n ys ∧ ys.length = w.is.length ∧ a' ≠ none ∧
   (∀ (k : Nat) (x : EI) (i : Ins), ys[k]? = some x → w.is[k]? = some i → x.c = i.1.1 ∧ x.t = i.1.2 ∧ Zct Zad eP h.length h' x.a x.n i.2) ∧
   (∀ (j k : Nat) (x y : EI), j ≠ k → ys[j]? = some x → ys[k]? = some y → x.n ≠ 0 → y.n ≠ 0 → x.a ≠ y.a) ∧ ∀ x ∈ ys, x.a ≠ none := by
 have hl := r.len1
 have hli := b.li
 apply Zds.call
 simp only [Zav]
 refine Zds.L3ind (J := fun (g : Nat) a3 n3 c3 e3 x9 h' => x9 = (g : Int) ∧ g ≤ n ∧ Zba h.length h h' ∧ ∃ (q : Nat) (ys : List EI), a3 = some (q, 0) ∧ n3 = g ∧ g ≤ c3 ∧ h.length ≤ q ∧ ys.length = g ∧ h'[q]? = some (.cells Zai (Zdl eN ys) false) ∧
   (∀ (k : Nat) (x : EI) (i : Ins), ys[k]? = some x → w.is[k]? = some i → x.c = i.1.1 ∧ x.t = i.1.2 ∧ Zct Zad eP h.length h' x.a x.n i.2) ∧
   (∀ (j k : Nat) (x y : EI), j ≠ k → ys[j]? = some x → ys[k]? = some y → x.n ≠ 0 → y.n ≠ 0 → x.a ≠ y.a) ∧ ∀ x ∈ ys, x.a ≠ none) (m := fun g => n - g) (hr := ?_) (g := 0)
  (hj := ⟨rfl, by omega, Zba.app (Nat.le_refl _) _, h.length, [], rfl, rfl, by omega, Nat.le_refl _, rfl, by simp, by simp, by simp, by simp⟩) ..
 rintro g a3 n3 c3 e3 x9 h' ⟨rfl, hg, hs, q, ys, rfl, rfl, hgc, hql, hy, ho, hrep, hsep, hnn⟩ R hR
 unfold Zds.L3t
 refine Zap (fun hlt => ?_) (fun hge => ?_)
 ·obtain ⟨i0, o0, hgl, a2, n2, c2, e2, rfl, hb0, hr, _, _, _, hrow, hn2⟩ := (r.same hs).inst (k := n3) (by omega)
  have hb := b.is _ (List.getElem_mem hgl)
  simp only [Zaw, Int.toNat_natCast, hr, Zas, Zah, Zar, Zag, Zaf, Zav]
  refine ⟨by omega, ?_⟩
  generalize hh1 : h' ++ [Zci.cells Zai [.str [], .str [], .slice none 0 0 true] false] = h1
  have s1 : Zba h'.length h' h1 := by rw [← hh1]; exact Zan
  have o1 : h1[h'.length]? = some (.cells Zai [.str [], .str [], .slice none 0 0 true] false) := by rw [← hh1]; simp
  rw [Zca o1 (by simp)]
  simp only [Zay, putRow, List.take_zero, List.length_cons, List.length_nil, List.drop_succ_cons, List.drop_zero, List.drop_nil, List.cons_append, List.nil_append, List.append_nil, Nat.zero_add]
  generalize hh2 : h1.set h'.length (Zci.cells Zai [.str w.is[n3].1.1, .str w.is[n3].1.2, .slice a2 n2 c2 e2] false) = h2
  have o2 : h2[h'.length]? = some (.cells Zai [.str w.is[n3].1.1, .str w.is[n3].1.2, .slice a2 n2 c2 e2] false) := by rw [← hh2]; exact Zcy o1
  have s2 : Zba h'.length h' h2 := by rw [← hh2]; exact s1.set' (Nat.le_refl _)
  rw [Zrq o2]
  simp only [Zas, Zah, Zar, Zag, Zaf]
  refine (Ykw (i := w.is[n3]) (hrow.same' s2) (by omega)).mono ?_
  rintro v h3 ⟨a', c', e', rfl, s3, f3, hnn3, hc3⟩
  simp only [Zdq, Zah, Zar, Zag, Zaf, Zav]
  have S3 := s2.cat s3
  have hol := Own.lt ho
  have ho3 := S3.get ho hol
  have hle2 := s2.le
  have hle3 := s3.le
  have hlh := hs.le
  refine (Vec.mk1 ho3).pushN Ymk Ytf Yrp Ysn (by rw [Zbf Zxi, hy]) rfl (by omega) rfl (by omega) (fun h4 hl4 hi4 hk4 => ?_)
  simp only [Zaf]
  rw [Zbr (by omega)]
  have keep : ∀ {a : Pt} {m : Nat} {l : List Nd} {b : Nat}, Zct Zad eP b h3 a m l → Zct Zad eP b h4 a m l := fun f => ⟨f.1, f.2.imp id fun ⟨j, ha, hbj, hc⟩ => ⟨j, ha, hbj, by rw [hk4 j (Own.lt hc) (fun j' hj' => by cases hj'; exact Ysq hc ho3 (by decide))]; exact hc⟩⟩
  refine hR (n3 + 1) _ _ _ _ _ _ (by omega) ⟨rfl, by omega, ⟨by omega, fun j hj => ?_⟩, h3.length + 1, ys ++ [⟨w.is[n3].1.1, w.is[n3].1.2, a', n2, c', e'⟩], rfl, rfl, Nat.le_refl _, by omega, by simp [hy], by rw [hi4]; simp [eN], ?_, ?_, fun x hx => ?_⟩
  ·rw [hk4 j (by omega) (fun j' hj' => by cases hj'; omega), S3.eq j (by omega)]; exact hs.eq j hj
  ·intro k x j hx hj
   by_cases hk : k < n3
   ·rw [List.getElem?_append_left (by omega)] at hx
    obtain ⟨p1, p2, p3⟩ := hrep k x j hx hj
    exact ⟨p1, p2, keep (p3.same S3)⟩
   ·have hkg : k = n3 := by have := (List.getElem?_eq_some_iff.1 hx).1; simp at this; omega
    subst hkg
    rw [List.getElem?_append_right (by omega)] at hx
    simp [hy] at hx
    subst hx
    rw [List.getElem?_eq_getElem hgl] at hj
    cases hj
    exact ⟨rfl, rfl, keep ⟨f3.1, f3.2.imp id fun ⟨j, ha, hbj, hc⟩ => ⟨j, ha, by omega, hc⟩⟩⟩
  ·have old : ∀ (k : Nat) (x : EI), k < n3 → ys[k]? = some x → x.n ≠ 0 → n2 ≠ 0 → x.a ≠ a' := by
    intro k x hk hx h0 h2' he
    obtain ⟨_, _, p3⟩ := hrep k x w.is[k] hx (List.getElem?_eq_getElem (by omega))
    obtain ⟨_, p3⟩ := p3
    obtain ⟨_, f3'⟩ := f3
    rcases p3 with p3 | ⟨j, ha, _, hc⟩
    ·exact h0 p3
    ·rcases f3' with f3' | ⟨j', ha', hb', _⟩
     ·exact h2' f3'
     ·rw [ha, ha'] at he; cases he; have := Own.lt hc; omega
   intro j k x y hjk hx hy' h0 h0'
   by_cases hj : j < n3 <;> by_cases hk : k < n3
   ·rw [List.getElem?_append_left (by omega)] at hx hy'
    exact hsep j k x y hjk hx hy' h0 h0'
   ·have hkg : k = n3 := by have := (List.getElem?_eq_some_iff.1 hy').1; simp at this; omega
    subst hkg
    rw [List.getElem?_append_left (by omega)] at hx
    rw [List.getElem?_append_right (by omega)] at hy'
    simp [hy] at hy'
    subst hy'
    exact old j x hj hx h0 h0'
   ·have hjg : j = n3 := by have := (List.getElem?_eq_some_iff.1 hx).1; simp at this; omega
    subst hjg
    rw [List.getElem?_append_left (by omega)] at hy'
    rw [List.getElem?_append_right (by omega)] at hx
    simp [hy] at hx
    subst hx
    exact fun he => old k y hk hy' h0' h0 he.symm
   ·have := (List.getElem?_eq_some_iff.1 hx).1
    have := (List.getElem?_eq_some_iff.1 hy').1
    simp at *
    omega
  ·rcases List.mem_append.1 hx with hx | hx
   ·exact hnn x hx
   ·rw [List.mem_singleton] at hx; subst hx; exact hnn3
 ·apply Zds.A3x0i
  have : n3 = n := by omega
  subst this
  exact ⟨_, _, _, ys, rfl, hgc, hs, ⟨hy, .inr ⟨q, rfl, hql, ho⟩⟩, by omega, by simp, hrep, hsep, hnn⟩
theorem Ydz {h : Zaa} {a0 a1 : Pt} {n0 c0 n1 c1 : Nat} {e0 e1 : Bool} {w : Wd} (r : Zlu h a0 n0 c0 a1 n1 c1 w) (b : WB w) :
  Zae pg Zil [.agg [.slice a0 n0 c0 e0, .slice a1 n1 c1 e1]] h fun v h' => ∃ b0 d0 f0 b1 d1 f1 ys, v = .agg [.slice b0 n0 d0 f0, .slice b1 n1 d1 f1] ∧ Zba h.length h h' ∧ Zqo h.length h' b0 n0 b1 n1 ys w ∧ n0 ≤ d0 ∧ n1 ≤ d1 ∧ b0 ≠ none ∧ b1 ≠ none := by
 have hl0 := r.len0
 have hlc := b.lc
 apply Zly.call
 simp only [Zav]
 generalize hh0 : h ++ [Zci.cells Zaj [.slice a0 n0 c0 e0, .slice a1 n1 c1 e1] false] = h0
 generalize hh1 : h0 ++ [Zci.cells Zaj [.slice none 0 0 true, .slice none 0 0 true] false] = h1
 generalize hh2 : h1 ++ [Zci.cells Zbq [] false] = h2
 have s0 : Zba h.length h h0 := by rw [← hh0]; exact Zan
 have s1 : Zba h0.length h0 h1 := by rw [← hh1]; exact Zan
 have s2 : Zba h1.length h1 h2 := by rw [← hh2]; exact Zan
 have l0 : h0.length = h.length + 1 := by rw [← hh0]; simp
 have l1 : h1.length = h0.length + 1 := by rw [← hh1]; simp
 have l2 : h2.length = h1.length + 1 := by rw [← hh2]; simp
 have x0 : h0[h.length]? = some (.cells Zaj [.slice a0 n0 c0 e0, .slice a1 n1 c1 e1] false) := by rw [← hh0]; simp
 have y1 : h1[h0.length]? = some (.cells Zaj [.slice none 0 0 true, .slice none 0 0 true] false) := by rw [← hh1]; simp
 have z2 : h2[h1.length]? = some (.cells Zbq [] false) := by rw [← hh2]; simp
 have x2 := s2.get (s1.get x0 (by omega)) (by omega)
 have y2 := s2.get y1 (by omega)
 have S2 := (s0.cat s1).cat s2
 simp only [Zat x2, Nat.zero_add, List.getElem?_cons_succ, List.getElem?_cons_zero, Zaf]
 refine Vec.app0 (n := 0) z2 Yok Yrv Yse Ysx (by simp) ((r.same S2).cls.rowOf) (Zwi (enc := eP) (fun _ => rfl) w.cs) (by omega) (fun h3 hl3 hi3 hk3 => ?_)
 have x3 : h3[h.length]? = some (.cells Zaj [.slice a0 n0 c0 e0, .slice a1 n1 c1 e1] false) := by rw [hk3 _ (by omega) (by omega)]; exact x2
 have y3 : h3[h0.length]? = some (.cells Zaj [.slice none 0 0 true, .slice none 0 0 true] false) := by rw [hk3 _ (by omega) (by omega)]; exact y2
 have S3 : Zba h.length h h3 := ⟨by omega, fun j hj => by rw [hk3 j (by omega) (by omega)]; exact S2.eq j hj⟩
 simp only [Zaf, Nat.zero_add]
 rw [Zca x3 (by simp)]
 simp only [Zay, putRow, List.take_zero, List.length_cons, List.length_nil, List.drop_succ_cons, List.drop_zero, List.drop_nil, List.cons_append, List.nil_append, List.append_nil]
 generalize hh4 : h3.set h.length (Zci.cells Zaj [.slice (some (h2.length, 0)) n0 n0 false, .slice a1 n1 c1 e1] false) = h4
 have x4 : h4[h.length]? = some (.cells Zaj [.slice (some (h2.length, 0)) n0 n0 false, .slice a1 n1 c1 e1] false) := by rw [← hh4]; exact Zcy x3
 have y4 : h4[h0.length]? = some (.cells Zaj [.slice none 0 0 true, .slice none 0 0 true] false) := by rw [← hh4, Zbz (by omega)]; exact y3
 have z4 : h4[h2.length]? = some (.cells Zbq (Zdl eP w.cs) false) := by rw [← hh4, Zbz (by omega), hi3]; simp
 have S4 : Zba h.length h h4 := by rw [← hh4]; exact S3.set' (Nat.le_refl _)
 have l4 : h4.length = h3.length := by rw [← hh4]; simp
 simp only [Zat x4, List.getElem?_cons_succ, List.getElem?_cons_zero, Zaf]
 refine (Ygl (r.same S4) b).mono ?_
 rintro v h5 ⟨b1, d1, f1, ys, rfl, hd1, s5, g5, hyl, hbn, hrep, hsep, hnn⟩
 simp only [Zaf]
 have l5 := s5.le
 have x5 := s5.get x4 (by omega)
 have y5 := s5.get y4 (by omega)
 have z5 := s5.get z4 (by omega)
 rw [Zca x5 (by simp)]
 simp only [Zay, putRow, List.take_succ_cons, List.take_zero, List.length_cons, List.length_nil, List.drop_succ_cons, List.drop_zero, List.drop_nil, List.cons_append, List.nil_append, List.append_nil]
 rw [Zbg (Zcy x5)]
 simp only [Zas, Zah, Zar, Zaf]
 have y6 : (h5.set h.length (Zci.cells Zaj [.slice (some (h2.length, 0)) n0 n0 false, .slice b1 n1 d1 f1] false))[h0.length]? = some (.cells Zaj [.slice none 0 0 true, .slice none 0 0 true] false) := by rw [Zbz (by omega)]; exact y5
 rw [Zca y6 (by simp)]
 simp only [Zay, putRow, List.take_zero, List.length_cons, List.length_nil, List.drop_succ_cons, List.drop_zero, List.drop_nil, List.cons_append, List.nil_append, List.append_nil]
 rw [Zbg (Zcy y6)]
 simp only [Zas, Zah, Zar, Zaf]
 have kp : ∀ j, h2.length ≤ j → ((h5.set h.length (Zci.cells Zaj [.slice (some (h2.length, 0)) n0 n0 false, .slice b1 n1 d1 f1] false)).set h0.length (Zci.cells Zaj [.slice (some (h2.length, 0)) n0 n0 false, .slice b1 n1 d1 f1] false))[j]? = h5[j]? := fun j hj => by rw [Zbz (by omega), Zbz (by omega)]
 refine ⟨_, _, _, _, _, _, ys, rfl, ⟨by simp; omega, fun j hj => ?_⟩, ⟨⟨hl0, .inr ⟨h2.length, rfl, by omega, by rw [kp _ (Nat.le_refl _)]; exact z5⟩⟩, g5.keep (by omega) fun j hj _ => kp j (by omega), hyl, fun k x i hx hi => ?_, hsep, hnn⟩, Nat.le_refl _, hd1, by simp, hbn⟩
 ·rw [Zbz (by omega), Zbz (by omega), s5.eq j (by omega)]; exact S4.eq j hj
 ·obtain ⟨p1, p2, p3⟩ := hrep k x i hx hi
  exact ⟨p1, p2, p3.keep (by omega) fun j hj _ => kp j (by omega)⟩
end Go.Sim

set_option linter.unusedVariables false
set_option linter.unusedSimpArgs false
set_option maxRecDepth 20000
namespace Go.Sim
open Go Go.RowKit

theorem Yot {hb : Zaa} {i m : Nat} {a0 a1 : Pt} {n0 c0 n1 c1 : Nat} {e0 e1 : Bool} {w : Wd} (r : Zlu hb a0 n0 c0 a1 n1 c1 w) (b : WB w) (hw : Zdy w = true) : ∀ d, d < 10 → Ytn d hb i m (.slice a0 n0 c0 e0) (.slice a1 n1 c1 e1) w
 | 0, h => Yfm r b hw 0 h fun hd => by omega
 | d + 1, h => Yfm r b hw (d + 1) h fun _ => Yot r b hw d (by omega)
noncomputable def Zrp (w : Wd) (n : Nd) (x : Int) : Option (List (List Nat)) := if Zdy w && Zdk w n && (decide (0 ≤ x) && decide (x ≤ 6)) then Zox (wk w) Zcw x.toNat n else none
noncomputable def Zxr (w : Wd) (n : Nd) (x : Int) : Int := match Zrp w n x with | some l => (l.length : Int) | none => -1
theorem Zsh {w : Wd} {n : Nd} {x : Int} (h : (Zdy w && Zdk w n && (decide (0 ≤ x) && decide (x ≤ 6))) = false) : Zrp w n x = none := by unfold Zrp; rw [h]; rfl
theorem Zxl {w : Wd} {n : Nd} {x : Int} (h : (Zdy w && Zdk w n) = true) (h0 : 0 ≤ x) (h6 : x ≤ 6) : Zrp w n x = Zox (wk w) Zcw x.toNat n := by unfold Zrp; rw [h]; simp [h0, h6]
def Yjs (w : Wd) (n : Nd) (x : Int) (h : Zaa) (v : Zaq) (h' : Zaa) : Prop := Zba h.length h h' ∧ ∃ a k c e, v = .tup [.slice a k c e, .bool (Zrp w n x).isSome] ∧ ∀ l, Zrp w n x = some l → l.length = k
theorem Ybr {h : Zaa} {a0 a1 : Pt} {n0 c0 n1 c1 : Nat} {e0 e1 : Bool} {w : Wd} {nd : Nd} {x : Int} (r : Zlu h a0 n0 c0 a1 n1 c1 w) (b : WB w) :
  Zae pg Zlg [.agg [.slice a0 n0 c0 e0, .slice a1 n1 c1 e1], .agg [.str nd.1, .str nd.2], .int .i64 x] h (Yjs w nd x h) := by
 apply Zln.call
 simp only [Zav]
 generalize hh0 : h ++ [Zci.cells Zaj [.slice a0 n0 c0 e0, .slice a1 n1 c1 e1] false] = h0
 generalize hh1 : h0 ++ [Zci.cells Zad [.str nd.1, .str nd.2] false] = h1
 have s0 : Zba h.length h h0 := by rw [← hh0]; exact Zan
 have s1 : Zba h0.length h0 h1 := by rw [← hh1]; exact Zan
 have w0 : h0[h.length]? = some (Zlt a0 n0 c0 e0 a1 n1 c1 e1) := by rw [← hh0]; simp [Zlt]
 have w1 := s1.get w0 (Own.lt w0)
 have p1 : h1[h0.length]? = some (.cells Zad [.str nd.1, .str nd.2] false) := by rw [← hh1]; simp
 rw [Zxf w1, Zbg p1]
 simp only [Zas, Zah, Zar, Zaf, Zag]
 have S1 := s0.cat s1
 refine (Zzl (ct := nd.1) (tt := nd.2) (r.same S1) b).mono ?_
 rintro v h2 ⟨rfl, s2⟩
 have w2 := s2.get w1 (Own.lt w1)
 have p2 := s2.get p1 (Own.lt p1)
 have S2 := S1.cat s2
 have no : (Zdy w && Zdk w nd && (decide (0 ≤ x) && decide (x ≤ 6))) = false → Yjs w nd x h (.tup [.slice none 0 0 true, .bool false]) h2 := fun hn => ⟨S2, _, _, _, _, by rw [Zsh hn]; rfl, fun l hl => by rw [Zsh hn] at hl; cases hl⟩
 simp only [Zam]
 refine Zcc (fun hc => no (by rw [hc]; rfl)) (fun hc => ?_)
 refine Zap (fun hx => no (by rw [hc]; simp; omega)) (fun hx0 => ?_)
 refine Zap (fun hx => no (by rw [hc]; simp; omega)) (fun hx6 => ?_)
 have hD := Zxl (w := w) (n := nd) (x := x) hc (by omega) (by omega)
 have hc' := hc
 simp only [Bool.and_eq_true] at hc'
 obtain ⟨d, rfl⟩ : ∃ d : Nat, x = (d : Int) := ⟨x.toNat, by omega⟩
 rw [Int.toNat_natCast] at hD
 apply Zln.J3i
 rw [Zxf w2]
 simp only [Zas, Zah, Zar, Zaf]
 apply Zuc.call
 simp only [Zav]
 generalize hh3 : h2 ++ [Zci.cells Zaj [.slice a0 n0 c0 e0, .slice a1 n1 c1 e1] false] = h3
 have s3 : Zba h2.length h2 h3 := by rw [← hh3]; exact Zan
 have l3 : h3.length = h2.length + 1 := by rw [← hh3]; simp
 have w3 : h3[h2.length]? = some (Zlt a0 n0 c0 e0 a1 n1 c1 e1) := by rw [← hh3]; simp [Zlt]
 rw [Zxf w3]
 simp only [Zas, Zah, Zar, Zaf]
 generalize hh4 : h3 ++ [Zci.map [] 0] = h4
 have s4 : Zba h3.length h3 h4 := by rw [← hh4]; exact Zan
 have l4 : h4.length = h3.length + 1 := by rw [← hh4]; simp
 have m4 : h4[h3.length]? = some (.map [] 0) := by rw [← hh4]; simp
 generalize hh5 : h4 ++ [Zci.map [] 0] = h5
 have s5 : Zba h4.length h4 h5 := by rw [← hh5]; exact Zan
 have l5 : h5.length = h4.length + 1 := by rw [← hh5]; simp
 generalize hh6 : h5 ++ [Zci.cells Zld [.slice a0 n0 c0 e0, .slice a1 n1 c1 e1, .map (some h3.length), .map (some h4.length), .bool true] false] = h6
 have s6 : Zba h5.length h5 h6 := by rw [← hh6]; exact Zan
 have o6 : h6[h5.length]? = some (.cells Zld [.slice a0 n0 c0 e0, .slice a1 n1 c1 e1, .map (some h3.length), .map (some h4.length), .bool true] false) := by rw [← hh6]; simp
 have S6 := (S2.cat s3).cat ((s4.cat s5).cat s6)
 have p6 := ((s3.cat s4).cat (s5.cat s6)).get p2 (Own.lt p2)
 have m6 := (s5.cat s6).get m4 (Own.lt m4)
 have hS2 := S2.le
 have rd : Zrr h h5.length h3.length (.slice a0 n0 c0 e0) (.slice a1 n1 c1 e1) w (fun _ => False) true h6 := ⟨S6, by omega, by omega, ⟨_, o6⟩, ⟨[], 0, m6, fun e he => by cases he⟩⟩
 simp only [Zhr, Zbg p6, Zas, Zah, Zar, Zag]
 refine (Yot r b hc'.1 d (by omega) (fun j hj => hj.elim) rd hc'.2).mono ?_
 rintro v h7 ⟨fine, a, k, c, e, rfl, K7, rd7, hok, hbad⟩
 obtain ⟨x7, o7⟩ := rd7.ob
 simp only [Zaf, Zaw, Zat o7, Nat.zero_add, List.getElem?_cons_succ, List.getElem?_cons_zero, Zam]
 cases fine with
 | false =>
  simp only [Bool.not_false, Zcf]
  exact ⟨rd7.same, _, _, _, _, by rw [hD, hbad rfl]; rfl, fun l hl => by rw [hD, hbad rfl] at hl; cases hl⟩
 | true =>
  obtain ⟨l, hl, sl⟩ := hok rfl
  have hsm := (Ztg hl).1
  have hlk : l.length = k := by obtain ⟨_, _, _, _, hh⟩ := sl; exact hh
  simp only [Bool.not_true, Zbh]
  refine (Ybx sl (by omega)).mono ?_
  rintro v h8 ⟨q, c', e', rfl, hq, oq, s8⟩
  simp only [Zaf]
  exact ⟨rd7.same.trans (s8.mono rd7.same.le), _, _, _, _, by rw [hD, hl]; rfl, fun l' hl' => by rw [hD, hl] at hl'; cases hl'; exact hlk⟩
theorem Zxa {h : Zaa} {a0 a1 : Pt} {n0 c0 n1 c1 : Nat} {e0 e1 : Bool} {w : Wd} {nd : Nd} {x : Int} (r : Zlu h a0 n0 c0 a1 n1 c1 w) (b : WB w) :
  Zae pg Zjv [.agg [.slice a0 n0 c0 e0, .slice a1 n1 c1 e1], .agg [.str nd.1, .str nd.2], .int .i64 x] h fun v h' => v = .int .i64 (Zxr w nd x) ∧ Zba h.length h h' := by
 apply Zmy.call
 simp only [Zav]
 generalize hh0 : h ++ [Zci.cells Zaj [.slice a0 n0 c0 e0, .slice a1 n1 c1 e1] false] = h0
 generalize hh1 : h0 ++ [Zci.cells Zad [.str nd.1, .str nd.2] false] = h1
 have s0 : Zba h.length h h0 := by rw [← hh0]; exact Zan
 have s1 : Zba h0.length h0 h1 := by rw [← hh1]; exact Zan
 have w0 : h0[h.length]? = some (Zlt a0 n0 c0 e0 a1 n1 c1 e1) := by rw [← hh0]; simp [Zlt]
 have w1 := s1.get w0 (Own.lt w0)
 have p1 : h1[h0.length]? = some (.cells Zad [.str nd.1, .str nd.2] false) := by rw [← hh1]; simp
 rw [Zxf w1, Zbg p1]
 simp only [Zas, Zah, Zar, Zaf, Zag]
 have S1 := s0.cat s1
 refine (Ybr (nd := nd) (x := x) (r.same S1) b).mono ?_
 rintro v h2 ⟨s2, a, k, c, e, rfl, hk⟩
 simp only [Zcx, Zah, Zaf, Zam, Zar]
 unfold Zxr
 cases hd : Zrp w nd x with
 | none => simp only [Option.isSome_none, Bool.not_false, Zcf]; exact ⟨by trivial, S1.cat s2⟩
 | some l => simp only [Option.isSome_some, Bool.not_true, Zbh]; exact ⟨by rw [hk l hd], S1.cat s2⟩
theorem Yar {h : Zaa} {a0 a1 : Pt} {n0 c0 n1 c1 : Nat} {e0 e1 : Bool} {w : Wd} {nd : Nd} {x : Int} (r : Zlu h a0 n0 c0 a1 n1 c1 w) (b : WB w) :
  Zae pg Zkz [.agg [.slice a0 n0 c0 e0, .slice a1 n1 c1 e1], .agg [.str nd.1, .str nd.2], .int .i64 x] h fun v h' => v = .bool (Zxr w nd x == 1) ∧ Zba h.length h h' := by
 apply Zps.call
 simp only [Zav]
 generalize hh0 : h ++ [Zci.cells Zaj [.slice a0 n0 c0 e0, .slice a1 n1 c1 e1] false] = h0
 generalize hh1 : h0 ++ [Zci.cells Zad [.str nd.1, .str nd.2] false] = h1
 have s0 : Zba h.length h h0 := by rw [← hh0]; exact Zan
 have s1 : Zba h0.length h0 h1 := by rw [← hh1]; exact Zan
 have w0 : h0[h.length]? = some (Zlt a0 n0 c0 e0 a1 n1 c1 e1) := by rw [← hh0]; simp [Zlt]
 have w1 := s1.get w0 (Own.lt w0)
 have p1 : h1[h0.length]? = some (.cells Zad [.str nd.1, .str nd.2] false) := by rw [← hh1]; simp
 rw [Zxf w1, Zbg p1]
 simp only [Zas, Zah, Zar, Zaf, Zag]
 have S1 := s0.cat s1
 refine (Zxa (nd := nd) (x := x) (r.same S1) b).mono ?_
 rintro v h2 ⟨rfl, s2⟩
 simp only [Zau]
 exact ⟨by trivial, S1.cat s2⟩
theorem Ybn {hb : Zaa} {i : Nat} {a0 a1 : Pt} {n0 c0 n1 c1 : Nat} {e0 e1 : Bool} {w : Wd} (r : Zlu hb a0 n0 c0 a1 n1 c1 w) (b : WB w) (hw : Zdy w = true) (d : Nat) (hd10 : d < 10) (ih : 0 < d → Ync (d - 1) hb i (.slice a0 n0 c0 e0) (.slice a1 n1 c1 e1) w) : Ync d hb i (.slice a0 n0 c0 e0) (.slice a1 n1 c1 e1) w := by
 intro A h n O tab hA rd hnd hcost
 have hty := Ztk hnd
 have hcl := Zjq hw hnd
 have hlow := rd.low
 rw [Ynp] at hcost ⊢
 apply Zmc.call
 simp only [Zav]
 generalize hh0 : h ++ [Zci.cells Zad [.str n.1, .str n.2] false] = h0
 have s0 : Zba h.length h h0 := by rw [← hh0]; exact Zan
 have p1 : h0[h.length]? = some (.cells Zad [.str n.1, .str n.2] false) := by rw [← hh0]; simp
 simp only [Zbg p1, Zas, Zah, Zar, Zag]
 refine (Yqp hd10 (by omega)).mono ?_
 rintro v h1 ⟨rfl, s1⟩
 have S1 := s0.cat s1
 have rd1 := rd.step S1
 have p2 := s1.get p1 (Own.lt p1)
 simp only [Zag]
 refine (Yrd rd1 (by omega) (Ymi n d)).mono ?_
 rintro v h2 ⟨rfl, rfl | ⟨g, rfl, hg, hkey⟩⟩
 ·simp only [Zau]
  refine Zap (fun hx => by simp at hx) (fun _ => ?_)
  simp only [Zbg p2, Zas, Zah, Zar, Zag]
  have hS1 := S1.le
  refine (Yqm r b hw hd10 ih (fun j hj => by have := hA j hj; omega) rd1 hnd (by omega)).mono ?_
  rintro v h3 ⟨a, k, c, e, good, rfl, O3, tab3, rd3, F3, hl3, hgood, hbad⟩
  simp only [Zcx, Zah, Zaf, Zam, Zar]
  refine (Ypv rd3 (by omega) (Ymi n d) good (a := a) (k := k) (c := c) (x := e) ?_).mono ?_
  ·intro n' d' hv' he
   obtain ⟨rfl, rfl⟩ := Yne hcl (Zjq hw hv') he
   exact ⟨hgood, hbad⟩
  ·rintro v h4 ⟨O4, rd4, F4⟩
   refine ⟨a, k, c, e, good, rfl, O4, _, rd4, ((FrO.of_same S1).trans F3).trans F4, by simp; omega, fun hb => ?_, hbad⟩
   obtain ⟨a', k', c', x', h1', h2'⟩ := rd4.ok (Ymi n d, .slice a k c e, good) (by simp)
   cases h1'
   exact (h2' n d hnd rfl).1 hb
 ·simp only [Zau]
  refine Zap (fun _ => ?_) (fun hx => absurd (by omega) hx)
  obtain ⟨ka, kn, kc, ke, la, ln, lc, le, ga, gn, gc, ge, ho, v1, e1', v2, e2, v3, e3, _⟩ := rd1.ob
  obtain ⟨a, k, c, x, hx, hok⟩ := rd1.ok _ (List.getElem_mem hg)
  simp only [Zaw, Zat ho, Nat.zero_add, List.getElem?_cons_succ, List.getElem?_cons_zero, Zaf]
  have row : Row h2.length h2 ga gn (Zdl eT (tab.map (·.2.2))) := v3.row (by rw [Zbf Yjb]; simp [e3])
  have rowl : Row h2.length h2 la ln (tab.map (·.2.1)) := v2.row (by simp [e2])
  obtain ⟨il, ol, hla, _, hlc⟩ := rowl.at (k := g) (by omega)
  obtain ⟨im, om, hgl, hga, _, hcell⟩ := Row.el1 Yjb row (k := g) (by omega)
  have hc : Zal h2 (.ptr (some (im, om + g * 1))) = some (.bool tab[g].2.2) := by rw [hcell]; simp [eT]
  have hlc' : Zal h2 (.ptr (some (il, ol + g * 1))) = some (.slice a k c x) := by rw [Nat.mul_one, hlc]; simp [hg, hx]
  simp only [hla, hga, Zaw, Int.toNat_natCast, hc, hlc', Zaf, Zam, true_and]
  refine ⟨by omega, by omega, a, k, c, x, tab[g].2.2, rfl, O, tab, rd1, FrO.of_same S1, by omega, (hok n d hnd hkey).1, (hok n d hnd hkey).2⟩
theorem Yjp {hb : Zaa} {i : Nat} {a0 a1 : Pt} {n0 c0 n1 c1 : Nat} {e0 e1 : Bool} {w : Wd} (r : Zlu hb a0 n0 c0 a1 n1 c1 w) (b : WB w) (hw : Zdy w = true) : ∀ d, d < 10 → Ync d hb i (.slice a0 n0 c0 e0) (.slice a1 n1 c1 e1) w
 | 0, h => Ybn r b hw 0 h fun hd => by omega
 | d + 1, h => Ybn r b hw (d + 1) h fun _ => Yjp r b hw d (by omega)
theorem Ybe {h : Zaa} {a0 a1 : Pt} {n0 c0 n1 c1 : Nat} {e0 e1 : Bool} {w : Wd} {nd : Nd} {x : Int} (r : Zlu h a0 n0 c0 a1 n1 c1 w) (b : WB w) (hnt : nd.2.length ≤ 1048576) :
  Zae pg Zlr [.agg [.slice a0 n0 c0 e0, .slice a1 n1 c1 e1], .agg [.str nd.1, .str nd.2], .int .i64 x] h (Yjs w nd x h) := by
 apply Zpc.call
 simp only [Zav]
 generalize hh0 : h ++ [Zci.cells Zaj [.slice a0 n0 c0 e0, .slice a1 n1 c1 e1] false] = h0
 generalize hh1 : h0 ++ [Zci.cells Zad [.str nd.1, .str nd.2] false] = h1
 have s0 : Zba h.length h h0 := by rw [← hh0]; exact Zan
 have s1 : Zba h0.length h0 h1 := by rw [← hh1]; exact Zan
 have w0 : h0[h.length]? = some (Zlt a0 n0 c0 e0 a1 n1 c1 e1) := by rw [← hh0]; simp [Zlt]
 have w1 := s1.get w0 (Own.lt w0)
 have p1 : h1[h0.length]? = some (.cells Zad [.str nd.1, .str nd.2] false) := by rw [← hh1]; simp
 rw [Zxf w1]
 simp only [Zas, Zah, Zar, Zaf]
 have S1 := s0.cat s1
 have l0 : h0.length = h.length + 1 := by rw [← hh0]; simp
 refine (Ydz (r.same S1) b).mono ?_
 rintro v h2 ⟨b0, d0, f0, b1, d1, f1, ys, rfl, s2, wf, hd0, hd1, _, _⟩
 simp only [Zdq, Zah, Zar, Zaf]
 have w2 := s2.get w1 (Own.lt w1)
 have p2 := s2.get p1 (Own.lt p1)
 have S2 := S1.cat s2
 have hw2 : Zbn h2 (.ptr (some (h.length, 0))) [.slice b0 n0 d0 f0, .slice b1 n1 d1 f1] = some (h2.set h.length (Zlt b0 n0 d0 f0 b1 n1 d1 f1)) := by
  unfold Zlt at w2
  rw [Zca w2 (by simp)]; rfl
 rw [hw2]
 simp only [Zay]
 generalize hh3 : h2.set h.length (Zlt b0 n0 d0 f0 b1 n1 d1 f1) = h3
 have w3 : h3[h.length]? = some (Zlt b0 n0 d0 f0 b1 n1 d1 f1) := by rw [← hh3]; exact Zcy w2
 have S3 : Zba h.length h h3 := by rw [← hh3]; exact S2.set' (Nat.le_refl _)
 have p3 : h3[h0.length]? = some (.cells Zad [.str nd.1, .str nd.2] false) := by rw [← hh3, Zbz (by omega)]; exact p2
 have hle1 := S1.le
 have hlt1 : h.length < h1.length := Own.lt w1
 have wf3 : Zqo h1.length h3 b0 n0 b1 n1 ys w := by
  refine ⟨wf.cls.keep (Nat.le_refl _) fun j hj _ => ?_, wf.ins.keep (Nat.le_refl _) fun j hj _ => ?_, wf.len, fun k x i hx hi => ?_, wf.sep, wf.nn⟩
  ·rw [← hh3, Zbz (by omega)]
  ·rw [← hh3, Zbz (by omega)]
  ·obtain ⟨q1, q2, q3⟩ := wf.need k x i hx hi
   exact ⟨q1, q2, q3.keep (Nat.le_refl _) fun j hj _ => by rw [← hh3, Zbz (by omega)]⟩
 have r3 : Zlu h3 b0 n0 d0 b1 n1 d1 w := wf3.rep hd0 hd1
 rw [Zxf w3, Zbg p3]
 simp only [Zas, Zah, Zar, Zaf, Zag]
 -- whether it is asked rightly
 have asked : Zae pg Zmt [.agg [.slice b0 n0 d0 f0, .slice b1 n1 d1 f1], .agg [.str nd.1, .str nd.2], .int .i64 x] h3 fun v h' => v = .bool (Zdy w && Zdk w nd && (decide (0 ≤ x) && decide (x ≤ 6))) ∧ Zba h3.length h3 h' := by
  apply Zqw.call
  simp only [Zav]
  generalize hg0 : h3 ++ [Zci.cells Zaj [.slice b0 n0 d0 f0, .slice b1 n1 d1 f1] false] = g0
  generalize hg1 : g0 ++ [Zci.cells Zad [.str nd.1, .str nd.2] false] = g1
  have t0 : Zba h3.length h3 g0 := by rw [← hg0]; exact Zan
  have t1 : Zba g0.length g0 g1 := by rw [← hg1]; exact Zan
  have u0 : g0[h3.length]? = some (Zlt b0 n0 d0 f0 b1 n1 d1 f1) := by rw [← hg0]; simp [Zlt]
  have u1 := t1.get u0 (Own.lt u0)
  have q1 : g1[g0.length]? = some (.cells Zad [.str nd.1, .str nd.2] false) := by rw [← hg1]; simp
  rw [Zxf u1, Zbg q1]
  simp only [Zas, Zah, Zar, Zaf, Zag]
  have T1 := t0.cat t1
  refine (Yao (ct := nd.1) (tt := nd.2) (r3.same T1) b hnt).mono ?_
  rintro v g2 ⟨rfl, t2⟩
  simp only [Zam]
  refine Zdg (fun hc => ?_) (fun hc => ⟨by rw [hc]; rfl, T1.cat t2⟩)
  rw [hc]
  refine Yei.mono ?_
  rintro v g3 ⟨rfl, rfl⟩
  simp only [Zam]
  exact ⟨by rw [Bool.true_and]; congr 1; rw [Bool.eq_iff_iff]; simp, T1.cat t2⟩
 refine asked.mono ?_
 rintro v h4 ⟨rfl, s4⟩
 have S4 := S3.cat s4
 have w4 := s4.get w3 (Own.lt w3)
 have p4 := s4.get p3 (Own.lt p3)
 have r4 := r3.same s4
 simp only [Zam]
 refine Zcc (fun hc => ?_) (fun hc => ?_)
 ·exact ⟨S4.cat Zan, _, _, _, _, by rw [Zsh hc]; rfl, fun l hl => by rw [Zsh hc] at hl; cases hl⟩
 ·have hc0 := hc
  simp only [Bool.and_eq_true, decide_eq_true_eq] at hc
  have hD := Zxl (w := w) (n := nd) (x := x) (by simp [hc.1.1, hc.1.2]) hc.2.1 hc.2.2
  obtain ⟨d, rfl⟩ : ∃ d : Nat, x = (d : Int) := ⟨x.toNat, by omega⟩
  rw [Int.toNat_natCast] at hD
  rw [Zxf w4]
  simp only [Zas, Zah, Zar, Zaf, Zav]
  generalize hh5 : h4 ++ [Zci.cells Zby [.slice b0 n0 d0 f0, .slice b1 n1 d1 f1, .slice none 0 0 true, .slice none 0 0 true, .slice none 0 0 true] false] = h5
  have s5 : Zba h4.length h4 h5 := by rw [← hh5]; exact Zan
  have l5 : h5.length = h4.length + 1 := by rw [← hh5]; simp
  have o5 : h5[h4.length]? = some (.cells Zby [.slice b0 n0 d0 f0, .slice b1 n1 d1 f1, .slice none 0 0 true, .slice none 0 0 true, .slice none 0 0 true] false) := by rw [← hh5]; simp
  have p5 := s5.get p4 (Own.lt p4)
  have rd : Zwq h4 h4.length (.slice b0 n0 d0 f0) (.slice b1 n1 d1 f1) w (fun _ => False) h5 [h4.length] [] := by
   refine ⟨s5, fun j hj => by simp at hj; omega, by simp, ⟨none, 0, 0, true, none, 0, 0, true, none, 0, 0, true, o5, Vec.mk0, rfl, Vec.mk0, rfl, Vec.mk0, rfl, rfl, by simp⟩, fun p hp => by cases hp⟩
  simp only [Zbg p5, Zas, Zah, Zar, Zag]
  have hcp := Yng (d := d) (by omega)
  refine (Yjp r4 b hc.1.1 d (by omega) (fun j hj => hj.elim) rd hc.1.2 (by simp; omega)).mono ?_
  rintro v h6 ⟨a, k, c, e, good, rfl, O6, tab6, rd6, F6, hl6, hgood, hbad⟩
  simp only [Zcx, Zah, Zaf, Zam, Zar]
  refine ⟨S4.cat rd6.same, a, k, c, e, ?_, ?_⟩
  ·rw [hD]
   cases good with
   | false => rw [hbad rfl]; rfl
   | true => obtain ⟨l, _, hl⟩ := hgood rfl; rw [hl]; rfl
  ·intro l hl
   rw [hD] at hl
   cases good with
   | false => rw [hbad rfl] at hl; cases hl
   | true => obtain ⟨l', sl, hl'⟩ := hgood rfl; rw [hl'] at hl; cases hl; obtain ⟨_, _, _, _, hh⟩ := sl; exact hh
theorem Zxh {h : Zaa} {a0 a1 : Pt} {n0 c0 n1 c1 : Nat} {e0 e1 : Bool} {w : Wd} {nd : Nd} {x : Int} (r : Zlu h a0 n0 c0 a1 n1 c1 w) (b : WB w) (hnt : nd.2.length ≤ 1048576) :
  Zae pg Zjy [.agg [.slice a0 n0 c0 e0, .slice a1 n1 c1 e1], .agg [.str nd.1, .str nd.2], .int .i64 x] h fun v h' => v = .int .i64 (Zxr w nd x) ∧ Zba h.length h h' := by
 apply Znf.call
 simp only [Zav]
 generalize hh0 : h ++ [Zci.cells Zaj [.slice a0 n0 c0 e0, .slice a1 n1 c1 e1] false] = h0
 generalize hh1 : h0 ++ [Zci.cells Zad [.str nd.1, .str nd.2] false] = h1
 have s0 : Zba h.length h h0 := by rw [← hh0]; exact Zan
 have s1 : Zba h0.length h0 h1 := by rw [← hh1]; exact Zan
 have w0 : h0[h.length]? = some (Zlt a0 n0 c0 e0 a1 n1 c1 e1) := by rw [← hh0]; simp [Zlt]
 have w1 := s1.get w0 (Own.lt w0)
 have p1 : h1[h0.length]? = some (.cells Zad [.str nd.1, .str nd.2] false) := by rw [← hh1]; simp
 rw [Zxf w1, Zbg p1]
 simp only [Zas, Zah, Zar, Zaf, Zag]
 have S1 := s0.cat s1
 refine (Ybe (nd := nd) (x := x) (r.same S1) b hnt).mono ?_
 rintro v h2 ⟨s2, a, k, c, e, rfl, hk⟩
 simp only [Zcx, Zah, Zaf, Zam, Zar]
 unfold Zxr
 cases hd : Zrp w nd x with
 | none => simp only [Option.isSome_none, Bool.not_false, Zcf]; exact ⟨by trivial, S1.cat s2⟩
 | some l => simp only [Option.isSome_some, Bool.not_true, Zbh]; exact ⟨by rw [hk l hd], S1.cat s2⟩
theorem Yay {h : Zaa} {a0 a1 : Pt} {n0 c0 n1 c1 : Nat} {e0 e1 : Bool} {w : Wd} {nd : Nd} {x : Int} (r : Zlu h a0 n0 c0 a1 n1 c1 w) (b : WB w) (hnt : nd.2.length ≤ 1048576) :
  Zae pg Zlk [.agg [.slice a0 n0 c0 e0, .slice a1 n1 c1 e1], .agg [.str nd.1, .str nd.2], .int .i64 x] h fun v h' => v = .bool (Zxr w nd x == 1) ∧ Zba h.length h h' := by
 apply Zpo.call
 simp only [Zav]
 generalize hh0 : h ++ [Zci.cells Zaj [.slice a0 n0 c0 e0, .slice a1 n1 c1 e1] false] = h0
 generalize hh1 : h0 ++ [Zci.cells Zad [.str nd.1, .str nd.2] false] = h1
 have s0 : Zba h.length h h0 := by rw [← hh0]; exact Zan
 have s1 : Zba h0.length h0 h1 := by rw [← hh1]; exact Zan
 have w0 : h0[h.length]? = some (Zlt a0 n0 c0 e0 a1 n1 c1 e1) := by rw [← hh0]; simp [Zlt]
 have w1 := s1.get w0 (Own.lt w0)
 have p1 : h1[h0.length]? = some (.cells Zad [.str nd.1, .str nd.2] false) := by rw [← hh1]; simp
 rw [Zxf w1, Zbg p1]
 simp only [Zas, Zah, Zar, Zaf, Zag]
 have S1 := s0.cat s1
 refine (Zxh (nd := nd) (x := x) (r.same S1) b hnt).mono ?_
 rintro v h2 ⟨rfl, s2⟩
 simp only [Zau]
 exact ⟨by trivial, S1.cat s2⟩
end Go.Sim

set_option linter.unusedVariables false
set_option linter.unusedSimpArgs false
set_option maxRecDepth 20000
namespace Go.Sim
open Go Go.RowKit

end Go.Sim

set_option linter.unusedVariables false
set_option linter.unusedSimpArgs false
set_option maxRecDepth 20000
namespace Go.Sim
open Go Go.RowKit
theorem Zct.off {α : Type} {ty : TypeId} {enc : α → List Zaq} {b : Nat} {h h' : Zaa} {a : Pt} {n : Nat} {l : List α} (f : Zct ty enc b h a n l) (hk : ∀ i, a = some (i, 0) → n ≠ 0 → i < h.length → h'[i]? = h[i]?) : Zct ty enc b h' a n l := by
 obtain ⟨hl, h0 | ⟨i, ha, hb, hi⟩⟩ := f
 ·exact ⟨hl, .inl h0⟩
 ·by_cases hn : n = 0
  ·exact ⟨hl, .inl hn⟩
  ·exact ⟨hl, .inr ⟨i, ha, hb, by rw [hk i ha hn (Own.lt hi)]; exact hi⟩⟩
structure Yuo (H : Nat) (a0 : Pt) (n0 : Nat) (a1 : Pt) (n1 : Nat) (ys : List EI) : Prop where
 cls : ∀ i, a0 = some (i, 0) → n0 ≠ 0 → i < H
 ins : ∀ i, a1 = some (i, 0) → n1 ≠ 0 → i < H
 need : ∀ (q : Nat) (x : EI), ys[q]? = some x → ∀ j, x.a = some (j, 0) → x.n ≠ 0 → j < H
theorem Zqo.bel {b : Nat} {h : Zaa} {a0 a1 : Pt} {n0 n1 : Nat} {ys : List EI} {w : Wd} (f : Zqo b h a0 n0 a1 n1 ys w) : Yuo h.length a0 n0 a1 n1 ys :=
 ⟨fun i hi hn => (f.cls.in i hi hn).2, fun i hi hn => (f.ins.in i hi hn).2, fun q x hx j hj hn => by
  have hq := (List.getElem?_eq_some_iff.1 hx).1
  exact ((f.need q x (w.is[q]'(by have := f.len; omega)) hx (List.getElem?_eq_getElem _)).2.2.in j hj hn).2⟩
end Go.Sim

set_option linter.unusedVariables false
namespace Go.Sim
open Go Go.RowKit
end Go.Sim

set_option linter.unusedVariables false
set_option linter.unusedSimpArgs false
set_option maxRecDepth 20000
namespace Go.Sim
open Go Go.RowKit

theorem lawIsUnique {h : Zaa} {a0 a1 : Pt} {n0 c0 n1 c1 : Nat} {e0 e1 : Bool} {w : Wd} {nd0 : Nd} {x1 : Int} (r : Zlu h a0 n0 c0 a1 n1 c1 w) (hb : Ysc w) (hb0 : Yoy nd0) :
  Zae pg Zjh [.agg [.slice a0 n0 c0 e0, .slice a1 n1 c1 e1], .agg [.str nd0.1, .str nd0.2], .int .i64 x1] h fun v _ => v = .bool true := by
 apply Zjj.call
 simp only [Zav]
 generalize hg0 : h ++ [Zci.cells Zek [.slice a0 n0 c0 e0, .slice a1 n1 c1 e1] false] = g0
 have sg0 : Zba h.length h g0 := by rw [← hg0]; exact Zan
 have xw0 : g0[h.length]? = some (.cells Zek [.slice a0 n0 c0 e0, .slice a1 n1 c1 e1] false) := by rw [← hg0]; simp
 generalize hg1 : g0 ++ [Zci.cells Zjz [.str nd0.1, .str nd0.2] false] = g1
 have sg1 : Zba g0.length g0 g1 := by rw [← hg1]; exact Zan
 have xw_g1 := sg1.get xw0 (Own.lt xw0)
 have S_g1 := sg0.cat sg1
 have xn0_g1 : g1[g0.length]? = some (.cells Zjz [.str nd0.1, .str nd0.2] false) := by rw [← hg1]; simp
 simp only [Zbg xw_g1, Zbg xn0_g1, Zas, Zah, Zar, Zaf, Zag, Zdq, Zau, Zam, Zcx, Zay, true_and]
 refine (Yhy (r.same S_g1) hb (x := 1048576) (by omega)).mono ?_
 rintro v k11 ⟨y, rfl, sk11, hy⟩
 have xw_k11 := sk11.get xw_g1 (Own.lt xw_g1)
 have xn0_k11 := sk11.get xn0_g1 (Own.lt xn0_g1)
 have S_k11 := S_g1.cat sk11
 simp only [Zau]
 refine Zap (fun _ => by trivial) (fun hge => ?_)
 have hyy := hy (by omega)
 have b : WB w := .of hb (by omega)
 have hbl0 := hb0.1
 have hbm0 := hb0.2.1
 unfold Zul at hbl0 hbm0
 simp only [Zbg xw_k11, Zbg xn0_k11, Zbg xw_g1, Zbg xn0_g1, Zas, Zah, Zar, Zaf, Zag, Zdq, Zau, Zam, Zcx, Zay, true_and]
 refine (Zvf hbl0 hbm0 (x := y) (by omega)).mono ?_
 rintro v k12 ⟨z0, rfl, sk12, hz0⟩
 have xw_k12 := sk12.get xw_k11 (Own.lt xw_k11)
 have xn0_k12 := sk12.get xn0_k11 (Own.lt xn0_k11)
 have S_k12 := S_k11.cat sk12
 simp only [Zau]
 refine Zap (fun _ => by trivial) (fun hge0 => ?_)
 have hzz0 := hz0 (by omega)
 have hnt0 : nd0.2.length ≤ 1048576 := by omega
 have hnc0 : nd0.1.length ≤ 1048576 := by omega
 simp only [Zbg xw_k12, Zbg xn0_k12, Zbg xw_k11, Zbg xn0_k11, Zas, Zah, Zar, Zaf, Zag, Zdq, Zau, Zam, Zcx, Zay, true_and]
 refine (Ztl (r.same S_k12) b).mono ?_
 rintro v k13 ⟨b0, d0, f0, b1, d1, f1, ys, rfl, hd0, hd1, sk13, W3⟩
 have xw_k13 := sk13.get xw_k12 (Own.lt xw_k12)
 have xn0_k13 := sk13.get xn0_k12 (Own.lt xn0_k12)
 have S_k13 := S_k12.cat sk13
 simp only [Zbg xw_k13, Zbg xn0_k13, Zbg xw_k12, Zbg xn0_k12, Zas, Zah, Zar, Zaf, Zag, Zdq, Zau, Zam, Zcx, Zay, true_and]
 refine (Zsg (c := nd0.1) (t := nd0.2)).mono ?_
 rintro v k14 ⟨rfl, sk14⟩
 have xw_k14 := sk14.get xw_k13 (Own.lt xw_k13)
 have xn0_k14 := sk14.get xn0_k13 (Own.lt xn0_k13)
 have S_k14 := S_k13.cat sk14
 simp only [Zbg xw_k14, Zbg xn0_k14, Zbg xw_k13, Zbg xn0_k13, Zas, Zah, Zar, Zaf, Zag, Zdq, Zau, Zam, Zcx, Zay, true_and]
 refine (Yay (x := x1) ((W3.rep hd0 hd1).same sk14) b hnt0).mono ?_
 rintro v k15 ⟨rfl, sk15⟩
 have xw_k15 := sk15.get xw_k14 (Own.lt xw_k14)
 have xn0_k15 := sk15.get xn0_k14 (Own.lt xn0_k14)
 have S_k15 := S_k14.cat sk15
 simp only [Zbg xw_k15, Zbg xn0_k15, Zbg xw_k14, Zbg xn0_k14, Zas, Zah, Zar, Zaf, Zag, Zdq, Zau, Zam, Zcx, Zay, true_and]
 refine (Ztl (r.same S_k15) b).mono ?_
 rintro v k16 ⟨p0, q0, g0', p1, q1, g1', zs, rfl, hq0, hq1, sk16, W6⟩
 have xw_k16 := sk16.get xw_k15 (Own.lt xw_k15)
 have xn0_k16 := sk16.get xn0_k15 (Own.lt xn0_k15)
 have S_k16 := S_k15.cat sk16
 simp only [Zbg xw_k16, Zbg xn0_k16, Zbg xw_k15, Zbg xn0_k15, Zas, Zah, Zar, Zaf, Zag, Zdq, Zau, Zam, Zcx, Zay, true_and]
 rw [Zgr]
 generalize hg2 : k16 ++ [Zci.cells Zaj [.slice p0 n0 q0 g0', .slice p1 n1 q1 g1'] false] = g2
 have sg2 : Zba k16.length k16 g2 := by rw [← hg2]; exact Zan
 have xw_g2 := sg2.get xw_k16 (Own.lt xw_k16)
 have xn0_g2 := sg2.get xn0_k16 (Own.lt xn0_k16)
 have S_g2 := S_k16.cat sg2
 have xi_g2 : g2[k16.length]? = some (.cells Zaj [.slice p0 n0 q0 g0', .slice p1 n1 q1 g1'] false) := by rw [← hg2]; simp
 simp only [Zbg xw_g2, Zbg xn0_g2, Zbg xi_g2, Zbg xw_k15, Zbg xn0_k15, Zas, Zah, Zar, Zaf, Zag, Zdq, Zau, Zam, Zcx, Zay, true_and]
 have W7 := W6.same sg2
 refine (Zsg (c := nd0.1) (t := nd0.2)).mono ?_
 rintro v k17 ⟨rfl, sk17⟩
 have xw_k17 := sk17.get xw_g2 (Own.lt xw_g2)
 have xn0_k17 := sk17.get xn0_g2 (Own.lt xn0_g2)
 have xi_k17 := sk17.get xi_g2 (Own.lt xi_g2)
 have S_k17 := S_g2.cat sk17
 simp only [Zbg xw_k17, Zbg xn0_k17, Zbg xi_k17, Zbg xw_g2, Zbg xn0_g2, Zbg xi_g2, Zas, Zah, Zar, Zaf, Zag, Zdq, Zau, Zam, Zcx, Zay, true_and]
 refine (Yar (x := x1) ((W7.rep hq0 hq1).same sk17) b).mono ?_
 rintro v k18 ⟨rfl, sk18⟩
 have xw_k18 := sk18.get xw_k17 (Own.lt xw_k17)
 have xn0_k18 := sk18.get xn0_k17 (Own.lt xn0_k17)
 have xi_k18 := sk18.get xi_k17 (Own.lt xi_k17)
 have S_k18 := S_k17.cat sk18
 simp only [Zcx, Zah, Zar, Zaf, Zag, Zau, Zam, beq_self_eq_true, eq_self, decide_true, Bool.not_true, Zbh]
 simp only [Zbg xw_k18, Zbg xn0_k18, Zbg xi_k18, Zbg xw_k17, Zbg xn0_k17, Zbg xi_k17, Zas, Zah, Zar, Zaf, Zag, Zdq, Zau, Zam, Zcx, Zay, true_and]
 refine (Ztl (r.same S_k18) b).mono ?_
 rintro v k19 ⟨u0, v0, j0, u1, v1, j1, ts, rfl, hv0, hv1, sk19, W10⟩
 have xw_k19 := sk19.get xw_k18 (Own.lt xw_k18)
 have xn0_k19 := sk19.get xn0_k18 (Own.lt xn0_k18)
 have xi_k19 := sk19.get xi_k18 (Own.lt xi_k18)
 have S_k19 := S_k18.cat sk19
 simp only [Zbg xw_k19, Zbg xn0_k19, Zbg xi_k19, Zbg xw_k18, Zbg xn0_k18, Zbg xi_k18, Zas, Zah, Zar, Zaf, Zag, Zdq, Zau, Zam, Zcx, Zay, true_and]
 refine (Yho ((((W7.rep hq0 hq1).same sk17).same sk18).same sk19) (W10.rep hv0 hv1) b).mono ?_
 rintro v k20 ⟨rfl, sk20⟩
 have xw_k20 := sk20.get xw_k19 (Own.lt xw_k19)
 have xn0_k20 := sk20.get xn0_k19 (Own.lt xn0_k19)
 have xi_k20 := sk20.get xi_k19 (Own.lt xi_k19)
 have S_k20 := S_k19.cat sk20
 simp only [Zam, Bool.not_true, Zbh]
end Go.Sim

set_option linter.unusedVariables false
namespace Go.Sim
open Go Go.RowKit
end Go.Sim
