/- A part of the proof of a statement of this seat: see the text that holds the theorem. No condition. -/
import Derived.Test.YtlljbdepamknoaaGreatDoorPTCSLevel
import Derived.Test.YtlljbdepamknoaaGreatDoorCAllDa
import Derived.Test.YtlljbdepamknoaaGreatDoorPTCSFold
import Derived.Test.YtlljbdepamknoaaGreatDoorNm
set_option linter.unusedVariables false
set_option linter.unusedSimpArgs false
set_option linter.all false
set_option linter.unusedVariables false
set_option linter.unusedSimpArgs false
set_option maxRecDepth 20000
namespace Go.Sim
open Go Go.RowKit

theorem Yqh.at {w : Wd} {A : Nat → Prop} {h : Zaa} {es : List ME} (ok : Yqh w A h es) {n : Nd} {d : Nat} (hv : Zdk w n = true) (s : List Nat) (hs : s = Zzv n d) {K : Option Zaq → Prop} (h0 : K none)
  (h1 : ∀ a k c x l, SL A h a k l → Zox (wk w) Zcw d n = some l → K (some (.slice a k c x))) : Zre es s K := by
 obtain ⟨r, hr, hm⟩ := Zsr es s 0 fun e he => by obtain ⟨s, a, n, c, x, l, h, _⟩ := ok e he; exact ⟨s, h⟩
 unfold Zre
 rw [hr]
 match r, hm with
 | none, _ => exact h0
 | some (j, v), hm =>
  obtain ⟨e, he, e1, e2⟩ := hm j v rfl
  obtain ⟨s', a, k, c, x, l, k1, k2, k3, k4⟩ := ok e he
  rw [k1] at e1
  cases e1
  rw [k2] at e2
  subst e2
  exact h1 _ _ _ _ _ k3 (k4 n d hv hs)
theorem Yqh.put {w : Wd} {A : Nat → Prop} {h : Zaa} (hw : Zdy w = true) {es : List ME} (ok : Yqh w A h es) {clk : Nat} {n : Nd} {d : Nat} (hv : Zdk w n = true) {a : Pt} {k c : Nat} {x : Bool} {l : List (List Nat)} (sl : SL A h a k l) (hl : Zox (wk w) Zcw d n = some l) {K : List ME → Nat → Prop} (hK : ∀ es' clk', Yqh w A h es' → K es' clk') :
  Yds es clk (Zzv n d) (.slice a k c x) K := by
 have new : ∀ q : Nat, ∃ s a' k' c' x' l, ((Zaq.str (Zzv n d), Zaq.slice a k c x, q) : ME).1 = .str s ∧ ((Zaq.str (Zzv n d), Zaq.slice a k c x, q) : ME).2.1 = .slice a' k' c' x' ∧ SL A h a' k' l ∧ ∀ nd d, Zdk w nd = true → s = Zzv nd d → Zox (wk w) Zcw d nd = some l := by
  intro q
  refine ⟨_, _, _, _, _, l, rfl, rfl, sl, fun n' d' hv' he => ?_⟩
  obtain ⟨rfl, rfl⟩ := Ygh (Zjq hw hv) (Zjq hw hv') he
  exact hl
 obtain ⟨r, hr, _⟩ := Zsr es (Zzv n d) 0 fun e he => by obtain ⟨s, a, n, c, x, l, h, _⟩ := ok e he; exact ⟨s, h⟩
 unfold Yds
 rw [hr]
 match r with
 | none =>
  refine hK _ _ fun e he => ?_
  rcases List.mem_append.1 he with he | he
  ·exact ok e he
  ·rw [List.mem_singleton] at he
   subst he
   exact new clk
 | some (j, v) =>
  refine hK _ _ fun e he => ?_
  rcases Zte he with he | ⟨y, hy, rfl⟩
  ·exact ok e he
  ·exact new y.2.2
def Yix (d : Nat) (hb : Zaa) (i m : Nat) (u v : Zaq) (w : Wd) (A : Nat → Prop) (n : Nd) (h : Zaa) (x : Zaq) (h' : Zaa) : Prop :=
 ∃ fine a k c e, x = .slice a k c e ∧ Kp i m h h' ∧ Zrr hb i m u v w A fine h' ∧ (fine = true → ∃ l, Zox (wk w) Zcw d n = some l ∧ SL A h' a k l) ∧ (fine = false → Zox (wk w) Zcw d n = none)
def Ytn (d : Nat) (hb : Zaa) (i m : Nat) (u v : Zaq) (w : Wd) : Prop := ∀ {A : Nat → Prop} {h : Zaa} {n : Nd}, (∀ j, A j → j < h.length) → Zrr hb i m u v w A true h → Zdk w n = true →
 Zae pg Zix [.ptr (some (i, 0)), .agg [.str n.1, .str n.2], .int .i64 (d : Int)] h (Yix d hb i m u v w A n h)
theorem Yix.of {d : Nat} {hb : Zaa} {i m : Nat} {u v : Zaq} {w : Wd} {A : Nat → Prop} {n : Nd} {h h1 : Zaa} {x : Zaq} {h' : Zaa} (k : Kp i m h h1) (q : Yix d hb i m u v w A n h1 x h') : Yix d hb i m u v w A n h x h' := by
 obtain ⟨fine, a, kk, c, e, h1, h2, h3⟩ := q
 exact ⟨fine, a, kk, c, e, h1, k.trans h2, h3⟩
theorem Yme : pg.underlying Zma = some (.slice Zbw) := by kernel_rfl
theorem Ynd : pg.cellsOf Zbw = 1 := by kernel_rfl
theorem Yob : pg.okElem Zbw = true := by kernel_rfl
theorem Yna : pg.bytesOf Zbw ≤ 127 := Nat.le_of_ble_eq_true (by kernel_rfl)
theorem Yix.bad {d : Nat} {hb : Zaa} {i m : Nat} {u v : Zaq} {w : Wd} {A : Nat → Prop} {n : Nd} {h h1 : Zaa} (k : Kp i m h h1) (rd : Zrr hb i m u v w A true h1) (hx : Zox (wk w) Zcw d n = none) :
  Zcp (Zbn h1 (.ptr (some (i, 0 + 4))) [.bool false]) fun h2 => Yix d hb i m u v w A n h (.slice none 0 0 true) h2 := by
 obtain ⟨x3, ho⟩ := rd.ob
 rw [Zca ho (by simp)]
 simp only [Zay, putRow, List.take_succ_cons, List.take_zero, List.length_cons, List.length_nil, List.drop_succ_cons, List.drop_zero, List.drop_nil, List.cons_append, List.nil_append, List.append_nil]
 refine ⟨false, _, _, _, _, rfl, k.trans ⟨by simp, fun j _ h1 _ => Zbz (fun e => h1 e.symm)⟩, ?_, fun h => (by cases h), fun _ => hx⟩
 obtain ⟨es, clk, hmm, ok⟩ := rd.mp
 have hlt := rd.lt
 have hge := rd.ge
 refine ⟨⟨by simp; exact rd.same.le, fun j hj => by rw [Zbz (by omega)]; exact rd.same.eq j hj⟩, rd.ge, rd.lt, ⟨x3, Zcy ho⟩, ⟨es, clk, by rw [Zbz (by omega)]; exact hmm, fun e he => ?_⟩⟩
 obtain ⟨s, a, n, c, x, l, k1, k2, k3, k4⟩ := ok e he
 exact ⟨s, a, n, c, x, l, k1, k2, k3.agree (fun q hq ⟨l, hl⟩ _ => Zbz (fun e => (rd.sl_ne hl).1 e.symm)) (fun _ _ h => h), k4⟩
theorem Yfm {hb : Zaa} {i m : Nat} {a0 a1 : Pt} {n0 c0 n1 c1 : Nat} {e0 e1 : Bool} {w : Wd} (r : Zlu hb a0 n0 c0 a1 n1 c1 w) (b : WB w) (hw : Zdy w = true) (d : Nat) (hd10 : d < 10)
  (ih : 0 < d → Ytn (d - 1) hb i m (.slice a0 n0 c0 e0) (.slice a1 n1 c1 e1) w) : Ytn d hb i m (.slice a0 n0 c0 e0) (.slice a1 n1 c1 e1) w := by
 intro A h n hA rd hnd
 have hty := Ztk hnd
 have hcl := Zjq hw hnd
 apply Zbt.call
 simp only [Zav]
 generalize hh0 : h ++ [Zci.cells Zad [.str n.1, .str n.2] false] = h0
 have s0 : Zba h.length h h0 := by rw [← hh0]; exact Zan
 have p1 : h0[h.length]? = some (.cells Zad [.str n.1, .str n.2] false) := by rw [← hh0]; simp
 have rd0 := rd.step s0
 obtain ⟨x3, ho⟩ := rd0.ob
 have hml := rd.ml
 have hil := rd.il
 simp only [Zbg p1, Zat ho, Nat.zero_add, List.getElem?_cons_succ, List.getElem?_cons_zero, Zhr, Zaw, Ycp, Zas, Zah, Zar, Zag, Zau, true_and]
 refine (Ypg hd10 (by omega)).mono ?_
 rintro v h1 ⟨rfl, s1⟩
 have S1 := s0.cat s1
 have rd1 := rd.step S1
 have p1 := s1.get p1 (Own.lt p1)
 have o1 := s1.get ho (Own.lt ho)
 obtain ⟨es, clk, hm1, ok⟩ := rd1.mp
 simp only [Zag, Zat o1, List.getElem?_cons_succ, List.getElem?_cons_zero, true_and, Zfi, hm1]
 refine ok.at hnd _ rfl ?_ ?_
 ·simp only [Option.getD_none, Zam, Zaf, Option.isSome_none]
  refine Zdg (fun h => by cases h) (fun _ => ?_)
  refine Zdg (fun h => by cases h) (fun _ => ?_)
  apply Zbt.J4i
  simp only [Zav]
  generalize hh2 : h1 ++ [Zci.cells Zaz [] false] = h2
  have s2 : Zba h1.length h1 h2 := by rw [← hh2]; exact Zan
  have q2 : h2[h1.length]? = some (.cells Zaz (Zdl eS []) false) := by rw [← hh2]; simp
  have p2 := s2.get p1 (Own.lt p1)
  have o2 := s2.get o1 (Own.lt o1)
  have S2 := S1.cat s2
  have rd2 := rd.step S2
  have hlt := rd.lt
  simp only [Zeb o2 (show 0 + 2 ≤ _ by simp), Zbg p2, Zhr, Zaw, Nat.add_zero, Nat.zero_add, List.drop_zero, List.take_succ_cons, List.take_zero, Zas, Zah, Zar, Zaf, Zag, true_and]
  refine (Zzq (nd := n) (r.same rd2.same) b).mono ?_
  rintro v h3 ⟨s3, ca, cn, cc, ce, rfl, fc⟩
  have hcin := Ygd w n
  have hcl' := fc.1
  have hcnl : cn ≤ 1048576 := by have := Zyw (Zll n) w.is; have := b.li; unfold Zja at hcl'; omega
  have rowc : Row h3.length h3 ca cn (Zdl eI (Zja w n)) := by simpa using Zct.row Zye fc
  have S3 := S2.cat s3
  have rd3 := rd.step S3
  have p3 := s3.get p2 (Own.lt p2)
  have q3 := s3.get q2 (Own.lt q2)
  have hs1 := S1.le
  have hs2 := s2.le
  simp only [Zaf]
  refine Zbt.L6ind (J := fun (g : Nat) a9 n9 c9 e9 x54 h' => x54 = (g : Int) ∧ g ≤ cn ∧ ∃ q out, a9 = some (q, 0) ∧ h.length ≤ q ∧ h'[q]? = some (.cells Zaz (Zdl eS out) false) ∧ out.length = n9 ∧ Zpp out ∧
   Zia (wk w) Zcw (Zox (wk w) Zcw (d - 1)) d n out ((Zja w n).drop g) = Zox (wk w) Zcw d n ∧ Zrr hb i m (.slice a0 n0 c0 e0) (.slice a1 n1 c1 e1) w (fun j => A j ∨ j = q) true h' ∧ Kp i m h h' ∧
   h'[h.length]? = some (.cells Zad [.str n.1, .str n.2] false) ∧ Zct Zjb eI h2.length h' ca cn (Zja w n)) (m := fun g => cn - g) (hr := ?_) (g := 0) (hj := ?_) ..
  ·rintro g a9 n9 c9 e9 x54 h' ⟨rfl, hg, q, out, rfl, hql, hq, hqn, hsm, hcand, rdg, Kg, hp, rowg⟩ R6 hR
   unfold Zbt.L6t
   refine Zap (fun hlt => ?_) (fun hge => ?_)
   ·obtain ⟨im, om, hgl, hca, _, hcell⟩ := Row.i64 (show Row h'.length h' ca cn (Zdl eI (Zja w n)) by simpa using Zct.row Zye rowg) (k := g) (by omega)
    obtain ⟨k, hk, hkl⟩ := hcin _ (List.getElem_mem hgl)
    have hkk : (Zja w n)[g] = (k : Int) := hk
    rw [hkk] at hcell
    obtain ⟨x3', ho'⟩ := rdg.ob
    obtain ⟨ii, oi, hki, na, nn, ncp, ne, rfl, _, hri, _, _, _, hrow, hnl⟩ := (r.same rdg.same).inst (k := k) (by have := r.len1; omega)
    have hbk := b.is _ (List.getElem_mem hkl)
    have hl1 := r.len1
    simp only [hca, Zaw, Int.toNat_natCast, hcell, Zau, Zat ho', Nat.zero_add, List.getElem?_cons_succ, List.getElem?_cons_zero, Zaf, hri, Zas, Zah, Zar, Zag, Zat hp, true_and]
    refine ⟨by omega, by omega, ?_⟩
    refine (Yog (i := w.is[k]) (t := n.2) hrow (by omega)).mono ?_
    rintro v h5 ⟨s5, ma, mn, mc, me, rfl, fm⟩
    rw [← hca]
    have hneeds : (wk w).needs (k : Int) n.2 = Zgj w.is[k] n.2 := by show Zgj (Ydr w (k : Int)) n.2 = _; rw [Ygf hkl]
    have rd5 := rdg.step s5
    have q5 := s5.get hq (Own.lt hq)
    have p5 := s5.get hp (Own.lt hp)
    have row5 : Zct Zjb eI h2.length h5 ca cn (Zja w n) := rowg.same s5
    have K5 := Kg.trans (Kp.of_same s5)
    obtain ⟨x5, o5⟩ := rd5.ob
    have hdrop : (Zja w n).drop g = (k : Int) :: (Zja w n).drop (g + 1) := by rw [List.drop_eq_getElem_cons hgl, hkk]
    rw [hdrop] at hcand
    have skip : Zia (wk w) Zcw (Zox (wk w) Zcw (d - 1)) d n out ((Zja w n).drop (g + 1)) = Zox (wk w) Zcw d n → Zbt.J41 (Yix d hb i m (.slice a0 n0 c0 e0) (.slice (some (ii, oi)) n1 c1 e1) w A n h) R6 (g : Int) (cn : Int) ca cn cc ce (some (i, 0)) h.length 0 (d : Int) (some (q, 0)) n9 c9 e9 h5 := by
     intro hc
     apply Zbt.J41i
     rw [Zbr (by omega)]
     exact hR (g + 1) _ _ _ _ _ _ (by omega) ⟨rfl, by omega, q, out, rfl, hql, q5, hqn, hsm, hc, rd5, K5, p5, row5⟩
    simp only [Zcx, Zah, Zaf, Zam, Zar, Zat o5, List.getElem?_cons_succ, List.getElem?_cons_zero, true_and]
    refine Zcc (fun hok => ?_) (fun hok => ?_)
    ·refine skip ?_
     rw [← hcand, Zyc]
     rw [hneeds]
     cases hh : Zgj w.is[k] n.2 with
     | none => rfl
     | some _ => rw [hh] at hok; cases hok
    ·obtain ⟨ms, hms⟩ := Option.isSome_iff_exists.1 hok
     have hms3 := Yax hw hkl hms
     rw [hms] at fm hneeds
     simp only [Option.getD_some] at fm
     have hmn := fm.1
     have go : (ms = [] ∨ 0 < d) → Zbt.J10 (Yix d hb i m (.slice a0 n0 c0 e0) (.slice (some (ii, oi)) n1 c1 e1) w A n h) R6 ma mn mc me (some (i, 0)) (d : Int) h.length 0 (some (q, 0)) n9 c9 e9 (k : Int) ca cn cc ce (cn : Int) (g : Int) h5 := by
      intro hd
      apply Zbt.J10i
      simp only [Zav]
      generalize hh6 : h5 ++ [Zci.cells Zaz [] false] = h6
      generalize hh7 : h6 ++ [Zci.cells Zbw [.slice (some (h5.length, 0)) 0 0 true] false] = h7
      have s6 : Zba h5.length h5 h6 := by rw [← hh6]; exact Zan
      have s7 : Zba h6.length h6 h7 := by rw [← hh7]; exact Zan
      have l6 : h6.length = h5.length + 1 := by rw [← hh6]; simp
      have l7 : h7.length = h6.length + 1 := by rw [← hh7]; simp
      have r6 : h6[h5.length]? = some (.cells Zaz (Zdl eS []) false) := by rw [← hh6]; simp
      have r7 := s7.get r6 (Own.lt r6)
      have c7 : h7[h6.length]? = some (.cells Zbw [.slice (some (h5.length, 0)) 0 0 true] false) := by rw [← hh7]; simp
      have S7 := s6.cat s7
      have hql5 := Own.lt q5
      have hle3 := s3.le
      have hK5 := K5.le
      have hAA : ∀ j, (A j ∨ j = q) → j < h5.length := fun j hj => by rcases hj with hj | hj; have := hA j hj; omega; omega
      have hq3 : ∀ j, h2.length ≤ j → j ≠ i ∧ j ≠ m := fun j hj => by omega
      have rows7 : RR (fun j => A j ∨ j = q) h7 [.slice (some (h5.length, 0)) 0 0 true] [[]] := by
       have := RR.snoc (A := fun j => A j ∨ j = q) (h := h7) (cs := []) (rows := []) RR.nil (a := some (h5.length, 0)) (n := 0) (cp := 0) (e := true) (r := []) ⟨_, rfl, fun hj => by have := hAA _ hj; omega, r7, rfl⟩
       simpa using this
      have hml5 := fm.1
      refine Zbt.L12ind (J := fun (u : Nat) a14 n14 c14 e14 x87 h' => x87 = (u : Int) ∧ u ≤ mn ∧ ∃ q14 cs rows, a14 = some (q14, 0) ∧ h'[q14]? = some (.cells Zbw cs false) ∧ RR (fun j => A j ∨ j = q) h' cs rows ∧ rows.length = n14 ∧ rows.length ≤ 60 ∧
       Zon (Zox (wk w) Zcw (d - 1)) rows (ms.drop u) = Zon (Zox (wk w) Zcw (d - 1)) [[]] ms ∧ (∀ r ∈ rows, r.length = u ∧ ∀ s ∈ r, s.length ≤ 1200) ∧ Zrr hb i m (.slice a0 n0 c0 e0) (.slice (some (ii, oi)) n1 c1 e1) w (fun j => A j ∨ j = q) true h' ∧ Kp i m h5 h')
       (m := fun u => mn - u) (hr := ?_) (g := 0) (hj := ?_) ..
      ·rintro u a14 n14 c14 e14 x87 h8 ⟨rfl, hu, q14, cs, rows, rfl, hq14, hRR, hrn, hr60, hrow8, hrl, rd8, K8⟩ R12 hR12
       unfold Zbt.L12t
       have fm8 : Row h8.length h8 ma (mn * 2) (Zdl eP ms) := by
        rcases fm.2 with h0 | ⟨jm, hjm, hbm, hcm⟩
        ·subst h0
         have : ms = [] := List.eq_nil_of_length_eq_zero (by omega)
         subst this; simpa using Row.nil
        ·have hne : jm ≠ i ∧ jm ≠ m := by have := rdg.il; have := rdg.ml; omega
         exact (show Zct Zad eP 0 h8 ma mn ms from ⟨fm.1, .inr ⟨jm, hjm, by omega, K8.get hcm hne.1 hne.2⟩⟩).row Zet
       refine Zap (fun hlt => ?_) (fun hge => ?_)
       ·have hum : u < mn := by omega
        have hpos : 0 < d := hd.resolve_left (fun hm => by rw [hm] at hml5; simp at hml5; omega)
        obtain ⟨jm, om2, hul, hma, _, hrm, _⟩ := fm8.pr (k := u) hum
        simp only [hma, Zaw, Int.toNat_natCast, hrm, Zas, Zah, Zar, Zag, Zav]
        refine ⟨by omega, ?_⟩
        rw [← hma]
        generalize hh9 : h8 ++ [Zci.cells Zad [.str [], .str []] false] = h9
        have s9 : Zba h8.length h8 h9 := by rw [← hh9]; exact Zan
        have o9 : h9[h8.length]? = some (.cells Zad [.str [], .str []] false) := by rw [← hh9]; simp
        rw [Zca o9 (by simp)]
        simp only [Zay, putRow, List.take_zero, List.nil_append, List.length_cons, List.length_nil, List.cons_append, List.drop_succ_cons, List.drop_zero, List.drop_nil, List.append_nil, Nat.zero_add]
        generalize hh10 : h9.set h8.length (Zci.cells Zad [.str ms[u].1, .str ms[u].2] false) = h10
        have o10 : h10[h8.length]? = some (.cells Zad [.str ms[u].1, .str ms[u].2] false) := by rw [← hh10]; exact Zcy o9
        have s10 : Zba h8.length h8 h10 := by rw [← hh10]; exact s9.set' (Nat.le_refl _)
        have rd10 := rd8.step s10
        simp only [Zbg o10, Zas, Zah, Zar, Zag]
        rw [show IntKind.wrap .i64 ((d : Int) - 1) = ((d - 1 : Nat) : Int) by rw [IntWalk.i64_in _ (by omega)]; omega]
        have hle8 := K8.le
        have hle10 := s10.le
        refine (ih hpos (A := fun j => A j ∨ j = q) (h := h10) (n := ms[u]) (fun j hj => by have := hAA j hj; omega) rd10 (hms3.2 _ (List.getElem_mem hul))).mono ?_
        rintro v h11 ⟨fine, la, ln, lc, le, rfl, K11, rd11, hok11, hbad⟩
        obtain ⟨x11, o11⟩ := rd11.ob
        have KK : Kp i m h h11 := ((K5.trans K8).trans (Kp.of_same s10)).trans K11
        have hdu : ms.drop u = ms[u] :: ms.drop (u + 1) := List.drop_eq_getElem_cons hul
        rw [hdu] at hrow8
        simp only [Zaf, Zaw, Zat o11, Nat.zero_add, List.getElem?_cons_succ, List.getElem?_cons_zero, Zam, Zav]
        cases fine with
        | false =>
         simp only [Bool.not_false, Zcf]
         have hx : Zox (wk w) Zcw d n = none := by
          rw [← hcand]
          refine Zsa hneeds hd ?_
          rw [← hrow8, Zon, hbad rfl]
         exact ⟨false, _, _, _, _, rfl, KK, rd11.low fun j _ h1 h2 => h1 (.inl h2), fun h => (by cases h), fun _ => hx⟩
        | true =>
         obtain ⟨ps, hps, slp⟩ := hok11 rfl
         have hps60 := Ztg hps
         have hpl : ps.length = ln := by obtain ⟨_, _, _, _, hh⟩ := slp; exact hh
         simp only [Bool.not_true, Zbh]
         have RR11 : RR (fun j => A j ∨ j = q) h11 cs rows := hRR.agree (fun j hj ⟨l, hl⟩ _ => by
          have hl10 := s10.get hl hj
          rw [K11.eq j (by omega) (rd10.sl_ne hl10).1 (rd10.sl_ne hl10).2, s10.eq j hj]) fun _ _ h => h
         have hq14l := Own.lt hq14
         have v11 : h11[q14]? = some (.cells Zbw cs false) := by
          have hl10 := s10.get hq14 hq14l
          exact K11.get hl10 (rd10.lsl_ne hl10).1 (rd10.lsl_ne hl10).2
         generalize hh12 : h11 ++ [Zci.cells Zbw [] false] = h12
         have s12 : Zba h11.length h11 h12 := by rw [← hh12]; exact Zan
         have c12 : h12[h11.length]? = some (.cells Zbw [] false) := by rw [← hh12]; simp
         have hle11 := K11.le
         have hq14' : q14 < h11.length := by omega
         refine Zbt.L19ind (J := fun (x : Nat) a18 n18 c18 e18 x104 h' => x104 = (x : Int) ∧ x ≤ n14 ∧ ∃ q18 cs18, a18 = some (q18, 0) ∧ h11.length ≤ q18 ∧ h'[q18]? = some (.cells Zbw cs18 false) ∧ RR (fun j => A j ∨ j = q) h' cs18 (Zdj (rows.take x) ps) ∧ (Zdj (rows.take x) ps).length = n18 ∧ Zba h11.length h11 h')
          (m := fun x => n14 - x) (hr := ?_) (g := 0) (hj := ⟨rfl, by omega, h11.length, [], rfl, Nat.le_refl _, c12, by simpa [Zdj] using RR.nil, by simp [Zdj], s12⟩) ..
         rintro x a18 n18 c18 e18 x104 h13 ⟨rfl, hx, q18, cs18, rfl, hq18l, hq18, hR18, hn18, s13⟩ R19 hR19
         unfold Zbt.L19t
         refine Zap (fun hlt19 => ?_) (fun hge19 => ?_)
         ·have hxr : x < rows.length := by omega
          have hxc : x < cs.length := by rw [hRR.1]; exact hxr
          obtain ⟨ra, rn, rc, re, hcx, slr⟩ := RR11.2 x _ _ (List.getElem?_eq_getElem hxc) (List.getElem?_eq_getElem hxr)
          have v13 := s13.get v11 hq14'
          have hrx := hrl _ (List.getElem_mem hxr)
          have hrnn : rows[x].length = rn := by obtain ⟨_, _, _, _, hh⟩ := slr; exact hh
          simp only [Zaw, Int.toNat_natCast, Zat v13, Nat.zero_add, Nat.mul_one, List.getElem?_eq_getElem hxc, hcx, Zaf]
          refine ⟨by omega, ?_⟩
          have hnx : (Zdj (rows.take x) ps).length ≤ 3600 := by
           rw [Zty, List.length_take]
           have h1 : min x rows.length ≤ 60 := by omega
           exact Nat.le_trans (Nat.mul_le_mul h1 hps60.1) (by omega)
          refine Zbt.L22ind (J := fun (y : Nat) a18 n18 c18 e18 x110 h' => x110 = (y : Int) ∧ y ≤ ln ∧ ∃ q18 cs18, a18 = some (q18, 0) ∧ h11.length ≤ q18 ∧ h'[q18]? = some (.cells Zbw cs18 false) ∧
           RR (fun j => A j ∨ j = q) h' cs18 (Zdj (rows.take x) ps ++ (ps.take y).map fun p => rows[x] ++ [p]) ∧ (Zdj (rows.take x) ps ++ (ps.take y).map fun p => rows[x] ++ [p]).length = n18 ∧ Zba h11.length h11 h')
           (m := fun y => ln - y) (hr := ?_) (g := 0) (hj := ⟨rfl, by omega, q18, cs18, rfl, hq18l, hq18, by simpa using hR18, by simpa using hn18, s13⟩) ..
          rintro y a18 n18 c18 e18 x110 h13 ⟨rfl, hy, q18, cs18, rfl, hq18l, hq18, hR18, hn18, s13⟩ R22 hR22
          unfold Zbt.L22t
          refine Zap (fun hlt22 => ?_) (fun hge22 => ?_)
          ·obtain ⟨lm, lo, hyl, hla, _, hlcell⟩ := Row.el1 Zqi (slp.same s13).row (k := y) (by omega)
           have hlc : Zal h13 (.ptr (some (lm, lo + y * 1))) = some (.str ps[y]) := by rw [hlcell]; simp [eS]
           simp only [hla, Zaw, Int.toNat_natCast, hlc, Zag]
           refine ⟨by omega, ?_⟩
           rw [← hla]
           refine (Ybx (slr.same s13) (by omega)).mono ?_
           rintro v h14 ⟨qc, c', e', rfl, hqc, oc, s14⟩
           simp only [Zaf, Zav]
           have hle14 := s14.le
           have hqcl := Own.lt oc
           have hq18' := Own.lt hq18
           have hs13 := s13.le
           refine (Vec.mk1 oc).push Zpv Zxt Zya Zxn (by rw [Zbf Zqi]; omega) rfl (by omega) (fun h15 hl15 hi15 hk15 => ?_)
           have o15 : h15[q18]? = some (.cells Zbw cs18 false) := by rw [hk15 _ (by omega) (fun j hj => by cases hj; omega)]; exact s14.get hq18 hq18'
           simp only [Zaf]
           have hcl18 : cs18.length = n18 := by rw [hR18.1]; exact hn18
           have hn18' : n18 ≤ 3660 := by
            rw [← hn18, List.length_append, List.length_map, List.length_take]
            have := hps60.1
            omega
           refine (Vec.mk1 o15).push Yme Ynd Yob Yna hcl18 rfl (by omega) (fun h16 hl16 hi16 hk16 => ?_)
           simp only [Zaf]
           rw [Zbr (k := y) (by have := hps60.1; omega)]
           have keep : ∀ j, j < h13.length → (∃ l, h13[j]? = some (.cells Zaz (Zdl eS l) false)) → h16[j]? = h13[j]? := fun j hj ⟨l, hl⟩ => by
            have hne : j ≠ q18 := Yqf hl hq18 (by decide)
            rw [hk16 j (by omega) (fun j' hj' => by cases hj'; exact hne), hk15 j (by omega) (fun j' hj' => by cases hj'; omega), s14.eq j hj]
           have hnew : SL (fun j => A j ∨ j = q) h16 (some (h14.length + 1, 0)) (rn + 1) (rows[x] ++ [ps[y]]) := by
            refine ⟨_, rfl, fun hj => by have := hAA _ hj; omega, ?_, by simp [hrnn]⟩
            rw [hk16 _ (by omega) (fun j' hj' => by cases hj'; omega), hi15]
            simp [Zeg, eS]
           have hsn := RR.snoc (hR18.agree (h' := h16) (fun j hj hl _ => keep j hj hl) fun _ _ h => h) (cp := rn + 1) (e := false) hnew
           refine hR22 (y + 1) _ _ _ _ _ _ (by omega) ⟨rfl, by omega, h15.length + 1, _, rfl, by omega, hi16, ?_, ?_, ⟨by omega, fun j hj => ?_⟩⟩
           ·rw [List.take_succ_eq_append_getElem hyl, List.map_append, ← List.append_assoc]; exact hsn
           ·rw [List.take_succ_eq_append_getElem hyl, List.map_append, ← List.append_assoc, List.length_append, hn18]; rfl
           ·rw [hk16 j (by omega) (fun j' hj' => by cases hj'; omega), hk15 j (by omega) (fun j' hj' => by cases hj'; omega), s14.eq j (by omega)]; exact s13.eq j hj
          ·have : y = ln := by omega
           subst this
           apply Zbt.A22x6i
           rw [Zbr (by omega)]
           have hnext : Zdj (rows.take (x + 1)) ps = Zdj (rows.take x) ps ++ (ps.take ps.length).map fun p => rows[x] ++ [p] := by
            rw [List.take_succ_eq_append_getElem hxr, List.take_length]; unfold Zdj; rw [List.flatMap_append]; simp
           rw [hpl] at hnext
           refine hR19 (x + 1) _ _ _ _ _ _ (by omega) ⟨rfl, by omega, q18, cs18, rfl, hq18l, hq18, by rw [hnext]; exact hR18, by rw [hnext]; exact hn18, s13⟩
         ·have : x = n14 := by omega
          subst this
          rw [List.take_of_length_le (by omega)] at hR18 hn18
          apply Zbt.A19x4i
          have rd13 := rd11.step s13
          have K13 := KK.trans (Kp.of_same s13)
          refine Zap (fun hbig => ?_) (fun hsml => ?_)
          ·have hx : Zox (wk w) Zcw d n = none := by
            rw [← hcand]
            refine Zsa hneeds hd ?_
            rw [← hrow8, Zon, hps]
            simp only
            rw [if_pos (by omega)]
           exact Yix.bad K13 (rd13.low fun j _ h1 h2 => h1 (.inl h2)) hx
          ·rw [Zbr (by omega)]
           refine hR12 (u + 1) _ _ _ _ _ _ (by omega) ⟨rfl, by omega, q18, cs18, _, rfl, hq18, hR18, hn18, by omega, ?_, ?_, rd13, (((K8.trans (Kp.of_same s10)).trans K11).trans (Kp.of_same s13))⟩
           ·rw [← hrow8, Zon, hps]
            simp only
            rw [if_neg (by omega)]
           ·intro r hr
            unfold Zdj at hr
            simp only [List.mem_flatMap, List.mem_map] at hr
            obtain ⟨r0, h0, p, hp, rfl⟩ := hr
            have := hrl r0 h0
            refine ⟨by simp [this.1], fun s hs => ?_⟩
            rcases List.mem_append.1 hs with hs | hs
            ·exact this.2 s hs
            ·rw [List.mem_singleton] at hs; subst hs; exact hps60.2 _ hp
       ·have : u = mn := by omega
        subst this
        rw [List.drop_of_length_le (by omega), Zon] at hrow8
        apply Zbt.A12x2i
        have hq3' := fm8
        have q8 := K8.get q5 (rd5.sl_ne q5).1 (rd5.sl_ne q5).2
        have p8 : h8[h.length]? = some (.cells Zad [.str n.1, .str n.2] false) := K8.get p5 (by omega) (by omega)
        have f8 : Zct Zjb eI h2.length h8 ca cn (Zja w n) := row5.kpt fun j hj hb _ => K8.eq j hj (hq3 j hb).1 (hq3 j hb).2
        refine Zbt.L33ind (J := fun (x : Nat) a9 n9 c9 e9 x134 h' => x134 = (x : Int) ∧ x ≤ n14 ∧ ∃ q', a9 = some (q', 0) ∧ h.length ≤ q' ∧ h'[q']? = some (.cells Zaz (Zdl eS (out ++ (rows.take x).map (jnD (Zcw k)))) false) ∧ (out ++ (rows.take x).map (jnD (Zcw k))).length = n9 ∧ Zpp (out ++ (rows.take x).map (jnD (Zcw k))) ∧
         RR (fun j => A j ∨ j = q') h' cs rows ∧ h'[q14]? = some (.cells Zbw cs false) ∧ Zrr hb i m (.slice a0 n0 c0 e0) (.slice (some (ii, oi)) n1 c1 e1) w (fun j => A j ∨ j = q') true h' ∧ Kp i m h h' ∧ h'[h.length]? = some (.cells Zad [.str n.1, .str n.2] false) ∧ Zct Zjb eI h2.length h' ca cn (Zja w n))
         (m := fun x => n14 - x) (hr := ?_) (g := 0) (hj := ⟨rfl, by omega, q, rfl, hql, by simpa using q8, by simpa using hqn, by simpa using hsm, hRR, hq14, rd8, K5.trans K8, p8, f8⟩) ..
        rintro x a9 n9 c9 e9 x134 h13 ⟨rfl, hx, q', rfl, hql', hq', hqn', hsm', hR13, v13, rd13, K13, p13, f13⟩ R33 hR33
        unfold Zbt.L33t
        refine Zap (fun hlt33 => ?_) (fun hge33 => ?_)
        ·have hxr : x < rows.length := by omega
         have hxc : x < cs.length := by rw [hR13.1]; exact hxr
         obtain ⟨ra, rn, rc, re, hcx, slr⟩ := hR13.2 x _ _ (List.getElem?_eq_getElem hxc) (List.getElem?_eq_getElem hxr)
         have hrx := hrl _ (List.getElem_mem hxr)
         have hrnn : rows[x].length = rn := by obtain ⟨_, _, _, _, hh⟩ := slr; exact hh
         have hm3 := hms3.1
         have hk10 : k < 10 := by unfold Zdy at hw; simp only [Bool.and_eq_true, decide_eq_true_eq] at hw; omega
         simp only [Zaw, Int.toNat_natCast, Zat v13, Nat.zero_add, Nat.mul_one, List.getElem?_eq_getElem hxc, hcx, Zaf]
         refine ⟨by omega, (Zrv (i := k) (by omega)).mono ?_⟩
         rintro v h14 ⟨rfl, rfl⟩
         have hdec : Ycg k = Zcw (k : Int) := by rw [Zrn (by omega), Int.toNat_natCast]
         rw [hdec]
         simp only [Zag]
         have hil : (Zcw (k : Int)).length ≤ 100 := by rw [← hdec, Zph hk10]; simp
         refine (Ylf slr hil (by omega) hrx.2).mono ?_
         rintro v h15 ⟨rfl, rfl⟩
         simp only [Zag, Zav]
         have hq'l := Own.lt hq'
         have hn60 := hsm'.1
         refine (Vec.mk1 hq').push Zpv Zxt Zya Zxn (by rw [Zbf Zqi]; omega) rfl (by omega) (fun h16 hl16 hi16 hk16 => ?_)
         have hmap : out ++ (rows.take (x + 1)).map (jnD (Zcw k)) = (out ++ (rows.take x).map (jnD (Zcw k))) ++ [jnD (Zcw k) rows[x]] := by
          rw [List.take_succ_eq_append_getElem hxr, List.map_append, ← List.append_assoc]; rfl
         have hk' : ∀ j, j < h15.length → j ≠ q' → h16[j]? = h15[j]? := fun j hj hne => hk16 j hj fun j' hj' => by cases hj'; exact hne
         have hti : ∀ {j : Nat} {t : TypeId} {l : List Zaq}, h15[j]? = some (.cells t l false) → t ≠ Zaz → j ≠ q' := fun hj hne => Yqf hj hq' hne
         obtain ⟨x15, o15⟩ := rd13.ob
         obtain ⟨es15, clk15, m15, _⟩ := rd13.mp
         have hiq : i ≠ q' := hti o15 (by decide)
         have hmq : m ≠ q' := fun e => by rw [e] at m15; rw [hq'] at m15; cases m15
         have rd16 : Zrr hb i m (.slice a0 n0 c0 e0) (.slice (some (ii, oi)) n1 c1 e1) w (fun j => A j ∨ j = h15.length + 1) true h16 :=
          rd13.agree (by omega) (hk' i rd13.il hiq) (hk' m rd13.ml hmq) (fun j hj => hk' j (by have := rd13.same.le; omega) (by have := rd.same.le; omega)) (fun j hj _ h1 => hk' j hj fun e => h1 (.inr e)) fun j hj h1 => by rintro (h2 | h2); exact h1 (.inl h2); omega
         have K16 : Kp i m h h16 := ⟨by have := K13.le; omega, fun j hj h1 h2 => by rw [hk' j (by have := K13.le; omega) (by omega)]; exact K13.eq j hj h1 h2⟩
         have hbadq : (60 < (out ++ (rows.take (x + 1)).map (jnD (Zcw k))).length ∨ 1200 < (jnD (Zcw k) rows[x]).length) → Zox (wk w) Zcw d n = none := by
          intro hb
          rw [← hcand]
          refine Zvh hneeds hd hrow8.symm ?_
          rcases hb with hb | hb
          ·right
           have : (rows.take (x + 1)).length ≤ rows.length := by rw [List.length_take]; omega
           simp only [List.length_append, List.length_map] at hb ⊢
           omega
          ·exact .inl ⟨_, List.mem_map_of_mem (List.getElem_mem hxr), hb⟩
         have hlen16 : (out ++ (rows.take (x + 1)).map (jnD (Zcw k))).length = n9 + 1 := by rw [hmap, List.length_append, hqn']; rfl
         simp only [Zaf]
         refine Zap (fun hb60 => ?_) (fun hs60 => ?_)
         ·exact Yix.bad K16 (rd16.low fun j _ h1 h2 => h1 (.inl h2)) (hbadq (.inl (by omega)))
         ·refine Zap (fun hb12 => ?_) (fun hs12 => ?_)
          ·exact Yix.bad K16 (rd16.low fun j _ h1 h2 => h1 (.inl h2)) (hbadq (.inr (by omega)))
          ·apply Zbt.J40i
           rw [Zbr (by omega)]
           refine hR33 (x + 1) _ _ _ _ _ _ (by omega) ⟨rfl, by omega, h15.length + 1, rfl, by omega, ?_, hlen16, ⟨by omega, fun s hs => ?_⟩, hR13.agree (fun j hj _ h1 => hk' j hj fun e => h1 (.inr e)) (fun j hj h1 => by rintro (h2 | h2); exact h1 (.inl h2); omega), by rw [hk' _ (Own.lt v13) (hti v13 (by decide))]; exact v13, rd16, K16,
            by rw [hk' _ (Own.lt p13) (hti p13 (by decide))]; exact p13, f13.kpt fun j hj _ ⟨cs, hc⟩ => hk' j hj (hti hc (by decide))⟩
           ·rw [hi16, hmap, Zeg]; simp [eS]
           ·rw [hmap] at hs
            rcases List.mem_append.1 hs with hs | hs
            ·exact hsm'.2 s hs
            ·rw [List.mem_singleton] at hs; subst hs; omega
        ·have : x = n14 := by omega
         subst this
         rw [List.take_of_length_le (by omega)] at hq' hqn' hsm'
         apply Zbt.A33x8i
         apply Zbt.J41i
         rw [Zbr (by omega)]
         exact hR (g + 1) _ _ _ _ _ _ (by omega) ⟨rfl, by omega, q', _, rfl, hql', hq', hqn', hsm', by rw [← hcand, Zxo hneeds hd hrow8.symm hsm'], rd13, K13, p13, f13⟩
      ·exact ⟨rfl, by omega, h6.length, _, [[]], rfl, c7, rows7, rfl, by simp, by rw [List.drop_zero], by simp, rd5.step S7, Kp.of_same S7⟩
     refine Zap (fun hpos => ?_) (fun hz => ?_)
     ·have hm0 : ms ≠ [] := fun hm => by rw [hm] at hmn; simp at hmn; omega
      refine Zfe (fun h0 => ?_) (fun h0 => ?_)
      ·refine skip ?_
       rw [← hcand, Zym hneeds hm0 (by omega)]
      ·exact go (.inr (by omega))
     ·exact go (.inl (List.eq_nil_of_length_eq_zero (by omega)))
   ·have : g = cn := by omega
    subst this
    rw [List.drop_of_length_le (by omega)] at hcand
    unfold Zia at hcand
    apply Zbt.A6x0i
    obtain ⟨x3', ho'⟩ := rdg.ob
    simp only [Zaw, Zat ho', Zbg hp, Nat.zero_add, List.getElem?_cons_succ, List.getElem?_cons_zero, Ycp, Zas, Zah, Zar, Zag, true_and]
    refine (Ypg hd10 (by omega)).mono ?_
    rintro v h6 ⟨rfl, s6⟩
    have rd6 := (rdg.step s6).low (A' := A) fun q _ h h2 => h (.inl h2)
    have q6 := s6.get hq (Own.lt hq)
    obtain ⟨x6, o6⟩ := rd6.ob
    obtain ⟨es6, clk6, hm6, ok6⟩ := rd6.mp
    have sl : SL A h6 (some (q, 0)) n9 out := ⟨q, rfl, fun h => by have := hA q h; omega, q6, hqn⟩
    have o6' := s6.get ho' (Own.lt ho')
    simp only [Zag, Zat o6', List.getElem?_cons_succ, List.getElem?_cons_zero, true_and, xMp, Zfi, hm6, Zav]
    refine ok6.put hw hnd sl hcand.symm fun es' clk' ok' => ?_
    exact ⟨true, _, _, _, _, rfl, (Kg.trans (Kp.of_same s6)).trans ⟨by simp, fun j _ _ h2 => Zbz fun e => h2 e.symm⟩, rd6.put ok', fun _ => ⟨out, hcand.symm, sl.agree (fun q hq ⟨l, hl⟩ _ => Zbz (fun e => (rd6.sl_ne hl).2 e.symm)) fun _ _ h => h⟩, fun h => (by cases h)⟩
  ·exact ⟨rfl, by omega, h1.length, [], rfl, by omega, q3, rfl, ⟨by simp, by simp⟩, by rw [List.drop_zero]; exact (Ydp (wk w) Zcw d n).symm, (rd1.agree (A' := fun j => A j ∨ j = h1.length) (by have := s3.le; omega) (by rw [s3.eq _ (by omega), s2.eq _ (by omega)]) (by rw [s3.eq _ (by omega), s2.eq _ (by omega)])
    (fun j hj => by have := rd1.same.le; rw [s3.eq _ (by omega), s2.eq _ (by omega)]) (fun j hj _ _ => by rw [s3.eq _ (by omega), s2.eq _ (by omega)]) fun j hj h1 => by rintro (h2 | h2); exact h1 h2; omega), Kp.of_same S3, p3, fc⟩
 ·intro a k c x l sl hl
  simp only [Option.getD_some, Zaf, Option.isSome_some]
  exact Zdg (fun _ => ⟨true, a, k, c, x, rfl, Kp.of_same S1, rd1, fun _ => ⟨l, hl, sl⟩, fun h => (by cases h)⟩) (fun h => (by cases h))
end Go.Sim

set_option linter.unusedVariables false
set_option linter.unusedSimpArgs false
set_option maxRecDepth 20000
namespace Go.Sim
open Go Go.RowKit

def Ydj : Nat → Nat
 | 0 => 1
 | d + 1 => 1 + 30 * Ydj d
theorem Yng {d : Nat} (h : d < 7) : Ydj d ≤ 800000000 := by
 match d, h with
 | 0, _ => decide
 | 1, _ => decide
 | 2, _ => decide
 | 3, _ => decide
 | 4, _ => decide
 | 5, _ => decide
 | 6, _ => decide
def Zku (d : Nat) : Nat := if d = 0 then 0 else Ydj (d - 1)
theorem Ynp (d : Nat) : Ydj d = 1 + 30 * Zku d := by cases d <;> rfl
end Go.Sim

set_option linter.unusedVariables false
set_option linter.unusedSimpArgs false
set_option maxRecDepth 20000
namespace Go.Sim
open Go Go.RowKit

abbrev TE := List Nat × Zaq × Bool
structure Zwq (hb : Zaa) (i : Nat) (u v : Zaq) (w : Wd) (A : Nat → Prop) (h : Zaa) (O : List Nat) (tab : List TE) : Prop where
 same : Zba hb.length hb h
 low : ∀ j ∈ O, hb.length ≤ j ∧ j < h.length
 io : i ∈ O
 ob : ∃ ka kn kc ke la ln lc le ga gn gc ge, h[i]? = some (.cells Zby [u, v, .slice ka kn kc ke, .slice la ln lc le, .slice ga gn gc ge] false) ∧
  Vec Zaz h ka kn kc (Zdl eS (tab.map (·.1))) ∧ kn = tab.length ∧ Vec Zbw h la ln lc (tab.map (·.2.1)) ∧ ln = tab.length ∧ Vec Zub h ga gn gc (Zdl eT (tab.map (·.2.2))) ∧ gn = tab.length ∧
  O = i :: (Yda ka ++ Yda la ++ Yda ga) ∧ O.Nodup
 ok : ∀ p ∈ tab, ∃ a k c x, p.2.1 = .slice a k c x ∧ ∀ n d, Zdk w n = true → p.1 = Ymi n d → (p.2.2 = true → ∃ l, SL (fun j => A j ∨ j ∈ O) h a k l ∧ Zox (wk w) Zcw d n = some l) ∧ (p.2.2 = false → Zox (wk w) Zcw d n = none)
section
variable {hb : Zaa} {i : Nat} {u v : Zaq} {w : Wd} {A A' : Nat → Prop} {h : Zaa} {O : List Nat} {tab : List TE}
theorem Zwq.agree {h' : Zaa} (r : Zwq hb i u v w A h O tab) (hle : h.length ≤ h'.length) (hlow : ∀ j, j < hb.length → h'[j]? = h[j]?) (hO : ∀ j ∈ O, h'[j]? = h[j]?)
  (hk : ∀ q, q < h.length → (∃ l, h[q]? = some (.cells Zaz (Zdl eS l) false)) → ¬ A q → q ∉ O → h'[q]? = h[q]?) (hA : ∀ q, q < h.length → q ∉ O → ¬ A q → ¬ A' q) : Zwq hb i u v w A' h' O tab := by
 obtain ⟨ka, kn, kc, ke, la, ln, lc, le, ga, gn, gc, ge, ho, v1, e1, v2, e2, v3, e3, e4, nd⟩ := r.ob
 have ho' : ∀ j ∈ O, h'[j]? = h[j]? := hO
 have hio := r.io
 refine ⟨⟨Nat.le_trans r.same.le hle, fun j hj => by rw [hlow j hj]; exact r.same.eq j hj⟩, fun j hj => by have := r.low j hj; omega, r.io, ⟨ka, kn, kc, ke, la, ln, lc, le, ga, gn, gc, ge, by rw [hO i hio]; exact ho,
  v1.agree fun j hj => hO j (by rw [e4]; simp [Zme]; exact .inr (.inl ⟨0, hj⟩)), e1, v2.agree fun j hj => hO j (by rw [e4]; simp [Zme]; exact .inr (.inr (.inl ⟨0, hj⟩))), e2, v3.agree fun j hj => hO j (by rw [e4]; simp [Zme]; exact .inr (.inr (.inr ⟨0, hj⟩))), e3, e4, nd⟩, fun p hp => ?_⟩
 obtain ⟨a, k, c, x, h1, h2⟩ := r.ok p hp
 refine ⟨a, k, c, x, h1, fun n d hn hk' => ⟨fun hb => ?_, (h2 n d hn hk').2⟩⟩
 obtain ⟨l, h3, h4⟩ := (h2 n d hn hk').1 hb
 refine ⟨l, h3.agree (fun q hq hl h1 => hk q hq hl (fun e => h1 (.inl e)) fun e => h1 (.inr e)) (fun q hq h1 => ?_), h4⟩
 rintro (h2 | h2)
 ·exact hA q hq (fun e => h1 (.inr e)) (fun e => h1 (.inl e)) h2
 ·exact h1 (.inr h2)
theorem Zwq.step {h' : Zaa} (r : Zwq hb i u v w A h O tab) (k : Zba h.length h h') : Zwq hb i u v w A h' O tab :=
 r.agree k.le (fun j hj => k.eq j (by have := r.same.le; omega)) (fun j hj => k.eq j (r.low j hj).2) (fun q hq _ _ _ => k.eq q hq) fun _ _ _ h => h
theorem Zwq.weak (r : Zwq hb i u v w A h O tab) (hA : ∀ q, q < h.length → q ∉ O → ¬ A q → ¬ A' q) : Zwq hb i u v w A' h O tab :=
 r.agree (Nat.le_refl _) (fun _ _ => rfl) (fun _ _ => rfl) (fun _ _ _ _ _ => rfl) hA
theorem Yrd (r : Zwq hb i u v w A h O tab) (hl : tab.length ≤ 1099511627776) (s : List Nat) :
  Zae pg Zjp [.ptr (some (i, 0)), .str s] h fun x h' => h' = h ∧ ((x = .int .i64 (-1)) ∨ ∃ g : Nat, x = .int .i64 (g : Int) ∧ ∃ hg : g < tab.length, tab[g].1 = s) := by
 obtain ⟨ka, kn, kc, ke, la, ln, lc, le, ga, gn, gc, ge, ho, v1, e1, v2, e2, v3, e3, e4⟩ := r.ob
 apply Zfm.call
 simp only [Zaw, Zat ho, Nat.zero_add, List.getElem?_cons_succ, List.getElem?_cons_zero, Zaf]
 have row : Row h.length h ka kn (Zdl eS (tab.map (·.1))) := v1.row (by rw [Zbf Zqi]; simp [e1])
 refine Zfm.L2ind _ _ _ _ _ _ _ (J := fun (g : Nat) x8 h' => x8 = (g : Int) ∧ g ≤ kn ∧ h' = h) (fun g => kn - g) ?_ 0 _ _ ⟨rfl, by omega, rfl⟩
 rintro g x8 h' ⟨rfl, hg, rfl⟩ R hR
 unfold Zfm.L2t
 refine Zap (fun hlt => ?_) (fun hge => ?_)
 ·obtain ⟨im, om, hgl, rfl, _, hcell⟩ := Row.el1 Zqi row (k := g) (by omega)
  have hc : Zal h' (.ptr (some (im, om + g * 1))) = some (.str tab[g].1) := by rw [hcell]; simp [eS]
  simp only [Zaw, Int.toNat_natCast, hc, Zag]
  refine ⟨by omega, Zap (fun he => ?_) (fun he => ?_)⟩
  ·exact ⟨by trivial, .inr ⟨g, rfl, by omega, he⟩⟩
  ·rw [Zbr (by omega)]
   exact hR (g + 1) _ _ (by omega) ⟨rfl, by omega, rfl⟩
 ·apply Zfm.A2x0i
  exact ⟨rfl, .inl rfl⟩
theorem Ypv (r : Zwq hb i u v w A h O tab) (hl : tab.length + 1 ≤ 1099511627776) (s : List Nat) (b : Bool) {a : Pt} {k c : Nat} {x : Bool} (hok : ∀ n d, Zdk w n = true → s = Ymi n d → (b = true → ∃ l, SL (fun j => A j ∨ j ∈ O) h a k l ∧ Zox (wk w) Zcw d n = some l) ∧ (b = false → Zox (wk w) Zcw d n = none)) :
  Zae pg Zij [.ptr (some (i, 0)), .str s, .slice a k c x, .bool b] h fun _ h' => ∃ O', Zwq hb i u v w A h' O' (tab ++ [(s, .slice a k c x, b)]) ∧ FrO O O' h h' := by
 obtain ⟨ka, kn, kc, ke, la, ln, lc, le, ga, gn, gc, ge, ho, v1, e1, v2, e2, v3, e3, rfl, nd⟩ := r.ob
 have hsl := r.same.le
 have hnd : (∀ q o, ka = some (q, o) → q ≠ i ∧ (∀ o', la ≠ some (q, o')) ∧ ∀ o', ga ≠ some (q, o')) ∧ (∀ q o, la = some (q, o) → q ≠ i ∧ ∀ o', ga ≠ some (q, o')) ∧ (∀ q o, ga = some (q, o) → q ≠ i) := by
  simp only [List.nodup_cons, List.mem_append, List.nodup_append, Zme] at nd
  obtain ⟨n1, ⟨n2, n3, n4⟩, n5, n6⟩ := nd
  refine ⟨fun q o ha => ⟨fun he => n1 (.inl (.inl ⟨o, he ▸ ha⟩)), fun o' hl => n4 q ⟨o, ha⟩ q ⟨o', hl⟩ rfl, fun o' hg => n6 q (.inl ⟨o, ha⟩) q ⟨o', hg⟩ rfl⟩, fun q o ha => ⟨fun he => n1 (.inl (.inr ⟨o, he ▸ ha⟩)), fun o' hg => n6 q (.inr ⟨o, ha⟩) q ⟨o', hg⟩ rfl⟩, fun q o ha he => n1 (.inr ⟨o, he ▸ ha⟩)⟩
 obtain ⟨d1, d2, d3⟩ := hnd
 have hil := Own.lt ho
 have lowk : ∀ q o, ka = some (q, o) → hb.length ≤ q ∧ q < h.length := fun q o ha => r.low q (by simp [Zme]; exact .inr (.inl ⟨o, ha⟩))
 have lowl : ∀ q o, la = some (q, o) → hb.length ≤ q ∧ q < h.length := fun q o ha => r.low q (by simp [Zme]; exact .inr (.inr (.inl ⟨o, ha⟩)))
 have lowg : ∀ q o, ga = some (q, o) → hb.length ≤ q ∧ q < h.length := fun q o ha => r.low q (by simp [Zme]; exact .inr (.inr (.inr ⟨o, ha⟩)))
 have lowi := (r.low i r.io).1
 apply Zmf.call
 simp only [Zaw, Zat ho, Nat.zero_add, List.getElem?_cons_succ, List.getElem?_cons_zero, Zaf, Zav]
 refine v1.push Zpv Zxt Zya Zxn (by rw [Zbf Zqi]; simp [e1]) rfl (by omega) (fun h1 hl1 hi1 hk1 => ?_)
 have o1 : h1[i]? = some (.cells Zby [u, v, .slice ka kn kc ke, .slice la ln lc le, .slice ga gn gc ge] false) := by rw [hk1 i hil fun q hq => ((d1 q 0 hq).1).symm]; exact ho
 simp only [Zaf]
 rw [Zca o1 (by simp)]
 simp only [Zay, putRow, List.take_succ_cons, List.take_zero, List.length_cons, List.length_nil, List.drop_succ_cons, List.drop_zero, List.drop_nil, List.cons_append, List.nil_append, List.append_nil]
 have o2 : (h1.set i (.cells Zby [u, v, .slice (some (h.length + 1, 0)) (kn + 1) (kn + 1) false, .slice la ln lc le, .slice ga gn gc ge] false))[i]? = some (.cells Zby [u, v, .slice (some (h.length + 1, 0)) (kn + 1) (kn + 1) false, .slice la ln lc le, .slice ga gn gc ge] false) := Zcy o1
 have g2 : ∀ j, j < h.length → j ≠ i → (∀ o, ka ≠ some (j, o)) → (h1.set i (.cells Zby [u, v, .slice (some (h.length + 1, 0)) (kn + 1) (kn + 1) false, .slice la ln lc le, .slice ga gn gc ge] false))[j]? = h[j]? := fun j hj hne hk => by rw [Zbz (fun e => hne e.symm)]; exact hk1 j hj fun q hq he => hk 0 (he ▸ hq)
 have k2 : (h1.set i (.cells Zby [u, v, .slice (some (h.length + 1, 0)) (kn + 1) (kn + 1) false, .slice la ln lc le, .slice ga gn gc ge] false))[h.length + 1]? = some (.cells Zaz (Zdl eS (tab.map (·.1)) ++ [.str s]) false) := by rw [Zbz (by omega)]; exact hi1
 have hl2 : (h1.set i (.cells Zby [u, v, .slice (some (h.length + 1, 0)) (kn + 1) (kn + 1) false, .slice la ln lc le, .slice ga gn gc ge] false)).length = h.length + 2 := by simp [hl1]
 generalize h1.set i (.cells Zby [u, v, .slice (some (h.length + 1, 0)) (kn + 1) (kn + 1) false, .slice la ln lc le, .slice ga gn gc ge] false) = h2 at o2 g2 k2 hl2 ⊢
 simp only [Zat o2, Nat.zero_add, List.getElem?_cons_succ, List.getElem?_cons_zero, Zaf]
 have v2' : Vec Zbw h2 la ln lc (tab.map (·.2.1)) := v2.agree fun j hj => g2 j (lowl j 0 hj).2 (d2 j 0 hj).1 fun o hk => (d1 j o hk).2.1 0 hj
 refine v2'.push Yll Ynk Yol Yoo (by simp [e2]) rfl (by omega) (fun h3 hl3 hi3 hk3 => ?_)
 have o3 : h3[i]? = some (.cells Zby [u, v, .slice (some (h.length + 1, 0)) (kn + 1) (kn + 1) false, .slice la ln lc le, .slice ga gn gc ge] false) := by rw [hk3 i (by omega) fun q hq => ((d2 q 0 hq).1).symm]; exact o2
 have k3 : h3[h.length + 1]? = some (.cells Zaz (Zdl eS (tab.map (·.1)) ++ [.str s]) false) := by rw [hk3 _ (by omega) fun q hq => by have := (lowl q 0 hq).2; omega]; exact k2
 simp only [Zaf]
 rw [Zca o3 (by simp)]
 simp only [Zay, putRow, List.take_succ_cons, List.take_zero, List.length_cons, List.length_nil, List.drop_succ_cons, List.drop_zero, List.drop_nil, List.cons_append, List.nil_append, List.append_nil]
 have o4 : (h3.set i (.cells Zby [u, v, .slice (some (h.length + 1, 0)) (kn + 1) (kn + 1) false, .slice (some (h2.length + 1, 0)) (ln + 1) (ln + 1) false, .slice ga gn gc ge] false))[i]? = some (.cells Zby [u, v, .slice (some (h.length + 1, 0)) (kn + 1) (kn + 1) false, .slice (some (h2.length + 1, 0)) (ln + 1) (ln + 1) false, .slice ga gn gc ge] false) := Zcy o3
 have g4 : ∀ j, j < h.length → j ≠ i → (∀ o, ka ≠ some (j, o)) → (∀ o, la ≠ some (j, o)) → (h3.set i (.cells Zby [u, v, .slice (some (h.length + 1, 0)) (kn + 1) (kn + 1) false, .slice (some (h2.length + 1, 0)) (ln + 1) (ln + 1) false, .slice ga gn gc ge] false))[j]? = h[j]? := fun j hj hne hk hq => by
  rw [Zbz (fun e => hne e.symm), hk3 j (by omega) fun q hq' he => hq 0 (he ▸ hq')]; exact g2 j hj hne hk
 have k4 : (h3.set i (.cells Zby [u, v, .slice (some (h.length + 1, 0)) (kn + 1) (kn + 1) false, .slice (some (h2.length + 1, 0)) (ln + 1) (ln + 1) false, .slice ga gn gc ge] false))[h.length + 1]? = some (.cells Zaz (Zdl eS (tab.map (·.1)) ++ [.str s]) false) := by rw [Zbz (by omega)]; exact k3
 have l4 : (h3.set i (.cells Zby [u, v, .slice (some (h.length + 1, 0)) (kn + 1) (kn + 1) false, .slice (some (h2.length + 1, 0)) (ln + 1) (ln + 1) false, .slice ga gn gc ge] false))[h2.length + 1]? = some (.cells Zbw (tab.map (·.2.1) ++ [.slice a k c x]) false) := by rw [Zbz (by omega)]; exact hi3
 have hl4 : (h3.set i (.cells Zby [u, v, .slice (some (h.length + 1, 0)) (kn + 1) (kn + 1) false, .slice (some (h2.length + 1, 0)) (ln + 1) (ln + 1) false, .slice ga gn gc ge] false)).length = h2.length + 2 := by simp [hl3]
 generalize h3.set i (.cells Zby [u, v, .slice (some (h.length + 1, 0)) (kn + 1) (kn + 1) false, .slice (some (h2.length + 1, 0)) (ln + 1) (ln + 1) false, .slice ga gn gc ge] false) = h4 at o4 g4 k4 l4 hl4 ⊢
 simp only [Zat o4, Nat.zero_add, List.getElem?_cons_succ, List.getElem?_cons_zero, Zaf]
 have v3' : Vec Zub h4 ga gn gc (Zdl eT (tab.map (·.2.2))) := v3.agree fun j hj => g4 j (lowg j 0 hj).2 (d3 j 0 hj) (fun o hk => (d1 j o hk).2.2 0 hj) fun o hk => (d2 j o hk).2 0 hj
 refine v3'.push Ylr Yqs Yph Yqu (by rw [Zbf Yjb]; simp [e3]) rfl (by omega) (fun h5 hl5 hi5 hk5 => ?_)
 have o5 : h5[i]? = some (.cells Zby [u, v, .slice (some (h.length + 1, 0)) (kn + 1) (kn + 1) false, .slice (some (h2.length + 1, 0)) (ln + 1) (ln + 1) false, .slice ga gn gc ge] false) := by rw [hk5 i (by omega) fun q hq => (d3 q 0 hq).symm]; exact o4
 have k5 : h5[h.length + 1]? = some (.cells Zaz (Zdl eS (tab.map (·.1)) ++ [.str s]) false) := by rw [hk5 _ (by omega) fun q hq => by have := (lowg q 0 hq).2; omega]; exact k4
 have l5 : h5[h2.length + 1]? = some (.cells Zbw (tab.map (·.2.1) ++ [.slice a k c x]) false) := by rw [hk5 _ (by omega) fun q hq => by have := (lowg q 0 hq).2; omega]; exact l4
 simp only [Zaf]
 rw [Zca o5 (by simp)]
 simp only [Zay, putRow, List.take_succ_cons, List.take_zero, List.length_cons, List.length_nil, List.drop_succ_cons, List.drop_zero, List.drop_nil, List.cons_append, List.nil_append, List.append_nil]
 have fr : ∀ j, j < h.length → j ∉ i :: (Yda ka ++ Yda la ++ Yda ga) → (h5.set i (.cells Zby [u, v, .slice (some (h.length + 1, 0)) (kn + 1) (kn + 1) false, .slice (some (h2.length + 1, 0)) (ln + 1) (ln + 1) false, .slice (some (h4.length + 1, 0)) (gn + 1) (gn + 1) false] false))[j]? = h[j]? := fun j hj hn => by
  simp only [List.mem_cons, List.mem_append, Zme, not_or, not_exists] at hn
  obtain ⟨n1, ⟨n2, n3⟩, n4⟩ := hn
  rw [Zbz (fun e => n1 e.symm), hk5 j (by omega) fun q hq he => n4 0 (he ▸ hq)]
  exact g4 j hj n1 n2 n3
 have av : ∀ q, q < h.length → ¬ (A q ∨ q ∈ i :: (Yda ka ++ Yda la ++ Yda ga)) → ¬ (A q ∨ q ∈ [i, h.length + 1, h2.length + 1, h4.length + 1]) := fun q hq h1 => by
  rintro (h2' | h2')
  ·exact h1 (.inl h2')
  ·simp only [List.mem_cons, List.not_mem_nil, or_false] at h2'
   rcases h2' with rfl | rfl | rfl | rfl
   ·exact h1 (.inr (by simp))
   ·omega
   ·omega
   ·omega
 refine ⟨[i, h.length + 1, h2.length + 1, h4.length + 1], ⟨⟨by simp; omega, fun j hj => ?_⟩, fun j hj => ?_, by simp, ⟨some (h.length + 1, 0), kn + 1, kn + 1, false, some (h2.length + 1, 0), ln + 1, ln + 1, false, some (h4.length + 1, 0), gn + 1, gn + 1, false, Zcy o5, Vec.mk1 ?_, by simp [e1], Vec.mk1 ?_, by simp [e2], Vec.mk1 ?_, by simp [e3], rfl, ?_⟩, ?_⟩, ⟨by simp; omega, fun j hj hn => fr j hj hn, fun j hj => ?_⟩⟩
 ·rw [Zbz (by omega), hk5 j (by omega) fun q hq => by have := (lowg q 0 hq).1; omega, g4 j (by omega) (by omega) (fun o hk => by have := (lowk j o hk).1; omega) fun o hk => by have := (lowl j o hk).1; omega]
  exact r.same.eq j hj
 ·simp only [List.mem_cons, List.not_mem_nil, or_false] at hj
  simp only [List.length_set]
  omega
 ·rw [Zbz (by omega), k5, List.map_append, Zeg]; rfl
 ·rw [Zbz (by omega), l5, List.map_append]; rfl
 ·rw [Zbz (by omega), hi5, List.map_append, Zeg]; rfl
 ·simp only [List.nodup_cons, List.mem_cons, List.not_mem_nil, or_false, not_false_eq_true, List.nodup_nil, and_true]
  omega
 ·intro p hp
  rcases List.mem_append.1 hp with hp | hp
  ·obtain ⟨a', k', c', x', h1', h2'⟩ := r.ok p hp
   refine ⟨a', k', c', x', h1', fun n d hn hk => ⟨fun hb => ?_, (h2' n d hn hk).2⟩⟩
   obtain ⟨l, h3', h4'⟩ := (h2' n d hn hk).1 hb
   exact ⟨l, h3'.agree (fun q hq _ h1 => fr q hq fun e => h1 (.inr e)) av, h4'⟩
  ·rw [List.mem_singleton] at hp
   subst hp
   refine ⟨a, k, c, x, rfl, fun n d hn hk => ⟨fun hb => ?_, (hok n d hn hk).2⟩⟩
   obtain ⟨l, h3', h4'⟩ := (hok n d hn hk).1 hb
   exact ⟨l, h3'.agree (fun q hq _ h1 => fr q hq fun e => h1 (.inr e)) av, h4'⟩
 ·simp only [List.mem_cons, List.not_mem_nil, or_false] at hj
  rcases hj with rfl | rfl | rfl | rfl
  ·exact .inl (by simp)
  ·exact .inr (by omega)
  ·exact .inr (by omega)
  ·exact .inr (by omega)
end
end Go.Sim

set_option linter.unusedVariables false
set_option maxRecDepth 100000
namespace Go.Sim
open Go Go.RowKit
end Go.Sim

set_option linter.unusedVariables false
set_option linter.unusedSimpArgs false
set_option maxRecDepth 20000
namespace Go.Sim
open Go Go.RowKit

structure Ype (hb : Zaa) (i : Nat) (u v : Zaq) (sp : Bool) (h : Zaa) (qa : Pt) (asked st : List Nd) (why : List Nat) : Prop where
 same : Zba hb.length hb h
 ge : hb.length ≤ i
 ob : ∃ qn qc qe sa sn sc se, h[i]? = some (.cells Zvw [u, v, .bool sp, .slice qa qn qc qe, .slice sa sn sc se, .str why] false) ∧ Ypr hb.length h qa qn qc asked ∧ Row h.length h sa (sn * 2) (Zdl eP st) ∧ sn ≤ sc ∧ ∀ j o, sn * 2 ≠ 0 → sa = some (j, o) → j ≠ i ∧ ∀ q, qa = some (q, 0) → j ≠ q
 ne : ∀ q, qa = some (q, 0) → q ≠ i
section
variable {hb : Zaa} {i : Nat} {u v : Zaq} {sp : Bool} {h : Zaa} {qa : Pt} {asked st : List Nd} {why : List Nat}
theorem Ype.step {h' : Zaa} (r : Ype hb i u v sp h qa asked st why) (k : Zba h.length h h') : Ype hb i u v sp h' qa asked st why := by
 obtain ⟨qn, qc, qe, sa, sn, sc, se, ho, hv, hr, hsc, hd⟩ := r.ob
 exact ⟨r.same.trans (k.mono r.same.le), r.ge, ⟨qn, qc, qe, sa, sn, sc, se, k.get ho (Own.lt ho), hv.same k, hr.same' k, hsc, hd⟩, r.ne⟩
theorem Ype.lt (r : Ype hb i u v sp h qa asked st why) : i < h.length := by obtain ⟨_, _, _, _, _, _, _, ho, _⟩ := r.ob; exact Own.lt ho
theorem Ype.low (r : Ype hb i u v sp h qa asked st why) : ∀ q, qa = some (q, 0) → hb.length ≤ q ∧ q < h.length := by
 obtain ⟨qn, qc, qe, sa, sn, sc, se, ho, hv, _⟩ := r.ob
 exact fun q hq => ⟨hv.low q hq, hv.vec.lt' hq⟩
def Ytt (hb : Zaa) (i : Nat) (u v : Zaq) (sp : Bool) (d : Nat) (h : Zaa) (qa : Pt) (r : Fnd × List Nd) (x : Zaq) (h' : Zaa) : Prop :=
 x = .str (Yuh r.1) ∧ ∃ qa' st', Ype hb i u v sp h' qa' r.2 st' (Yuj r.1) ∧ FrS i qa h h' qa' ∧ st'.length ≤ 32 ∧ (∀ s, r.1 = .ok s → st'.length = d + 1) ∧ ∀ y m, r.1 = .no y m → y ≠ [] ∧ st'.getLast? = some m
end
end Go.Sim

set_option linter.unusedVariables false
set_option linter.unusedSimpArgs false
set_option maxRecDepth 20000
namespace Go.Sim
open Go Go.RowKit

theorem Ytt.of {hb : Zaa} {i : Nat} {u v : Zaq} {sp : Bool} {d : Nat} {h h0 : Zaa} {qa qa0 : Pt} {r : Fnd × List Nd} {x : Zaq} {h' : Zaa} (F : FrS i qa0 h0 h qa) (q : Ytt hb i u v sp d h qa r x h') : Ytt hb i u v sp d h0 qa0 r x h' := by
 obtain ⟨e, qa', st', a, f, z⟩ := q
 exact ⟨e, qa', st', a, F.trans f, z⟩
theorem Ymu {g : Nat} (h : g < 3) : sub [40, 44, 44] (g : Int) ((g + 1 : Nat) : Int) = [Zyx g] := by
 match g, h with
 | 0, _ => rfl
 | 1, _ => rfl
 | 2, _ => rfl
end Go.Sim

set_option linter.unusedVariables false
set_option linter.unusedSimpArgs false
set_option maxRecDepth 20000
namespace Go.Sim
open Go Go.RowKit

def Zvg (cost : Nat) (d : Nat) (hb : Zaa) (i : Nat) (u v : Zaq) (w : Wd) (A : Nat → Prop) (n : Nd) (h : Zaa) (O : List Nat) (tab : List TE) (x : Zaq) (h' : Zaa) : Prop :=
 ∃ a k c e good, x = .tup [.slice a k c e, .bool good] ∧ ∃ O' tab', Zwq hb i u v w A h' O' tab' ∧ FrO O O' h h' ∧ tab'.length ≤ tab.length + cost ∧
  (good = true → ∃ l, SL (fun j => A j ∨ j ∈ O') h' a k l ∧ Zox (wk w) Zcw d n = some l) ∧ (good = false → Zox (wk w) Zcw d n = none)
def Ync (d : Nat) (hb : Zaa) (i : Nat) (u v : Zaq) (w : Wd) : Prop := ∀ {A : Nat → Prop} {h : Zaa} {n : Nd} {O : List Nat} {tab : List TE}, (∀ j, A j → j < h.length) → Zwq hb i u v w A h O tab → Zdk w n = true → tab.length + Ydj d ≤ 549755813888 →
 Zae pg Zge [.ptr (some (i, 0)), .agg [.str n.1, .str n.2], .int .i64 (d : Int)] h (Zvg (Ydj d) d hb i u v w A n h O tab)
theorem FrO.nin {O O' : List Nat} {h h' : Zaa} (f : FrO O O' h h') {j : Nat} (hj : j ∉ O) (hl : j < h.length) : j ∉ O' := fun hm => by
 rcases f.nw j hm with h1 | h1
 ·exact hj h1
 ·omega
theorem Zvg.bad {cost : Nat} {d : Nat} {hb : Zaa} {i : Nat} {u v : Zaq} {w : Wd} {A A' : Nat → Prop} {n : Nd} {h h1 : Zaa} {O O' : List Nat} {tab tab' : List TE} (rd : Zwq hb i u v w A' h1 O' tab') (hA : ∀ j, A j → A' j) (f : FrO O O' h h1) (hl : tab'.length ≤ tab.length + cost) (hx : Zox (wk w) Zcw d n = none) :
  Zvg cost d hb i u v w A n h O tab (.tup [.slice (some (h1.length, 0)) 0 0 true, .bool false]) (h1 ++ [.cells Zaz [] false]) :=
 ⟨_, _, _, _, _, rfl, O', tab', (rd.weak fun q _ _ h1 h2 => h1 (hA q h2)).step Zan, f.trans (FrO.of_same Zan), hl, fun h => (by cases h), fun _ => hx⟩
theorem Yqm {hb : Zaa} {i : Nat} {a0 a1 : Pt} {n0 c0 n1 c1 : Nat} {e0 e1 : Bool} {w : Wd} (r : Zlu hb a0 n0 c0 a1 n1 c1 w) (b : WB w) (hw : Zdy w = true) {d : Nat} (hd10 : d < 10) (ih : 0 < d → Ync (d - 1) hb i (.slice a0 n0 c0 e0) (.slice a1 n1 c1 e1) w)
  {A : Nat → Prop} {h : Zaa} {n : Nd} {O : List Nat} {tab : List TE} (hA : ∀ j, A j → j < h.length) (rd : Zwq hb i (.slice a0 n0 c0 e0) (.slice a1 n1 c1 e1) w A h O tab) (hnd : Zdk w n = true) (hcost : tab.length + 30 * Zku d ≤ 549755813888) :
  Zae pg Zhz [.ptr (some (i, 0)), .agg [.str n.1, .str n.2], .int .i64 (d : Int)] h (Zvg (30 * Zku d) d hb i (.slice a0 n0 c0 e0) (.slice a1 n1 c1 e1) w A n h O tab) := by
 have hty := Ztk hnd
 have hl10 := Yct hw
 have hl1 := r.len1
 have hlow := rd.low
 apply Zbc.call
 simp only [Zav]
 generalize hh0 : h ++ [Zci.cells Zad [.str n.1, .str n.2] false] = h0
 have s0 : Zba h.length h h0 := by rw [← hh0]; exact Zan
 have l0 : h0.length = h.length + 1 := by rw [← hh0]; simp
 have p1 : h0[h.length]? = some (.cells Zad [.str n.1, .str n.2] false) := by rw [← hh0]; simp
 have rd0 := rd.step s0
 obtain ⟨ka, kn, kc, ke, la, ln, lc, le, ga, gn, gc, ge, ho, _⟩ := rd0.ob
 simp only [Zaw, Zeb ho (show 0 + 0 + 2 ≤ _ by simp), Nat.zero_add, List.drop_zero, List.take_succ_cons, List.take_zero, Zas, Zah, Zar, Zaf]
 rw [Zgr]
 generalize hh1 : h0 ++ [Zci.cells Zaj [.slice a0 n0 c0 e0, .slice a1 n1 c1 e1] false] = h1
 have s1 : Zba h0.length h0 h1 := by rw [← hh1]; exact Zan
 have l1 : h1.length = h0.length + 1 := by rw [← hh1]; simp
 have w1 : h1[h0.length]? = some (Zlt a0 n0 c0 e0 a1 n1 c1 e1) := by rw [← hh1]; simp [Zlt]
 have p1 := s1.get p1 (Own.lt p1)
 simp only [Zay]
 generalize hh2 : h1 ++ [Zci.cells Zaz [] false] = h2
 have s2 : Zba h1.length h1 h2 := by rw [← hh2]; exact Zan
 have l2 : h2.length = h1.length + 1 := by rw [← hh2]; simp
 have q2 : h2[h1.length]? = some (.cells Zaz (Zdl eS []) false) := by rw [← hh2]; simp
 have w2 := s2.get w1 (Own.lt w1)
 have p2 := s2.get p1 (Own.lt p1)
 have S2 := (s0.cat s1).cat s2
 have rd2 := rd.step S2
 simp only [Zxf w2, Zbg p2, Zas, Zah, Zar, Zaf, Zag]
 refine (Zwy (nd := n) (r.same rd2.same) b (by omega)).mono ?_
 rintro v h4 ⟨s4, ca, cn, cc, ce, rfl, fc⟩
 have S4 := S2.cat s4
 have rd4 := rd.step S4
 have p4 := s4.get p2 (Own.lt p2)
 have w4 := s4.get w2 (Own.lt w2)
 have q4 := s4.get q2 (Own.lt q2)
 have hcin := Ygd w n
 have hcl' := fc.1
 have hcn10 : cn ≤ 10 := by have := Zyw (Zll n) w.is; unfold Zja at hcl'; omega
 have hout : ∀ j, h.length ≤ j → j ∉ O := fun j hj hm => by have := (hlow j hm).2; omega
 have l4 := s4.le
 simp only [Zaf]
 refine Zbc.L4ind (J := fun (g : Nat) a9 n9 c9 e9 x35 h' => x35 = (g : Int) ∧ g ≤ cn ∧ ∃ q out O' tab', a9 = some (q, 0) ∧ h.length ≤ q ∧ h'[q]? = some (.cells Zaz (Zdl eS out) false) ∧ out.length = n9 ∧ Zpp out ∧ q ∉ O' ∧
  Zia (wk w) Zcw (Zox (wk w) Zcw (d - 1)) d n out ((Zja w n).drop g) = Zox (wk w) Zcw d n ∧ Zwq hb i (.slice a0 n0 c0 e0) (.slice a1 n1 c1 e1) w (fun j => A j ∨ j = q) h' O' tab' ∧ FrO O O' h h' ∧ tab'.length ≤ tab.length + g * (3 * Zku d) ∧
  h'[h.length]? = some (.cells Zad [.str n.1, .str n.2] false) ∧ h'[h0.length]? = some (Zlt a0 n0 c0 e0 a1 n1 c1 e1) ∧ h.length ∉ O' ∧ h0.length ∉ O' ∧ Zct Zjb eI h2.length h' ca cn (Zja w n) ∧ ∀ j o, cn ≠ 0 → ca = some (j, o) → j ∉ O') (m := fun g => cn - g) (hr := ?_) (g := 0) (hj := ?_) ..
 ·rintro g a9 n9 c9 e9 x35 h' ⟨rfl, hg, q, out, O', tab', rfl, hql, hq, hqn, hsm, hqO, hcand, rdg, Fg, hlen, hp, hwo, hpO, hwO, fg, hcO⟩ R hR
  have hgc : g * (3 * Zku d) ≤ 10 * (3 * Zku d) := Nat.mul_le_mul_right _ (by omega)
  unfold Zbc.L4t
  refine Zap (fun hlt => ?_) (fun hge => ?_)
  ·have hg1 : (g + 1) * (3 * Zku d) = g * (3 * Zku d) + 3 * Zku d := by rw [Nat.add_mul, Nat.one_mul]
   have hgc1 : (g + 1) * (3 * Zku d) ≤ 10 * (3 * Zku d) := Nat.mul_le_mul_right _ (by omega)
   obtain ⟨im, om, hgl, hca, _, hcell⟩ := Row.i64 (show Row h'.length h' ca cn (Zdl eI (Zja w n)) by simpa using Zct.row Zye fg) (k := g) (by omega)
   obtain ⟨k, hk, hkl⟩ := hcin _ (List.getElem_mem hgl)
   have hkk : (Zja w n)[g] = (k : Int) := hk
   obtain ⟨ii, oi, hki, na, nn, ncp, ne, rfl, _, hri, _, _, _, hrow, hnl⟩ := (r.same rdg.same).inst (k := k) (by omega)
   have hbk := b.is _ (List.getElem_mem hkl)
   rw [hkk] at hcell
   simp only [hca, Zaw, Int.toNat_natCast, hcell, Zau, Zze hwo, Zat hp, Nat.zero_add, List.getElem?_cons_succ, List.getElem?_cons_zero, Zaf, hri, Zas, Zah, Zar, Zag, true_and]
   rw [← hca]
   refine ⟨by omega, by omega, ?_⟩
   refine (Yke (i := w.is[k]) (t := n.2) hrow (by omega) (by omega) (by omega) (fun p hp => (hbk.2.2.2 p hp).2)).mono ?_
   rintro v h5 ⟨s5, ma, mn, mc, me, rfl, fm⟩
   have hneeds : (wk w).needs (k : Int) n.2 = Zgj w.is[k] n.2 := by show Zgj (Ydr w (k : Int)) n.2 = _; rw [Ygf hkl]
   have rd5 := rdg.step s5
   have q5 := s5.get hq (Own.lt hq)
   have p5 := s5.get hp (Own.lt hp)
   have w5 := s5.get hwo (Own.lt hwo)
   have f5 : Zct Zjb eI h2.length h5 ca cn (Zja w n) := fg.same s5
   have F5 := Fg.trans (FrO.of_same s5)
   have hdrop : (Zja w n).drop g = (k : Int) :: (Zja w n).drop (g + 1) := by rw [List.drop_eq_getElem_cons hgl, hkk]
   rw [hdrop] at hcand
   have skip : Zia (wk w) Zcw (Zox (wk w) Zcw (d - 1)) d n out ((Zja w n).drop (g + 1)) = Zox (wk w) Zcw d n → Zbc.J40 (Zvg (30 * Zku d) d hb i (.slice a0 n0 c0 e0) (.slice (some (ii, oi)) n1 c1 e1) w A n h O tab) R (g : Int) (cn : Int) ca cn cc ce h0.length 0 h.length 0 (d : Int) (some (i, 0)) (some (q, 0)) n9 c9 e9 h5 := by
    intro hc
    apply Zbc.J40i
    rw [Zbr (by omega)]
    exact hR (g + 1) _ _ _ _ _ _ (by omega) ⟨rfl, by omega, q, out, O', tab', rfl, hql, q5, hqn, hsm, hqO, hc, rd5, F5, by omega, p5, w5, hpO, hwO, f5, hcO⟩
   simp only [Zcx, Zah, Zaf, Zam, Zar, Zze w5, List.getElem?_cons_succ, List.getElem?_cons_zero, true_and]
   refine Zcc (fun hok => ?_) (fun hok => ?_)
   ·refine skip ?_
    rw [← hcand, Zyc]
    rw [hneeds]
    cases hh : Zgj w.is[k] n.2 with
    | none => rfl
    | some _ => rw [hh] at hok; cases hok
   ·obtain ⟨ms, hms⟩ := Option.isSome_iff_exists.1 hok
    have hms3 := Yax hw hkl hms
    rw [hms] at fm hneeds
    simp only [Option.getD_some] at fm
    have hmn := fm.1
    have hm3 := hms3.1
    have hk10 : k < 10 := by omega
    have hdl : (Zcw (k : Int)).length ≤ 6 := by rw [Zrn (by omega), Int.toNat_natCast, Zph hk10]; simp
    have hql5 := Own.lt q5
    have hp5l := Own.lt p5
    have hw5l := Own.lt w5
    have hAA : ∀ j, (A j ∨ j = q) → j < h5.length := fun j hj => by rcases hj with hj | hj; have := hA j hj; omega; omega
    have go : (ms = [] ∨ 0 < d) → Zbc.J8 (Zvg (30 * Zku d) d hb i (.slice a0 n0 c0 e0) (.slice (some (ii, oi)) n1 c1 e1) w A n h O tab) R (k : Int) ma mn mc me (some (i, 0)) (d : Int) h.length 0 h0.length 0 (some (q, 0)) n9 c9 e9 ca cn cc ce (cn : Int) (g : Int) h5 := by
     intro hd
     apply Zbc.J8i
     refine (Ybu (by omega) (by omega)).mono ?_
     rintro v h6 ⟨rfl, s6⟩
     simp only [Zag, Zav]
     generalize hh7 : h6 ++ [Zci.cells Zaz [.str (Zcw (k : Int))] false] = h7
     have s7 : Zba h6.length h6 h7 := by rw [← hh7]; exact Zan
     have l7 : h7.length = h6.length + 1 := by rw [← hh7]; simp
     have c7 : h7[h6.length]? = some (.cells Zaz (Zdl eS ([[]].map (Zqg (Zcw k) 0))) false) := by rw [← hh7]; simp [Zqg, eS]
     have S7 := s6.cat s7
     have hle6 := s6.le
     have rd7 : Zwq hb i (.slice a0 n0 c0 e0) (.slice (some (ii, oi)) n1 c1 e1) w (fun j => (A j ∨ j = q) ∨ j = h6.length) h7 O' tab' :=
      rd5.agree (by omega) (fun j hj => S7.eq j (by have := rd5.same.le; omega)) (fun j hj => S7.eq j (rd5.low j hj).2) (fun j hj _ _ _ => S7.eq j hj) fun j hj _ h1 => by rintro (h2 | h2); exact h1 h2; omega
     have h6O : h6.length ∉ O' := fun hm => by have := (rd5.low _ hm).2; omega
     refine Zbc.L10ind (J := fun (u : Nat) a14 n14 c14 e14 x66 h' => x66 = (u : Int) ∧ u ≤ mn ∧ ∃ q14 rows O6 tab6, a14 = some (q14, 0) ∧ h5.length ≤ q14 ∧ h'[q14]? = some (.cells Zaz (Zdl eS (rows.map (Zqg (Zcw k) 0))) false) ∧ rows.length = n14 ∧ rows.length ≤ 60 ∧ q14 ∉ O6 ∧
      Zon (Zox (wk w) Zcw (d - 1)) rows (ms.drop u) = Zon (Zox (wk w) Zcw (d - 1)) [[]] ms ∧ (∀ r ∈ rows, r.length = u ∧ ∀ s ∈ r, s.length ≤ 1200) ∧ Zwq hb i (.slice a0 n0 c0 e0) (.slice (some (ii, oi)) n1 c1 e1) w (fun j => (A j ∨ j = q) ∨ j = q14) h' O6 tab6 ∧ FrO O' O6 h5 h' ∧ tab6.length ≤ tab'.length + u * Zku d)
      (m := fun u => mn - u) (hr := ?_) (g := 0) (hj := ?_) ..
     ·rintro u a14 n14 c14 e14 x66 h8 ⟨rfl, hu, q14, rows, O6, tab6, rfl, hq14l, hq14, hrn, hr60, hq14O, hrow8, hrl, rd8, F8, hl8⟩ R10 hR10
      have hle8 := F8.le
      have hqc : u * Zku d ≤ 3 * Zku d := Nat.mul_le_mul_right _ (by omega)
      have hq14' := Own.lt hq14
      have fm8 : Row h8.length h8 ma (mn * 2) (Zdl eP ms) := F8.row (fm.row Zet) fun j o hn ha hm => by
       obtain ⟨_, h0' | ⟨j', hj', hb', _⟩⟩ := fm
       ·omega
       ·rw [ha] at hj'; cases hj'
        have := (rdg.low _ hm).2
        omega
      unfold Zbc.L10t
      refine Zap (fun hlt => ?_) (fun hge => ?_)
      ·have hum : u < mn := by omega
       have hq1 : (u + 1) * Zku d = u * Zku d + Zku d := by rw [Nat.add_mul, Nat.one_mul]
       have hqc1 : (u + 1) * Zku d ≤ 3 * Zku d := Nat.mul_le_mul_right _ (by omega)
       have hpos : 0 < d := hd.resolve_left (fun hm => by rw [hm] at hmn; simp at hmn; omega)
       have hpc : Zku d = Ydj (d - 1) := by unfold Zku; rw [if_neg (by omega)]
       obtain ⟨jm, om2, hul, hma, _, hrm, _⟩ := fm8.pr (k := u) hum
       simp only [hma, Zaw, Int.toNat_natCast, hrm, Zas, Zah, Zar, Zag, Zav]
       refine ⟨by omega, ?_⟩
       rw [← hma, Zgr]
       generalize hh10 : h8 ++ [Zci.cells Zad [.str ms[u].1, .str ms[u].2] false] = h10
       have o10 : h10[h8.length]? = some (.cells Zad [.str ms[u].1, .str ms[u].2] false) := by rw [← hh10]; simp
       have s10 : Zba h8.length h8 h10 := by rw [← hh10]; exact Zan
       have l10 : h10.length = h8.length + 1 := by rw [← hh10]; simp
       have rd10 := rd8.step s10
       simp only [Zay, Zbg o10, Zas, Zah, Zar, Zag]
       rw [show IntKind.wrap .i64 ((d : Int) - 1) = ((d - 1 : Nat) : Int) by rw [IntWalk.i64_in _ (by omega)]; omega]
       refine (ih hpos (A := fun j => (A j ∨ j = q) ∨ j = q14) (h := h10) (n := ms[u]) (fun j hj => by rcases hj with hj | hj; have := hAA j hj; omega; omega) rd10 (hms3.2 _ (List.getElem_mem hul)) (by omega)).mono ?_
       rintro v h11 ⟨la, ln, lc, le, good, rfl, O11, tab11, rd11, F11, hl11, hgood, hbad⟩
       have FF : FrO O' O11 h5 h11 := (F8.trans (FrO.of_same s10)).trans F11
       have hdu : ms.drop u = ms[u] :: ms.drop (u + 1) := List.drop_eq_getElem_cons hul
       rw [hdu] at hrow8
       simp only [Zcx, Zah, Zaf, Zam, Zar]
       cases good with
       | false =>
        simp only [Bool.not_false, Zcf]
        refine Zvg.bad rd11 (fun j hj => .inl (.inl hj)) (F5.trans FF) (by omega) ?_
        rw [← hcand]
        refine Zsa hneeds hd ?_
        rw [← hrow8, Zon, hbad rfl]
       | true =>
        obtain ⟨ps, slp, hps⟩ := hgood rfl
        have hps60 := Ztg hps
        have hp60 := hps60.1
        have hpl : ps.length = ln := by obtain ⟨_, _, _, _, hh⟩ := slp; exact hh
        simp only [Bool.not_true, Zbh]
        have hle11 := F11.le
        have v11 : h11[q14]? = some (.cells Zaz (Zdl eS (rows.map (Zqg (Zcw k) 0))) false) := F11.get (s10.get hq14 hq14') hq14O
        have hq14O11 : q14 ∉ O11 := F11.nin hq14O (by omega)
        generalize hh12 : h11 ++ [Zci.cells Zaz [] false] = h12
        have s12 : Zba h11.length h11 h12 := by rw [← hh12]; exact Zan
        have c12 : h12[h11.length]? = some (.cells Zaz [] false) := by rw [← hh12]; simp
        have hq14'' : q14 < h11.length := by omega
        have hnl : ∀ x, (Zdj (rows.take x) ps).length ≤ 3600 := fun x => by
         rw [Zty, List.length_take]
         exact Nat.le_trans (Nat.mul_le_mul (show min x rows.length ≤ 60 by omega) hp60) (by omega)
        refine Zbc.L17ind (J := fun (x : Nat) a19 n19 c19 e19 x85 h' => x85 = (x : Int) ∧ x ≤ n14 ∧ ∃ q19, a19 = some (q19, 0) ∧ h11.length ≤ q19 ∧ h'[q19]? = some (.cells Zaz (Zdl eS ((Zdj (rows.take x) ps).map (Zqg (Zcw k) 0))) false) ∧ (Zdj (rows.take x) ps).length = n19 ∧ Zba h11.length h11 h')
         (m := fun x => n14 - x) (hr := ?_) (g := 0) (hj := ⟨rfl, by omega, h11.length, rfl, Nat.le_refl _, by simpa [Zdj] using c12, by simp [Zdj], s12⟩) ..
        rintro x a19 n19 c19 e19 x85 h13 ⟨rfl, hx, q19, rfl, hq19l, hq19, hn19, s13⟩ R17 hR17
        unfold Zbc.L17t
        refine Zap (fun hlt17 => ?_) (fun hge17 => ?_)
        ·have hxr : x < rows.length := by omega
         have v13 := s13.get v11 hq14''
         have hrx := hrl _ (List.getElem_mem hxr)
         have hcx : (Zdl eS (rows.map (Zqg (Zcw k) 0)))[x]? = some (.str (Zqg (Zcw k) 0 rows[x])) := by
          have : Zdl eS (rows.map (Zqg (Zcw (k : Int)) 0)) = rows.map fun r => Zaq.str (Zqg (Zcw k) 0 r) := by rw [Ydh]; simp [strs]
          rw [this]; simp [hxr]
         simp only [Zaw, Int.toNat_natCast, Zat v13, Nat.zero_add, Nat.mul_one, hcx, Zag]
         refine ⟨by omega, ?_⟩
         have hopl := Zzr (Zcw (k : Int)) rows[x] 0 (Zcw (k : Int)) hrx.2
         have hnx := hnl x
         refine Zbc.L20ind (J := fun (y : Nat) a19 n19 c19 e19 x91 h' => x91 = (y : Int) ∧ y ≤ ln ∧ ∃ q19, a19 = some (q19, 0) ∧ h11.length ≤ q19 ∧ h'[q19]? = some (.cells Zaz (Zdl eS ((Zdj (rows.take x) ps ++ (ps.take y).map fun p => rows[x] ++ [p]).map (Zqg (Zcw k) 0))) false) ∧
          (Zdj (rows.take x) ps ++ (ps.take y).map fun p => rows[x] ++ [p]).length = n19 ∧ Zba h11.length h11 h')
          (m := fun y => ln - y) (hr := ?_) (g := 0) (hj := ⟨rfl, by omega, q19, rfl, hq19l, by simpa using hq19, by simpa using hn19, s13⟩) ..
         rintro y a19 n19 c19 e19 x91 h13 ⟨rfl, hy, q19, rfl, hq19l, hq19, hn19, s13⟩ R20 hR20
         unfold Zbc.L20t
         refine Zap (fun hlt20 => ?_) (fun hge20 => ?_)
         ·obtain ⟨lm, lo, hyl, hla, _, hlcell⟩ := Row.el1 Zqi (slp.same s13).row (k := y) (by omega)
          have hlc : Zal h13 (.ptr (some (lm, lo + y * 1))) = some (.str ps[y]) := by rw [hlcell]; simp [eS]
          have hpy := hps60.2 _ (List.getElem_mem hyl)
          have hn19' : n19 ≤ 3660 := by
           rw [← hn19, List.length_append, List.length_map, List.length_take]
           omega
          simp only [hla, Zaw, Int.toNat_natCast, hlc, Zag]
          rw [Zbr (k := u) (by omega), Ymu (g := u) (by omega)]
          refine ⟨by omega, ⟨by omega, by omega, by simp; omega⟩, ?_⟩
          have e1 : (Zqg (Zcw k) 0 rows[x] ++ [Zyx u]) ++ ps[y] = Zqg (Zcw (k : Int)) 0 (rows[x] ++ [ps[y]]) := by rw [Ycj (Zcw (k : Int)), hrx.1, Nat.zero_add]
          refine ⟨by simp only [List.length_cons, List.length_nil]; omega, by simp only [List.length_append, List.length_cons, List.length_nil]; omega, ?_⟩
          rw [e1, ← hla]
          simp only [Zav]
          have hfl : (Zdl eS ((Zdj (rows.take x) ps ++ (ps.take y).map fun p => rows[x] ++ [p]).map (Zqg (Zcw k) 0))).length = n19 := by rw [Zbf Zqi, List.length_map]; omega
          refine (Vec.mk1 hq19).push Zpv Zxt Zya Zxn hfl rfl (by omega) (fun h16 hl16 hi16 hk16 => ?_)
          simp only [Zaf]
          rw [Zbr (k := y) (by omega)]
          have hq19' := Own.lt hq19
          have hs13 := s13.le
          refine hR20 (y + 1) _ _ _ _ _ _ (by omega) ⟨rfl, by omega, h13.length + 1, rfl, by omega, ?_, ?_, ⟨by omega, fun j hj => ?_⟩⟩
          ·rw [hi16, List.take_succ_eq_append_getElem hyl]; simp only [List.map_append, Zeg, List.append_assoc, List.map_cons, List.map_nil, Zhj, Yes, eS, List.append_nil]
          ·rw [List.take_succ_eq_append_getElem hyl, List.map_append, ← List.append_assoc, List.length_append, hn19]; rfl
          ·rw [hk16 j (by omega) (fun j' hj' => by cases hj'; omega)]; exact s13.eq j hj
         ·have : y = ln := by omega
          subst this
          apply Zbc.A20x6i
          rw [Zbr (by omega)]
          have hnext : Zdj (rows.take (x + 1)) ps = Zdj (rows.take x) ps ++ (ps.take ps.length).map fun p => rows[x] ++ [p] := by
           rw [List.take_succ_eq_append_getElem hxr, List.take_length]; unfold Zdj; rw [List.flatMap_append]; simp
          rw [hpl] at hnext
          refine hR17 (x + 1) _ _ _ _ _ _ (by omega) ⟨rfl, by omega, q19, rfl, hq19l, by rw [hnext]; exact hq19, by rw [hnext]; exact hn19, s13⟩
        ·have : x = n14 := by omega
         subst this
         rw [List.take_of_length_le (by omega)] at hq19 hn19
         apply Zbc.A17x4i
         have rd13 := rd11.step s13
         have F13 := FF.trans (FrO.of_same s13)
         refine Zap (fun hbig => ?_) (fun hsml => ?_)
         ·refine Zvg.bad rd13 (fun j hj => .inl (.inl hj)) (F5.trans F13) (by omega) ?_
          rw [← hcand]
          refine Zsa hneeds hd ?_
          rw [← hrow8, Zon, hps]
          simp only
          rw [if_pos (by omega)]
         ·rw [Zbr (by omega)]
          refine hR10 (u + 1) _ _ _ _ _ _ (by omega) ⟨rfl, by omega, q19, _, O11, tab11, rfl, by omega, hq19, hn19, by omega, fun hm => by have := (rd11.low _ hm).2; omega, ?_, ?_, ?_, F13, by omega⟩
          ·rw [← hrow8, Zon, hps]
           simp only
           rw [if_neg (by omega)]
          ·intro r hr
           unfold Zdj at hr
           simp only [List.mem_flatMap, List.mem_map] at hr
           obtain ⟨r0, h0, p, hp, rfl⟩ := hr
           have := hrl r0 h0
           refine ⟨by simp [this.1], fun s hs => ?_⟩
           rcases List.mem_append.1 hs with hs | hs
           ·exact this.2 s hs
           ·rw [List.mem_singleton] at hs; subst hs; exact hps60.2 _ hp
          ·exact rd11.agree s13.le (fun j hj => s13.eq j (by have := rd11.same.le; omega)) (fun j hj => s13.eq j (rd11.low j hj).2) (fun j hj _ _ _ => s13.eq j hj) fun j hj _ h1 => by rintro (h2 | h2); exact h1 (.inl h2); omega
      ·have : u = mn := by omega
       subst this
       rw [List.drop_of_length_le (by omega), Zon] at hrow8
       apply Zbc.A10x2i
       have q8 := F8.get q5 hqO
       have p8 := F8.get p5 hpO
       have w8 := F8.get w5 hwO
       have hq8O := F8.nin hqO hql5
       have hp8O := F8.nin hpO hp5l
       have hw8O := F8.nin hwO hw5l
       have hcl5 : ∀ j o, cn ≠ 0 → ca = some (j, o) → j < h5.length := fun j o hn ha => by
        obtain ⟨_, h0' | ⟨j', hj', hb', hc'⟩⟩ := f5
        ·omega
        ·rw [ha] at hj'; cases hj'; exact Own.lt hc'
       have f8 : Zct Zjb eI h2.length h8 ca cn (Zja w n) := by
        obtain ⟨hf1, hf2⟩ := f5
        refine ⟨hf1, ?_⟩
        by_cases hn0 : cn = 0
        ·exact .inl hn0
        ·refine hf2.imp id fun ⟨j, ha, hbj, hc⟩ => ⟨j, ha, hbj, F8.get hc (hcO j 0 hn0 ha)⟩
       have hq14q : q14 ≠ q := by omega
       refine Zbc.L30ind (J := fun (x : Nat) a9 n9 c9 e9 x116 h' => x116 = (x : Int) ∧ x ≤ n14 ∧ ∃ q', a9 = some (q', 0) ∧ h.length ≤ q' ∧ h'[q']? = some (.cells Zaz (Zdl eS (out ++ (rows.take x).map (jnD (Zcw k)))) false) ∧ (out ++ (rows.take x).map (jnD (Zcw k))).length = n9 ∧ (∀ s ∈ (out ++ (rows.take x).map (jnD (Zcw k))), s.length ≤ 1200) ∧
        q' ∉ O6 ∧ q14 ≠ q' ∧ h'[q14]? = some (.cells Zaz (Zdl eS (rows.map (Zqg (Zcw k) 0))) false) ∧ Zwq hb i (.slice a0 n0 c0 e0) (.slice (some (ii, oi)) n1 c1 e1) w (fun j => A j ∨ j = q') h' O6 tab6 ∧ FrO O O6 h h' ∧
        h'[h.length]? = some (.cells Zad [.str n.1, .str n.2] false) ∧ h'[h0.length]? = some (Zlt a0 n0 c0 e0 (some (ii, oi)) n1 c1 e1) ∧ Zct Zjb eI h2.length h' ca cn (Zja w n))
        (m := fun x => n14 - x) (hr := ?_) (g := 0) (hj := ⟨rfl, by omega, q, rfl, hql, by simpa using q8, by simpa using hqn, by simpa using hsm.2, hq8O, hq14q, hq14, rd8.weak (fun j hj _ h1 h2 => h1 (.inl h2)), F5.trans F8, p8, w8, f8⟩) ..
       rintro x a9 n9 c9 e9 x116 h13 ⟨rfl, hx, q', rfl, hql', hq', hqn', hsm', hqO', hne', v13, rd13, F13, p13, w13, f13⟩ R30 hR30
       unfold Zbc.L30t
       refine Zap (fun hlt30 => ?_) (fun hge30 => ?_)
       ·have hxr : x < rows.length := by omega
        have hrx := hrl _ (List.getElem_mem hxr)
        have hcx : (Zdl eS (rows.map (Zqg (Zcw k) 0)))[x]? = some (.str (Zqg (Zcw k) 0 rows[x])) := by
         have : Zdl eS (rows.map (Zqg (Zcw (k : Int)) 0)) = rows.map fun r => Zaq.str (Zqg (Zcw k) 0 r) := by rw [Ydh]; simp [strs]
         rw [this]; simp [hxr]
        have hopl := Zzr (Zcw (k : Int)) rows[x] 0 (Zcw (k : Int)) hrx.2
        simp only [Zaw, Int.toNat_natCast, Zat v13, Nat.zero_add, Nat.mul_one, hcx, Zag]
        refine ⟨by omega, ?_⟩
        have key : ∀ s, s = jnD (Zcw (k : Int)) rows[x] → Zbc.J34 (Zvg (30 * Zku d) d hb i (.slice a0 n0 c0 e0) (.slice (some (ii, oi)) n1 c1 e1) w A n h O tab) R R30 s (some (q', 0)) n9 c9 e9 (x : Int) (n14 : Int) (some (q14, 0)) n14 c14 e14 ma u mc me (g : Int) (cn : Int) ca cn cc ce h0.length 0 h.length 0 (d : Int) (some (i, 0)) h13 := by
         rintro s rfl
         apply Zbc.J34i
         simp only [Zav]
         refine Zap (fun hb12 => ?_) (fun hs12 => ?_)
         ·refine Zvg.bad rd13 (fun j hj => .inl hj) F13 (by omega) ?_
          rw [← hcand]
          exact Zvh hneeds hd hrow8.symm (.inl ⟨_, List.mem_map_of_mem (List.getElem_mem hxr), by omega⟩)
         ·have hq'l := Own.lt hq'
          have hn120 : n9 ≤ 120 := by
           rw [← hqn']
           have := hsm.1
           simp only [List.length_append, List.length_map, List.length_take]
           omega
          refine (Vec.mk1 hq').push Zpv Zxt Zya Zxn (by rw [Zbf Zqi]; omega) rfl (by omega) (fun h16 hl16 hi16 hk16 => ?_)
          have hmap : out ++ (rows.take (x + 1)).map (jnD (Zcw k)) = (out ++ (rows.take x).map (jnD (Zcw k))) ++ [jnD (Zcw k) rows[x]] := by
           rw [List.take_succ_eq_append_getElem hxr, List.map_append, ← List.append_assoc]; rfl
          have hk' : ∀ j, j < h13.length → j ≠ q' → h16[j]? = h13[j]? := fun j hj hne => hk16 j hj fun j' hj' => by cases hj'; exact hne
          have hti : ∀ {j : Nat} {t : TypeId} {l : List Zaq}, h13[j]? = some (.cells t l false) → t ≠ Zaz → j ≠ q' := fun hj hne => Yqf hj hq' hne
          have rd16 : Zwq hb i (.slice a0 n0 c0 e0) (.slice (some (ii, oi)) n1 c1 e1) w (fun j => A j ∨ j = h13.length + 1) h16 O6 tab6 :=
           rd13.agree (by omega) (fun j hj => hk' j (by have := rd13.same.le; omega) (by have := rd.same.le; omega)) (fun j hj => hk' j (rd13.low j hj).2 fun e => hqO' (e ▸ hj)) (fun j hj _ h1 _ => hk' j hj fun e => h1 (.inr e)) fun j hj _ h1 => by rintro (h2 | h2); exact h1 (.inl h2); omega
          have F16 : FrO O O6 h h16 := ⟨by have := F13.le; omega, fun j hj hn => by rw [hk' j (by have := F13.le; omega) (by omega)]; exact F13.eq j hj hn, F13.nw⟩
          simp only [Zaf]
          apply Zbc.J37i
          rw [Zbr (by omega)]
          refine hR30 (x + 1) _ _ _ _ _ _ (by omega) ⟨rfl, by omega, h13.length + 1, rfl, by omega, ?_, by rw [hmap, List.length_append, hqn']; rfl, fun s hs => ?_, fun hm => by have := (rd13.low _ hm).2; omega, by have := Own.lt v13; omega, by rw [hk' _ (Own.lt v13) hne']; exact v13, rd16, F16,
           by rw [hk' _ (Own.lt p13) (hti p13 (by decide))]; exact p13, by rw [hk' _ (Own.lt w13) (hti w13 (by decide))]; exact w13, f13.kpt fun j hj _ ⟨cs, hc⟩ => hk' j hj (hti hc (by decide))⟩
          ·rw [hi16, hmap, Zeg]; simp [eS]
          ·rw [hmap] at hs
           rcases List.mem_append.1 hs with hs | hs
           ·exact hsm' s hs
           ·rw [List.mem_singleton] at hs; subst hs; omega
        refine Zap (fun hpos => ?_) (fun hz => ?_)
        ·refine ⟨by simp only [List.length_cons, List.length_nil]; omega, key _ ?_⟩
         rw [Yjh, if_neg]
         intro e0; have := hrx.1; rw [e0] at this; simp at this; omega
        ·refine key _ ?_
         rw [Yjh, if_pos (List.eq_nil_of_length_eq_zero (by rw [hrx.1]; omega))]
       ·have : x = n14 := by omega
        subst this
        rw [List.take_of_length_le (by omega)] at hq' hqn' hsm'
        apply Zbc.A30x8i
        simp only [Zav]
        refine Zap (fun hb60 => ?_) (fun hs60 => ?_)
        ·refine Zvg.bad rd13 (fun j hj => .inl hj) F13 (by omega) ?_
         rw [← hcand]
         exact Zvh hneeds hd hrow8.symm (.inr (by omega))
        ·apply Zbc.J40i
         rw [Zbr (by omega)]
         have hsm2 : Zpp (out ++ rows.map (jnD (Zcw k))) := ⟨by omega, hsm'⟩
         exact hR (g + 1) _ _ _ _ _ _ (by omega) ⟨rfl, by omega, q', _, O6, tab6, rfl, hql', hq', hqn', hsm2, hqO', by rw [← hcand, Zxo hneeds hd hrow8.symm hsm2], rd13, F13, by omega, p13, w13, hp8O, hw8O, f13, fun j o hn ha => F8.nin (hcO j o hn ha) (hcl5 j o hn ha)⟩
     ·exact ⟨rfl, by omega, h6.length, [[]], O', tab', rfl, by omega, c7, rfl, by simp, h6O, by rw [List.drop_zero], by simp, rd7, FrO.of_same S7, by omega⟩
    refine Zap (fun hpos => ?_) (fun hz => ?_)
    ·have hm0 : ms ≠ [] := fun hm => by rw [hm] at hmn; simp at hmn; omega
     refine Zfe (fun h0 => ?_) (fun h0 => ?_)
     ·refine skip ?_
      rw [← hcand, Zym hneeds hm0 (by omega)]
     ·exact go (.inr (by omega))
    ·exact go (.inl (List.eq_nil_of_length_eq_zero (by omega)))
  ·have : g = cn := by omega
   subst this
   rw [List.drop_of_length_le (by omega)] at hcand
   unfold Zia at hcand
   apply Zbc.A4x0i
   have rdf := rdg.weak (A' := A) fun j _ _ h1 h2 => h1 (.inl h2)
   exact ⟨_, _, _, _, _, rfl, O', tab', rdf, Fg, by omega, fun _ => ⟨out, ⟨q, rfl, by rintro (h1 | h1); have := hA q h1; omega; exact hqO h1, hq, hqn⟩, hcand.symm⟩, fun h => (by cases h)⟩
 ·have hcO : ∀ j o, cn ≠ 0 → ca = some (j, o) → j ∉ O := fun j o hn ha => by
   obtain ⟨_, h0' | ⟨j', hj', hb', _⟩⟩ := fc
   ·omega
   ·rw [ha] at hj'; cases hj'; exact hout _ (by omega)
  have rd4' : Zwq hb i (.slice a0 n0 c0 e0) (.slice a1 n1 c1 e1) w (fun j => A j ∨ j = h1.length) h4 O tab :=
   rd.agree S4.le (fun j hj => S4.eq j (by have := rd.same.le; omega)) (fun j hj => S4.eq j (rd.low j hj).2) (fun j hj _ _ _ => S4.eq j hj) fun j hj _ h1 => by rintro (h2 | h2); exact h1 h2; omega
  exact ⟨rfl, by omega, h1.length, [], O, tab, rfl, by omega, q4, rfl, ⟨by simp, by simp⟩, hout _ (by omega), by rw [List.drop_zero]; exact (Ydp (wk w) Zcw d n).symm, rd4', FrO.of_same S4, by omega, p4, w4, hout _ (by omega), hout _ (by omega), fc, hcO⟩
end Go.Sim
