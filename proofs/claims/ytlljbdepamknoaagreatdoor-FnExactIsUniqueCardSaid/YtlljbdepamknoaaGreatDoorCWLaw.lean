/- A part of the proof of a statement of this seat: see the text that holds the theorem. No condition. -/
import Derived.Test.YtlljbdepamknoaaGreatDoorPTCTy
import Derived.Test.YtlljbdepamknoaaGreatDoorCVars
import Derived.Test.YtlljbdepamknoaaGreatDoorCTy
import Derived.Test.YtlljbdepamknoaaGreatDoorPTCWVar
import Derived.Test.YtlljbdepamknoaaGreatDoorPTCWLaw
set_option linter.unusedVariables false
set_option linter.unusedSimpArgs false
set_option linter.all false
set_option linter.unusedVariables false
set_option linter.unusedSimpArgs false
set_option maxRecDepth 20000
namespace Go.Sim
open Go Go.RowKit

theorem Zeo {h : Zaa} {t : TypeId} {cs : List Zaq} {o : Nat} : Zal (h ++ [.cells t cs false]) (.ptr (some (h.length, o))) = cs[o]? := Zat (t := t) (cs := cs) (ro := false) (by simp)
theorem Yco {h : Zaa} {t : TypeId} {cs : List Zaq} {n : Nat} (hn : cs.length = n) : Zbx (h ++ [.cells t cs false]) (.ptr (some (h.length, 0))) n = some cs := by
 rw [Zeb (show (h ++ [Zci.cells t cs false])[h.length]? = some (.cells t cs false) by simp) (by omega)]; simp [← hn]
theorem Zan {h : Zaa} {x : Zci} : Zba h.length h (h ++ [x]) := Zba.app (Nat.le_refl _) _
theorem Zsu {h : Zaa} {t : TypeId} {cs vs : List Zaq} (hl : cs.length = vs.length) : Zbn (h ++ [.cells t cs false]) (.ptr (some (h.length, 0))) vs = some (h ++ [.cells t vs false]) := by
 rw [Zca (show (h ++ [Zci.cells t cs false])[h.length]? = some (.cells t cs false) by simp) (by omega)]
 simp [putRow, hl]
theorem Zgr {h : Zaa} {t : TypeId} {x y a b : Zaq} : Zbn (h ++ [.cells t [x, y] false]) (.ptr (some (h.length, 0))) [a, b] = some (h ++ [.cells t [a, b] false]) := Zsu rfl
theorem Yry {h : Zaa} {t : TypeId} {x y z a b c : Zaq} : Zbn (h ++ [.cells t [x, y, z] false]) (.ptr (some (h.length, 0))) [a, b, c] = some (h ++ [.cells t [a, b, c] false]) := Zsu rfl
theorem Row.sl {b : Nat} {h : Zaa} {a : Pt} {n k : Nat} {l : List Nd} (r : Row b h a (n * 2) (Zdl eP l)) (hk : k ≤ n) (hl : l.length = n) : Row b h a (k * 2) (Zdl eP (l.take k)) := by
 obtain ⟨h1, h2⟩ := r
 have e : (Zdl eP (l.take k)).length = k * 2 := by rw [Zbf Zet, List.length_take, Nat.min_eq_left (by omega)]
 refine ⟨e, ?_⟩
 rcases h2 with h0 | ⟨i, o, t, all, ro, ha, hb, hi, hle, hcs⟩
 ·exact .inl (by omega)
 ·refine .inr ⟨i, o, t, all, ro, ha, hb, hi, by omega, ?_⟩
  rw [← Yip Zet, hcs, List.take_take, Nat.min_eq_left (by omega)]
theorem Yey {b : Nat} {h : Zaa} {a : Pt} {n c k : Nat} {e : Bool} {l : List Nd} {K : Zaq → Prop} (r : Row b h a (n * 2) (Zdl eP l)) (hl : l.length = n) (hk : k ≤ n) (hc : n ≤ c) {z : Int} (hz : z = k)
  (hK : ∀ a' c' e', Row b h a' (k * 2) (Zdl eP (l.take k)) → k ≤ c' → K (.slice a' k c' e')) : Zny a n c e 2 none (some (.int .i64 z)) none K := by
 subst hz
 simp only [Zny, Zkq]
 refine ⟨by omega, ?_⟩
 split
 ·have h0 : n = 0 := by
   obtain ⟨h1, h2⟩ := r
   rcases h2 with h2 | ⟨i, o, t, all, ro, ha, _⟩
   ·omega
   ·cases ha
  have hk0 : k = 0 := by omega
  subst hk0
  exact ⟨⟨by trivial, by simp, .inl (by trivial)⟩, hK _ _ _ (by simpa using Row.nil) (by omega)⟩
 ·rename_i i o
  refine ⟨fun hlt => ?_, fun hlt => ?_⟩
  ·have e2 : ((k : Int) - 0).toNat = k := by omega
   have e3 : o + Int.toNat 0 * 2 = o := by simp
   have e4 : ((c : Int) - 0).toNat = c := by omega
   rw [e2, e3, e4]
   exact hK _ _ _ (r.sl hk hl) (by omega)
  ·have hk0 : k = 0 := by omega
   subst hk0
   exact hK _ _ _ (by simpa using Row.nil) (by omega)

theorem Ydq {h : Zaa} {x : Nd} {j : Nat} {c : List Nat} (hj : Zal h (.ptr (some (j, 0))) = some (.str c)) (hjl : j < h.length) :
  Zae pg Zcs [.agg [.str x.1, .str x.2], .ptr (some (j, 0))] h fun v h' => v = .bool (decide (x.1 = c)) ∧ Zba h.length h h' := by
 apply Znc.call
 simp only [Zav, Zeo, List.getElem?_cons_zero, Zag]
 have := (Zan (h := h) (x := .cells Zbq [.str x.1, .str x.2] false)).cell hjl hj
 rw [this]
 exact ⟨rfl, Zan⟩
theorem Yeb {h : Zaa} {a : Pt} {n c : Nat} {e : Bool} {cs : List Nd} {j : Nat} {s : List Nat} (r : Row h.length h a (n * 2) (Zdl eP cs)) (hn : n ≤ 4611686018427387904) (hj : Zal h (.ptr (some (j, 0))) = some (.str s)) (hjl : j < h.length) :
  Zae pg Zdf [.slice a n c e, .fn Zcs [.ptr (some (j, 0))]] h fun v h' => (∃ z : Int, v = .int .i64 z ∧ decide (z ≥ 0) = Zfo cs s) ∧ Zba h.length h h' := by
 have hl : cs.length = n := by have := r.1; rw [Zbf Zet] at this; omega
 apply Zbm.call
 refine Zbm.L2ind _ _ _ _ _ _ _ (J := fun (g : Nat) x8 h' => x8 = (g : Int) ∧ g ≤ n ∧ Zba h.length h h' ∧ Zfo (cs.take g) s = false) (fun g => n - g) ?_ 0 _ _ ⟨rfl, by omega, Zba.refl _ _, rfl⟩
 rintro g x8 h' ⟨rfl, hg, hS, hk⟩ R hR
 unfold Zbm.L2t
 refine Zap (fun hlt => ?_) (fun hge => ?_)
 ·obtain ⟨i, o, hgl, rfl, _, hr, _⟩ := (r.same hS).pr (k := g) (by omega)
  simp only [Zaw, Int.toNat_natCast, hr, Zas, Zah, Zar, Zag]
  refine ⟨by omega, (Ydq (x := cs[g]) (hS.cell hjl hj) (by have := hS.le; omega)).mono ?_⟩
  rintro v h2 ⟨rfl, s2⟩
  simp only [Zam]
  have hS2 := hS.trans (s2.mono hS.le)
  refine Zap (fun he => ?_) (fun he => ?_)
  ·refine ⟨⟨_, rfl, ?_⟩, hS2⟩
   have : Zfo cs s = true := by unfold Zfo; rw [List.any_eq_true]; exact ⟨_, List.getElem_mem hgl, by simpa using he⟩
   rw [this]; simp
  ·rw [Zbr (by omega)]
   exact hR (g + 1) _ _ (by omega) ⟨rfl, by omega, hS2, by rw [Zwa hgl, hk]; simp [he]⟩
 ·apply Zbm.A2x0i
  have : g = n := by omega
  subst this
  rw [List.take_of_length_le (by omega)] at hk
  exact ⟨⟨_, rfl, by rw [hk]; rfl⟩, hS⟩
theorem Zup {h : Zaa} {a : Pt} {n c : Nat} {e : Bool} {cs : List Nd} {s : List Nat} (r : Row h.length h a (n * 2) (Zdl eP cs)) (hn : n ≤ 4611686018427387904) :
  Zae pg Zid [.slice a n c e, .str s] h fun v h' => v = .bool (Zfo cs s) ∧ Zba h.length h h' := by
 apply Ztu.call
 simp only [Zav]
 apply Zcv.call
 have s1 : Zba h.length h (h ++ [.cells Zaz [.str s] false]) := Zan
 refine (Yeb (r.same' s1) hn (s := s) (by rw [Zeo]; rfl) (by simp)).mono ?_
 rintro v h2 ⟨⟨z, rfl, hz⟩, s2⟩
 simp only [Zau, Zam]
 exact ⟨by rw [hz], s1.trans (s2.mono s1.le)⟩
theorem Zpy {h : Zaa} {a a1 : Pt} {n c n1 c1 : Nat} {e e1 : Bool} {cs : List Nd} {s : List Nat} (r : Row h.length h a (n * 2) (Zdl eP cs)) (hn : n ≤ 4611686018427387904) :
  Zae pg Zga [.agg [.slice a n c e, .slice a1 n1 c1 e1], .str s] h fun v h' => v = .int .i64 (Ydx cs s) ∧ Zba h.length h h' := by
 have hl : cs.length = n := by have := r.1; rw [Zbf Zet] at this; omega
 apply Zhh.call
 simp only [Zav, Zeo, Nat.add_zero, List.getElem?_cons_zero, Zaf]
 have s1 : Zba h.length h (h ++ [.cells Zaj [.slice a n c e, .slice a1 n1 c1 e1] false]) := Zan
 refine Zhh.L2ind _ _ _ _ _ _ _ (J := fun (g : Nat) x10 h' => x10 = (g : Int) ∧ g ≤ n ∧ Zba h.length h h' ∧ Zfo (cs.take g) s = false) (fun g => n - g) ?_ 0 _ _ ⟨rfl, by omega, s1, rfl⟩
 rintro g x8 h' ⟨rfl, hg, hS, hk⟩ R hR
 unfold Zhh.L2t
 refine Zap (fun hlt => ?_) (fun hge => ?_)
 ·obtain ⟨i, o, hgl, rfl, _, hr, _⟩ := (r.same hS).pr (k := g) (by omega)
  simp only [Zaw, Int.toNat_natCast, hr, Zas, Zah, Zar, Zag, Zav]
  rw [Zgr]
  simp only [Zay, Zeo, Nat.add_zero, List.getElem?_cons_zero, Zag]
  refine ⟨by omega, ?_⟩
  have hS2 : Zba h.length h (h' ++ [.cells Zbq [.str cs[g].1, .str cs[g].2] false]) := hS.trans (Zba.app hS.le _)
  refine Zap (fun he => ?_) (fun he => ?_)
  ·refine ⟨?_, hS2⟩
   have hkn : Zfo cs s = true := by unfold Zfo; rw [List.any_eq_true]; exact ⟨_, List.getElem_mem hgl, by simpa using he⟩
   unfold Ydx
   rw [hkn, if_pos rfl]
   congr 2
   symm
   rw [List.findIdx_eq hgl]
   refine ⟨by simpa using he, fun j hj => ?_⟩
   unfold Zfo at hk
   rw [List.any_eq_false] at hk
   have := hk cs[j] (List.mem_take_iff_getElem.2 ⟨j, by omega, rfl⟩)
   simpa using this
  ·rw [Zbr (by omega)]
   exact hR (g + 1) _ _ (by omega) ⟨rfl, by omega, hS2, by rw [Zwa hgl, hk]; simp [he]⟩
 ·apply Zhh.A2x0i
  have : g = n := by omega
  subst this
  rw [List.take_of_length_le (by omega)] at hk
  exact ⟨by unfold Ydx; rw [hk]; rfl, hS⟩

theorem Yln {s : List Nat} {g : Nat} {z : Int} (hg : g < s.length) (hz : z = ((g + 1 : Nat) : Int)) : sub s (g : Int) z = [s[g]] := by
 subst hz
 simp only [sub, Int.toNat_natCast]
 rw [List.take_succ_eq_append_getElem hg, List.drop_append_of_le_length (by simp; omega), List.drop_of_length_le (by rw [List.length_take]; exact Nat.min_le_left _ _), List.nil_append]
theorem Zsn {g : Nat} (hg : 0 < g) (hn : g ≤ 9223372036854775807) : IntKind.wrap .i64 ((g : Int) - 1) = ((g - 1 : Nat) : Int) := by rw [IntWalk.i64_in _ (by omega)]; omega
theorem Yfk {cs : List Nd} {s : List Nat} {g : Nat} (hg : g < s.length) : Zxg cs s g = (Zfo cs [s[g]] && (g == 0 || decide (s.getD (g - 1) 0 < s[g]))) := by unfold Zxg; rw [Zez hg]
theorem Yfz {cs : List Nd} {g : Nat} (hg : g < cs.length) : Zwj cs g = (Zta cs[g].1 && (g == 0 || Zdu (cs.getD (g - 1) ([], [])).1 cs[g].1) && Ycq (cs.take g) cs[g].2) := by unfold Zwj; rw [Zez hg]
theorem Zjt {cs : List Nd} {g : Nat} (hg : g < cs.length) (h : Zwj cs g = false) : Zig cs = false := by unfold Zig; rw [Ziz hg h]; rfl
theorem Ztt {h : Zaa} {a a1 : Pt} {n c n1 c1 : Nat} {e e1 : Bool} {cs : List Nd} (r : Row h.length h a (n * 2) (Zdl eP cs)) (hc : n ≤ c) (hn : n ≤ 1048576) (hs : ∀ p ∈ cs, p.2.length ≤ 1048576) :
  Zae pg Zhw [.agg [.slice a n c e, .slice a1 n1 c1 e1]] h fun v h' => v = .bool (Zig cs) ∧ Zba h.length h h' := by
 have hl : cs.length = n := by have := r.1; rw [Zbf Zet] at this; omega
 apply Zcq.call
 simp only [Zav, Zeo, Nat.add_zero, List.getElem?_cons_zero, Zaf]
 have s1 : Zba h.length h (h ++ [.cells Zaj [.slice a n c e, .slice a1 n1 c1 e1] false]) := Zan
 have hw : (h ++ [Zci.cells Zaj [.slice a n c e, .slice a1 n1 c1 e1] false])[h.length]? = some (.cells Zaj [.slice a n c e, .slice a1 n1 c1 e1] false) := by simp
 refine Zcq.L2ind _ _ _ _ _ _ _ _ (J := fun (g : Nat) x9 h' => x9 = (g : Int) ∧ g ≤ n ∧ Zba h.length h h' ∧ h'[h.length]? = some (.cells Zaj [.slice a n c e, .slice a1 n1 c1 e1] false) ∧ (List.range g).all (Zwj cs) = true) (fun g => n - g) ?_ 0 _ _ ⟨rfl, by omega, s1, hw, rfl⟩
 rintro g x9 h' ⟨rfl, hg, hS, hW, hk⟩ R hR
 unfold Zcq.L2t
 refine Zap (fun hlt => ?_) (fun hge => ?_)
 ·obtain ⟨i, o, hgl, rfl, hil, hr, _⟩ := (r.same hS).pr (k := g) (by omega)
  simp only [Zaw, Int.toNat_natCast, hr, Zas, Zah, Zar, Zag, Zav]
  rw [Zgr]
  simp only [Zay, Zeo, Nat.add_zero, List.getElem?_cons_zero, Zag]
  have hS2 : Zba h.length h (h' ++ [.cells Zbq [.str cs[g].1, .str cs[g].2] false]) := hS.trans (Zba.app hS.le _)
  refine ⟨by omega, (Ygx _).mono ?_⟩
  rintro v h2 ⟨rfl, rfl⟩
  simp only [Zam, true_and]
  have hcl := Yfz hgl
  have hle := hS2.le
  have hWl := Own.lt hW
  have hW2 : (h' ++ [.cells Zbq [.str cs[g].1, .str cs[g].2] false])[h.length]? = some (.cells Zaj [.slice (some (i, o)) n c e, .slice a1 n1 c1 e1] false) := Zom hW
  have hcell : ∀ o', Zal (h' ++ [.cells Zbq [.str cs[g].1, .str cs[g].2] false]) (.ptr (some (h'.length, o'))) = ([.str cs[g].1, .str cs[g].2] : List Zaq)[o']? := fun o' => Zeo
  -- the classes above
  have key : (Zta cs[g].1 && (g == 0 || Zdu (cs.getD (g - 1) ([], [])).1 cs[g].1)) = true → Zcq.J6 (fun v h' => v = .bool (Zig cs) ∧ Zba h.length h h') R h'.length 0 h.length 0 (g : Int) (some (i, o)) n c e (n : Int) (g : Int) (h' ++ [.cells Zbq [.str cs[g].1, .str cs[g].2] false]) := by
   intro hpre
   rw [hpre, Bool.true_and] at hcl
   apply Zcq.J6i
   rw [hcell]
   simp only [Nat.zero_add, List.getElem?_cons_succ, List.getElem?_cons_zero, Zag]
   have hsl := hs cs[g] (List.getElem_mem hgl)
   refine Zcq.L7ind _ _ _ _ _ _ _ _ _ _ _ _ _ _ (J := fun (q : Nat) x37 h3 => x37 = (q : Int) ∧ q ≤ cs[g].2.length ∧ Zba h.length h h3 ∧ h3[h.length]? = some (.cells Zaj [.slice (some (i, o)) n c e, .slice a1 n1 c1 e1] false) ∧ h3[h'.length]? = some (.cells Zbq [.str cs[g].1, .str cs[g].2] false) ∧ (List.range q).all (Zxg (cs.take g) cs[g].2) = true) (fun q => cs[g].2.length - q) ?_ 0 _ _ ⟨rfl, by omega, hS2, hW2, by simp, rfl⟩
   rintro q x37 h3 ⟨rfl, hq, hS3, hW3, hI3, hk3⟩ R7 hR7
   unfold Zcq.L7t
   refine Zap (fun hlt3 => ?_) (fun hge3 => ?_)
   ·have hq' : q < cs[g].2.length := by omega
    simp only [Nat.add_zero, Nat.zero_add, Zat hW3, Zat hI3, List.getElem?_cons_succ, List.getElem?_cons_zero, Zaf, Zag, true_and]
    refine Yey (r.same hS3) hl (k := g) (by omega) hc rfl (fun a' c' e' hrow hc' => ?_)
    simp only [Zaf]
    rw [Zbr (by omega), Yln hq' rfl]
    refine ⟨⟨by omega, by omega, by omega⟩, (Zup (hrow.mono hS3.le) (by omega)).mono ?_⟩
    rintro v h4 ⟨rfl, s4⟩
    have hS4 := hS3.trans (s4.mono hS3.le)
    have hW4 : h4[h.length]? = some (.cells Zaj [.slice (some (i, o)) n c e, .slice a1 n1 c1 e1] false) := by rw [s4.eq _ (Own.lt hW3)]; exact hW3
    have hI4 : h4[h'.length]? = some (.cells Zbq [.str cs[g].1, .str cs[g].2] false) := by rw [s4.eq _ (Own.lt hI3)]; exact hI3
    simp only [Zam, Zat hW3, Zat hW4, Zat hI4, Nat.add_zero, Nat.zero_add, List.getElem?_cons_succ, List.getElem?_cons_zero, Zag, true_and]
    have hsa := Yfk (cs := cs.take g) hq'
    have fail : Zxg (cs.take g) cs[g].2 q = false → (Zaq.bool false = Zaq.bool (Zig cs) ∧ Zba h.length h h4) := fun hf => ⟨by rw [Zjt hgl (by rw [hcl]; unfold Ycq; exact Ziz hq' hf)], hS4⟩
    have next : Zxg (cs.take g) cs[g].2 q = true → R7 h.length 0 (g : Int) h'.length 0 (some (i, o)) n c e (n : Int) (g : Int) (cs[g].2.length : Int) (IntKind.wrap .i64 ((q : Int) + 1)) h4 := fun ht => by
     rw [Zbr (by omega)]
     exact hR7 (q + 1) _ _ (by omega) ⟨rfl, by omega, hS4, hW4, hI4, Zgb hk3 ht⟩
    refine Zcc (fun hb => fail (by rw [hsa, hb]; rfl)) (fun hb => ?_)
    refine Zap (fun h0 => ?_) (fun h0 => ?_)
    ·have h0' : 0 < q := by omega
     rw [Zsn h0' (by omega)]
     refine ⟨⟨by omega, by omega⟩, ⟨by omega, by omega⟩, ?_⟩
     simp only [Int.toNat_natCast]
     have hd1 : cs[g].2.getD q 0 = cs[g].2[q] := Zez hq'
     have hq0 : (q == 0) = false := by simp; omega
     refine Zap (fun h1 => fail ?_) (fun h1 => Zcq.J11i _ _ _ _ _ _ _ _ _ _ _ _ _ _ _ _ _ (next ?_))
     ·rw [hsa, hb, hq0, ← hd1]; simp only [Bool.true_and, Bool.false_or, decide_eq_false_iff_not]; omega
     ·rw [hsa, hb, hq0, ← hd1]; simp only [Bool.true_and, Bool.false_or, decide_eq_true_eq]; omega
    ·have : q = 0 := by omega
     subst this
     exact Zcq.J11i _ _ _ _ _ _ _ _ _ _ _ _ _ _ _ _ _ (next (by rw [hsa, hb]; rfl))
   ·apply Zcq.A7x2i
    apply Zcq.J12i
    have : q = cs[g].2.length := by omega
    subst this
    rw [Zbr (by omega)]
    exact hR (g + 1) _ _ (by omega) ⟨rfl, by omega, hS3, hW3, Zgb hk (by rw [hcl]; exact hk3)⟩
  refine Zcc (fun hb => ⟨by rw [Zjt hgl (by rw [hcl, hb]; rfl)], hS2⟩) (fun hb => ?_)
  refine Zap (fun h0 => ?_) (fun h0 => ?_)
  ·have h0' : 0 < g := by omega
   rw [Zat hW2]
   simp only [List.getElem?_cons_zero, Zaf]
   rw [Zsn h0' (by omega)]
   obtain ⟨i', o', hgl', heq, _, _, hc0, _⟩ := (r.same hS2).pr (k := g - 1) (by omega)
   cases heq
   simp only [Zaw, Int.toNat_natCast, hc0, Zag, Nat.add_zero, Nat.zero_add, hcell, List.getElem?_cons_zero, true_and]
   refine ⟨by omega, ?_⟩
   have hg0 : (g == 0) = false := by simp; omega
   have hgd : cs.getD (g - 1) ([], []) = cs[g - 1] := Zez hgl'
   refine Zcc (fun hb2 => ⟨by rw [Zjt hgl (by rw [hcl, hb, hg0, hgd, hb2]; rfl)], hS2⟩) (fun hb2 => key (by rw [hb, hg0, hgd, hb2]; rfl))
  ·have : g = 0 := by omega
   subst this
   exact key (by rw [hb]; rfl)
 ·apply Zcq.A2x0i
  have : g = n := by omega
  subst this
  have hok : Zig cs = decide (1 ≤ g ∧ g ≤ 4) := by unfold Zig; rw [hl, hk, Bool.true_and]
  simp only [Nat.add_zero, Zat hW, List.getElem?_cons_zero, Zaf]
  refine Zap (fun h1 => ?_) (fun h1 => ?_)
  ·refine ⟨?_, hS⟩
   rw [hok]; congr 1; rw [Bool.eq_iff_iff]; simp; omega
  ·refine ⟨?_, hS⟩
   rw [hok]; congr 1; symm; simp; omega
end Go.Sim

set_option linter.unusedVariables false
set_option linter.unusedSimpArgs false
set_option maxRecDepth 20000
namespace Go.Sim
open Go Go.RowKit
theorem Zud {h : Zaa} {a : Pt} {n c : Nat} {e : Bool} {cs : List Nd} (r : Row h.length h a (n * 2) (Zdl eP cs)) (hc : n ≤ c) (hn : n ≤ 1048576) (hs : ∀ p ∈ cs, p.2.length ≤ 1048576) (hb256 : ∀ p ∈ cs, ∀ b ∈ p.1, b < 256) :
  Zae pg Zhs [.slice a n c e] h fun v h' => v = .bool (Zig cs) ∧ Zba h.length h h' := by
 have hl : cs.length = n := by have := r.1; rw [Zbf Zet] at this; omega
 apply Zcr.call
 refine Zcr.L2ind _ _ _ _ _ _ _ _ _ _ (J := fun (g : Nat) x9 h' => x9 = (g : Int) ∧ g ≤ n ∧ Zba h.length h h' ∧ (List.range g).all (Zwj cs) = true) (fun g => n - g) ?_ 0 _ _ ⟨rfl, by omega, Zba.refl _ _, rfl⟩
 rintro g x9 h' ⟨rfl, hg, hS, hk⟩ R hR
 unfold Zcr.L2t
 refine Zap (fun hlt => ?_) (fun hge => ?_)
 ·obtain ⟨i, o, hgl, rfl, hil, hr, _⟩ := (r.same hS).pr (k := g) (by omega)
  simp only [Zaw, Int.toNat_natCast, hr, Zas, Zah, Zar, Zag, Zav]
  rw [Zgr]
  simp only [Zay, Zeo, Nat.add_zero, List.getElem?_cons_zero, Zag]
  have hS2 : Zba h.length h (h' ++ [.cells Zbq [.str cs[g].1, .str cs[g].2] false]) := hS.trans (Zba.app hS.le _)
  refine ⟨by omega, (Yau _ (hb256 _ (List.getElem_mem hgl))).mono ?_⟩
  rintro v h2 ⟨rfl, rfl⟩
  simp only [Zam, true_and]
  have hcl := Yfz hgl
  have hle := hS2.le
  have hcell : ∀ o', Zal (h' ++ [.cells Zbq [.str cs[g].1, .str cs[g].2] false]) (.ptr (some (h'.length, o'))) = ([.str cs[g].1, .str cs[g].2] : List Zaq)[o']? := fun o' => Zeo
  -- the classes above
  have key : (Zta cs[g].1 && (g == 0 || Zdu (cs.getD (g - 1) ([], [])).1 cs[g].1)) = true → Zcr.J6 (fun v h' => v = .bool (Zig cs) ∧ Zba h.length h h') R h'.length 0 (some (i, o)) n c e (g : Int) (some (i, o)) n c e (n : Int) (g : Int) (h' ++ [.cells Zbq [.str cs[g].1, .str cs[g].2] false]) := by
   intro hpre
   rw [hpre, Bool.true_and] at hcl
   apply Zcr.J6i
   rw [hcell]
   simp only [Nat.zero_add, List.getElem?_cons_succ, List.getElem?_cons_zero, Zag]
   have hsl := hs cs[g] (List.getElem_mem hgl)
   refine Zcr.L7ind _ _ _ _ _ _ _ _ _ _ _ _ _ _ _ _ (J := fun (q : Nat) x37 h3 => x37 = (q : Int) ∧ q ≤ cs[g].2.length ∧ Zba h.length h h3 ∧ h3[h'.length]? = some (.cells Zbq [.str cs[g].1, .str cs[g].2] false) ∧ (List.range q).all (Zxg (cs.take g) cs[g].2) = true) (fun q => cs[g].2.length - q) ?_ 0 _ _ ⟨rfl, by omega, hS2, by simp, rfl⟩
   rintro q x37 h3 ⟨rfl, hq, hS3, hI3, hk3⟩ R7 hR7
   unfold Zcr.L7t
   refine Zap (fun hlt3 => ?_) (fun hge3 => ?_)
   ·have hq' : q < cs[g].2.length := by omega
    simp only [Nat.add_zero, Nat.zero_add, Zat hI3, List.getElem?_cons_succ, List.getElem?_cons_zero, Zaf, Zag, true_and]
    refine Yey (r.same hS3) hl (k := g) (by omega) hc rfl (fun a' c' e' hrow hc' => ?_)
    simp only [Zaf]
    rw [Zbr (by omega), Yln hq' rfl]
    refine ⟨⟨by omega, by omega, by omega⟩, (Zpy (hrow.mono hS3.le) (by omega)).mono ?_⟩
    rintro v h4 ⟨rfl, s4⟩
    have hS4 := hS3.trans (s4.mono hS3.le)
    have hI4 : h4[h'.length]? = some (.cells Zbq [.str cs[g].1, .str cs[g].2] false) := by rw [s4.eq _ (Own.lt hI3)]; exact hI3
    simp only [Zau, Zws, Zat hI4, Nat.add_zero, Nat.zero_add, List.getElem?_cons_succ, List.getElem?_cons_zero, Zag, true_and]
    have hsa := Yfk (cs := cs.take g) hq'
    have fail : Zxg (cs.take g) cs[g].2 q = false → (Zaq.bool false = Zaq.bool (Zig cs) ∧ Zba h.length h h4) := fun hf => ⟨by rw [Zjt hgl (by rw [hcl]; unfold Ycq; exact Ziz hq' hf)], hS4⟩
    have next : Zxg (cs.take g) cs[g].2 q = true → R7 (some (i, o)) n c e (g : Int) h'.length 0 (some (i, o)) n c e (n : Int) (g : Int) (cs[g].2.length : Int) (IntKind.wrap .i64 ((q : Int) + 1)) h4 := fun ht => by
     rw [Zbr (by omega)]
     exact hR7 (q + 1) _ _ (by omega) ⟨rfl, by omega, hS4, hI4, Zgb hk3 ht⟩
    refine Zcc (fun hb => fail (by rw [hsa, hb]; rfl)) (fun hb => ?_)
    refine Zap (fun h0 => ?_) (fun h0 => ?_)
    ·have h0' : 0 < q := by omega
     rw [Zsn h0' (by omega)]
     refine ⟨⟨by omega, by omega⟩, ⟨by omega, by omega⟩, ?_⟩
     simp only [Int.toNat_natCast]
     have hd1 : cs[g].2.getD q 0 = cs[g].2[q] := Zez hq'
     have hq0 : (q == 0) = false := by simp; omega
     refine Zap (fun h1 => fail ?_) (fun h1 => Zcr.J11i _ _ _ _ _ _ _ _ _ _ _ _ _ _ _ _ _ _ _ (next ?_))
     ·rw [hsa, hb, hq0, ← hd1]; simp only [Bool.true_and, Bool.false_or, decide_eq_false_iff_not]; omega
     ·rw [hsa, hb, hq0, ← hd1]; simp only [Bool.true_and, Bool.false_or, decide_eq_true_eq]; omega
    ·have : q = 0 := by omega
     subst this
     exact Zcr.J11i _ _ _ _ _ _ _ _ _ _ _ _ _ _ _ _ _ _ _ (next (by rw [hsa, hb]; rfl))
   ·apply Zcr.A7x2i
    apply Zcr.J12i
    have : q = cs[g].2.length := by omega
    subst this
    rw [Zbr (by omega)]
    exact hR (g + 1) _ _ (by omega) ⟨rfl, by omega, hS3, Zgb hk (by rw [hcl]; exact hk3)⟩
  refine Zcc (fun hb => ⟨by rw [Zjt hgl (by rw [hcl, hb]; rfl)], hS2⟩) (fun hb => ?_)
  refine Zap (fun h0 => ?_) (fun h0 => ?_)
  ·have h0' : 0 < g := by omega
   rw [Zsn h0' (by omega)]
   obtain ⟨i', o', hgl', heq, _, _, hc0, _⟩ := (r.same hS2).pr (k := g - 1) (by omega)
   cases heq
   simp only [Zaw, Int.toNat_natCast, hc0, Zag, Nat.add_zero, Nat.zero_add, hcell, List.getElem?_cons_zero, true_and]
   refine ⟨by omega, ?_⟩
   have hg0 : (g == 0) = false := by simp; omega
   have hgd : cs.getD (g - 1) ([], []) = cs[g - 1] := Zez hgl'
   refine Zcc (fun hb2 => ⟨by rw [Zjt hgl (by rw [hcl, hb, hg0, hgd, hb2]; rfl)], hS2⟩) (fun hb2 => key (by rw [hb, hg0, hgd, hb2]; rfl))
  ·have : g = 0 := by omega
   subst this
   exact key (by rw [hb]; rfl)
 ·apply Zcr.A2x0i
  have : g = n := by omega
  subst this
  have hok : Zig cs = decide (1 ≤ g ∧ g ≤ 4) := by unfold Zig; rw [hl, hk, Bool.true_and]
  refine Yei.mono ?_
  rintro v h2 ⟨rfl, rfl⟩
  simp only [Zam]
  refine ⟨?_, hS⟩
  rw [hok]; congr 1; rw [Bool.eq_iff_iff]; simp; omega
end Go.Sim

set_option linter.unusedVariables false
set_option linter.unusedSimpArgs false
set_option maxRecDepth 20000
namespace Go.Sim
open Go Go.RowKit

theorem Ypn (c : Nat) : decide (c ∈ [120, 121, 122, 88, 89, 90]) = Zdd c := by rw [Bool.eq_iff_iff]; simp [Zdd, or_assoc]
theorem Zzt {h : Zaa} (s : List Nat) : Zae pg Zkd [.str s] h fun v h' => v = .bool (Zji s) ∧ h' = h := by
 apply Ztw.call
 match s with
 | [] => exact Zfe (fun h1 => by simp at h1) (fun h1 => ⟨rfl, rfl⟩)
 | [c] =>
  refine Zfe (fun h1 => ?_) (fun h1 => by simp at h1)
  refine Zmb.mono ?_
  rintro v h' ⟨rfl, rfl⟩
  simp only [Zam]
  exact ⟨by rw [Ypn]; rfl, by trivial⟩
 | c :: d :: r => exact Zfe (fun h1 => by simp at h1; omega) (fun h1 => ⟨rfl, rfl⟩)
theorem Zoj {h : Zaa} (c : Nat) : Zae pg Zfk [.int .u8 (c : Int)] h fun v h' => v = .bool (Zdd c) ∧ h' = h := by
 apply Znt.call
 refine (Zzi _ c (by simp)).mono ?_
 rintro v h' ⟨rfl, rfl⟩
 simp only [Zau]
 exact ⟨by rw [Ypz], by trivial⟩
noncomputable def Yow (s v : List Nat) : Int := if Znr s && Zji v then (s.count (v.headD 0) : Nat) else -1
theorem Ybw {h : Zaa} (s v : List Nat) (hs : s.length ≤ 1048576) : Zae pg Zli [.str s, .str v] h fun x h' => x = .int .i64 (Yow s v) ∧ Zba h.length h h' := by
 apply Zel.call
 refine (Zim s (by omega) h).mono ?_
 rintro x h1 ⟨rfl, s1⟩
 simp only [Zam]
 refine Zcc (fun hb => ⟨by unfold Yow; rw [hb]; rfl, s1⟩) (fun hb => ?_)
 match v with
 | [] => exact Zgw (fun _ => ⟨by unfold Yow; rw [hb]; rfl, s1⟩) (fun h1 => by simp at h1)
 | c :: d :: r => exact Zgw (fun _ => ⟨by unfold Yow; rw [hb]; rfl, s1⟩) (fun h1 => by simp at h1; omega)
 | [c] =>
  refine Zgw (fun h1 => by simp at h1) (fun _ => ?_)
  refine ⟨⟨by omega, by simp⟩, ?_⟩
  simp only [Int.toNat_zero, List.getD_cons_zero]
  refine (Zoj c).mono ?_
  rintro x h2 ⟨rfl, rfl⟩
  simp only [Zam]
  refine Zcc (fun hv => ⟨by unfold Yow; rw [hb, show Zji [c] = Zdd c from rfl, hv]; rfl, s1⟩) (fun hv => ?_)
  apply Zel.J3i
  refine Zel.L5ind _ _ _ _ (J := fun (g : Nat) x5 x23 h' => x23 = (g : Int) ∧ g ≤ s.length ∧ x5 = ((s.take g).count c : Nat) ∧ h' = h2) (fun g => s.length - g) ?_ 0 _ _ _ ⟨rfl, by omega, by simp, rfl⟩
  rintro g x5 x23 h' ⟨rfl, hg, rfl, rfl⟩ R hR
  unfold Zel.L5t
  refine Zap (fun hlt => ?_) (fun hge => ?_)
  ·have hg' : g < s.length := by omega
   refine ⟨⟨by omega, by omega⟩, ⟨by omega, by simp⟩, ?_⟩
   simp only [Int.toNat_zero, List.getD_cons_zero, Int.toNat_natCast, Zez hg']
   have hc := List.count_le_length (a := c) (l := s.take g)
   rw [List.length_take] at hc
   have htk : (s.take (g + 1)).count c = (s.take g).count c + if s[g] = c then 1 else 0 := by
    rw [List.take_succ_eq_append_getElem hg', List.count_append]; simp [List.count_cons]
   refine Zfe (fun he => ?_) (fun he => ?_)
   ·apply Zel.J9i
    rw [Zbr (by omega), Zbr (by omega)]
    exact hR (g + 1) _ _ _ (by omega) ⟨rfl, by omega, by rw [htk, if_pos (by omega)], rfl⟩
   ·apply Zel.J9i
    rw [Zbr (by omega)]
    exact hR (g + 1) _ _ _ (by omega) ⟨rfl, by omega, by rw [htk, if_neg (by omega)]; rfl, rfl⟩
  ·apply Zel.A5x0i
   have : g = s.length := by omega
   subst this
   rw [List.take_length]
   refine ⟨?_, s1⟩
   unfold Yow
   rw [hb, show Zji [c] = Zdd c from rfl, hv]; rfl
theorem Zxs {h : Zaa} (s : List Nat) (hs : s.length ≤ 1048576) : Zae pg Zkt [.str s] h fun v h' => v = .str (if Znr s = true then Zrg s else []) ∧ Zba h.length h h' := by
 apply Zfx.call
 simp only [Zav]
 have hlist : (h ++ [Zci.cells Zaz [.str [88], .str [89], .str [90], .str [120], .str [121], .str [122]] false])[h.length]? = some (.cells Zaz [.str [88], .str [89], .str [90], .str [120], .str [121], .str [122]] false) := by simp
 refine Zfx.L3ind _ _ _ _ _ _ _ (J := fun (g : Nat) x3 x8 h' => x8 = (g : Int) ∧ g ≤ 6 ∧ Zba h.length h h' ∧ h'[h.length]? = some (.cells Zaz [.str [88], .str [89], .str [90], .str [120], .str [121], .str [122]] false) ∧ x3 = if Znr s = true then (Zey.take g).filter fun v => decide (v ∈ s) else []) (fun g => 6 - g) ?_ 0 _ _ _
  ⟨rfl, by omega, Zan, hlist, by simp⟩
 rintro g x3 x8 h' ⟨rfl, hg, hS, hl, rfl⟩ R hR
 unfold Zfx.L3t
 refine Zap (fun hlt => ?_) (fun hge => ?_)
 ·have hlt' : g < 6 := by omega
  have hc : ∃ c, Zey[g]? = some c ∧ Zdd c = true ∧ Zal h' (.ptr (some (h.length, 0 + (g : Int).toNat * 1))) = some (.str [c]) := by
   rw [Zat hl, Int.toNat_natCast]
   match g, hlt' with
   | 0, _ | 1, _ | 2, _ | 3, _ | 4, _ | 5, _ => exact ⟨_, rfl, rfl, rfl⟩
  obtain ⟨c, hc1, hcv, hc2⟩ := hc
  simp only [Zaw, hc2, Zag]
  refine ⟨by omega, (Ybw s [c] hs).mono ?_⟩
  rintro v h2 ⟨rfl, s2⟩
  simp only [Zau]
  have htk : Zey.take (g + 1) = Zey.take g ++ [c] := by rw [List.take_succ, hc1]; rfl
  have hS2 := hS.trans (s2.mono hS.le)
  have hl2 : h2[h.length]? = some (.cells Zaz [.str [88], .str [89], .str [90], .str [120], .str [121], .str [122]] false) := by rw [s2.eq _ (Own.lt hl)]; exact hl
  have hcn : decide (Yow s [c] > 0) = (Znr s && decide (c ∈ s)) := by
   unfold Yow
   rw [show Zji [c] = Zdd c from rfl, hcv]
   cases hb : Znr s with
   | false => rfl
   | true =>
    simp only [Bool.and_self, if_true, Bool.true_and, List.headD_cons]
    rw [Bool.eq_iff_iff]; simp [List.count_pos_iff]
  have hbd : (if Znr s = true then (Zey.take g).filter fun v => decide (v ∈ s) else []).length ≤ 6 := by
   split
   ·exact Nat.le_trans (List.length_filter_le _ _) (by simp; omega)
   ·simp
  rw [hcn]
  refine Zdg (fun hb => ?_) (fun hb => ?_)
  ·simp only [Bool.and_eq_true] at hb
   refine ⟨by simp only [List.length_cons, List.length_nil]; omega, ?_⟩
   apply Zfx.J7i
   rw [Zbr (by omega)]
   refine hR (g + 1) _ _ _ (by omega) ⟨rfl, by omega, hS2, hl2, ?_⟩
   rw [if_pos hb.1, if_pos hb.1, htk, List.filter_append]; simp [hb.2]
  ·apply Zfx.J7i
   rw [Zbr (by omega)]
   refine hR (g + 1) _ _ _ (by omega) ⟨rfl, by omega, hS2, hl2, ?_⟩
   cases ht : Znr s with
   | false => simp
   | true => rw [ht, Bool.true_and] at hb; rw [htk, List.filter_append]; simp; simpa using hb
 ·apply Zfx.A3x0i
  have : g = 6 := by omega
  subst this
  exact ⟨rfl, hS⟩
theorem Ylz {h : Zaa} (x y : List Nat) (hx : x.length ≤ 1048576) (hy : y.length ≤ 1048576) : Zae pg Zla [.str x, .str y] h fun v h' => v = .bool (x.all fun c => decide (c ∈ y)) ∧ h' = h := by
 apply Zgq.call
 refine Zgq.L2ind _ _ _ _ (J := fun (g : Nat) x8 h' => x8 = (g : Int) ∧ g ≤ x.length ∧ h' = h ∧ (x.take g).all (fun c => decide (c ∈ y)) = true) (fun g => x.length - g) ?_ 0 _ _ ⟨rfl, by omega, rfl, by simp⟩
 rintro g x8 h' ⟨rfl, hg, rfl, hk⟩ R hR
 unfold Zgq.L2t
 refine Zap (fun hlt => ?_) (fun hge => ?_)
 ·have hg' : g < x.length := by omega
  refine ⟨⟨by omega, by omega⟩, ?_⟩
  simp only [Int.toNat_natCast, Zez hg']
  refine (Zzi y x[g] (by omega)).mono ?_
  rintro v h2 ⟨rfl, rfl⟩
  simp only [Zau]
  have hix : decide (Zst y x[g] < 0) = !decide (x[g] ∈ y) := by
   by_cases hm : x[g] ∈ y
   ·have := (Zzh y x[g]).2 hm
    simp [hm]; omega
   ·rw [Zvl hm]; simp [hm]
  rw [hix]
  refine Zcc (fun hb => ⟨by rw [Zrc hg' hb], by trivial⟩) (fun hb => ?_)
  rw [Zbr (by omega)]
  exact hR (g + 1) _ _ (by omega) ⟨rfl, by omega, rfl, Zfw hg' hk hb⟩
 ·apply Zgq.A2x0i
  have : g = x.length := by omega
  subst this
  rw [List.take_length] at hk
  exact ⟨by rw [hk], by trivial⟩

theorem Yft {cs : List Nd} {ct tt : List Nat} {ns : List Nd} (h1 : Zig cs = true) (h2 : Zfo cs ct = true) (h3 : Znr tt = true) (h4 : tt.length ≤ 20) (h5 : Zji tt = false) (h6 : ns.length ≤ 3) : Zlw cs ((ct, tt), ns) = ns.all (Zih cs tt) := by
 unfold Zlw; simp [h1, h2, h3, h4, h5, h6]
theorem Zuj {h : Zaa} {a a1 a2 : Pt} {n c n1 c1 n2 c2 : Nat} {e e1 e2 : Bool} {cs ns : List Nd} {ct tt : List Nat} (r : Row h.length h a (n * 2) (Zdl eP cs)) (hc : n ≤ c) (hn : n ≤ 1048576) (hs : ∀ p ∈ cs, p.2.length ≤ 1048576)
  (r2 : Row h.length h a2 (n2 * 2) (Zdl eP ns)) (hn2 : n2 ≤ 1048576) (hns : ∀ p ∈ ns, p.2.length ≤ 1048576) (htt : tt.length ≤ 1048576) :
  Zae pg Zhf [.agg [.slice a n c e, .slice a1 n1 c1 e1], .agg [.str ct, .str tt, .slice a2 n2 c2 e2]] h fun v h' => v = .bool (Zlw cs ((ct, tt), ns)) ∧ Zba h.length h h' := by
 have hl : cs.length = n := by have := r.1; rw [Zbf Zet] at this; omega
 have hl2 : ns.length = n2 := by have := r2.1; rw [Zbf Zet] at this; omega
 apply Zck.call
 simp only [Zav]
 generalize hh0 : h ++ [Zci.cells Zaj [.slice a n c e, .slice a1 n1 c1 e1] false] = h0
 generalize hh1 : h0 ++ [Zci.cells Zai [.str ct, .str tt, .slice a2 n2 c2 e2] false] = h1
 have s0 : Zba h.length h h0 := by rw [← hh0]; exact Zan
 have s01 : Zba h0.length h0 h1 := by rw [← hh1]; exact Zan
 have s1 : Zba h.length h h1 := s0.trans (s01.mono s0.le)
 have hl0 : h0.length = h.length + 1 := by rw [← hh0]; simp
 have hl1 : h1.length = h.length + 2 := by rw [← hh1]; simp [hl0]
 have w1 : h1[h.length]? = some (.cells Zaj [.slice a n c e, .slice a1 n1 c1 e1] false) := by rw [← hh1, Yce (by omega), ← hh0]; simp
 have i1 : h1[h0.length]? = some (.cells Zai [.str ct, .str tt, .slice a2 n2 c2 e2] false) := by rw [← hh1]; simp
 rw [Zeb w1 (by simp)]
 simp only [List.drop_zero, List.take_succ_cons, List.take_zero, Zas, Zah, Zaf, Zar]
 refine (Ztt (r.same' s1) hc hn hs).mono ?_
 rintro v h2 ⟨rfl, s2⟩
 have S2 : Zba h.length h h2 := s1.trans (s2.mono (by omega))
 have w2 : h2[h.length]? = some (.cells Zaj [.slice a n c e, .slice a1 n1 c1 e1] false) := by rw [s2.eq _ (by omega)]; exact w1
 have i2 : h2[h0.length]? = some (.cells Zai [.str ct, .str tt, .slice a2 n2 c2 e2] false) := by rw [s2.eq _ (by omega)]; exact i1
 simp only [Zam]
 refine Zcc (fun hb => ⟨by unfold Zlw; rw [hb]; rfl, S2⟩) (fun b1 => ?_)
 simp only [Nat.add_zero, Nat.zero_add, Zat w2, Zat i2, List.getElem?_cons_succ, List.getElem?_cons_zero, Zaf, Zag]
 refine (Zup (r.same' S2) (by omega)).mono ?_
 rintro v h3 ⟨rfl, s3⟩
 have hle2 := s2.le
 have S3 : Zba h.length h h3 := S2.trans (s3.mono S2.le)
 have i3 : h3[h0.length]? = some (.cells Zai [.str ct, .str tt, .slice a2 n2 c2 e2] false) := by rw [s3.eq _ (by omega)]; exact i2
 have w3 : h3[h.length]? = some (.cells Zaj [.slice a n c e, .slice a1 n1 c1 e1] false) := by rw [s3.eq _ (by omega)]; exact w2
 simp only [Zam]
 refine Zcc (fun hb => ⟨by unfold Zlw; rw [b1, hb]; rfl, S3⟩) (fun b2 => ?_)
 simp only [Zat i3, List.getElem?_cons_succ, List.getElem?_cons_zero, Zag]
 refine (Zkf tt h3).mono ?_
 rintro v h4 ⟨rfl, s4⟩
 have hle3 := s3.le
 have S4 : Zba h.length h h4 := S3.trans (s4.mono S3.le)
 have i4 : h4[h0.length]? = some (.cells Zai [.str ct, .str tt, .slice a2 n2 c2 e2] false) := by rw [s4.eq _ (by omega)]; exact i3
 have w4 : h4[h.length]? = some (.cells Zaj [.slice a n c e, .slice a1 n1 c1 e1] false) := by rw [s4.eq _ (by omega)]; exact w3
 simp only [Zam]
 refine Zcc (fun hb => ⟨by unfold Zlw; rw [b1, b2, hb]; rfl, S4⟩) (fun b3 => ?_)
 simp only [Zat i4, List.getElem?_cons_succ, List.getElem?_cons_zero, Zag]
 refine Zap (fun hb => ⟨by unfold Zlw; rw [b1, b2, b3]; simp [show ¬ tt.length ≤ 20 by omega], S4⟩) (fun b4 => ?_)
 refine (Zzt tt).mono ?_
 rintro v h5 ⟨rfl, rfl⟩
 simp only [Zam]
 refine Zdg (fun hb => ⟨by unfold Zlw; rw [hb]; simp, S4⟩) (fun b5 => ?_)
 simp only [Zat i4, List.getElem?_cons_succ, List.getElem?_cons_zero, Zaf]
 refine Zap (fun hb => ⟨by unfold Zlw; simp [show ¬ ns.length ≤ 3 by omega], S4⟩) (fun b6 => ?_)
 rw [Yft b1 b2 b3 (by omega) b5 (by omega)]
 apply Zck.J3i
 simp only [Nat.zero_add, Zat i4, List.getElem?_cons_succ, List.getElem?_cons_zero, Zaf]
 have hle4 := s4.le
 refine Zck.L4ind _ _ _ _ _ _ _ _ _ _ (J := fun (g : Nat) x50 h' => x50 = (g : Int) ∧ g ≤ n2 ∧ Zba h5.length h5 h' ∧ (ns.take g).all (Zih cs tt) = true) (fun g => n2 - g) ?_ 0 _ _ ⟨rfl, by omega, Zba.refl _ _, rfl⟩
 rintro g x50 h' ⟨rfl, hg, hS, hk⟩ R hR
 have SS : Zba h.length h h' := S4.trans (hS.mono S4.le)
 unfold Zck.L4t
 refine Zap (fun hlt => ?_) (fun hge => ?_)
 ·obtain ⟨i, o, hgl, rfl, hil, hr, _⟩ := (r2.same SS).pr (k := g) (by omega)
  simp only [Zaw, Int.toNat_natCast, hr, Zas, Zah, Zar, Zag, Zav]
  rw [Zgr]
  have hlh := hS.le
  generalize hq : h' ++ [Zci.cells Zad [.str ns[g].1, .str ns[g].2] false] = hq'
  have sq : Zba h'.length h' hq' := by rw [← hq]; exact Zan
  have hql : hq'.length = h'.length + 1 := by rw [← hq]; simp
  have nq : hq'[h'.length]? = some (.cells Zad [.str ns[g].1, .str ns[g].2] false) := by rw [← hq]; simp
  have wq : hq'[h.length]? = some (.cells Zaj [.slice a n c e, .slice a1 n1 c1 e1] false) := by rw [sq.eq _ (by omega), hS.eq _ (by omega)]; exact w4
  have iq : hq'[h0.length]? = some (.cells Zai [.str ct, .str tt, .slice (some (i, o)) n2 c2 e2] false) := by rw [sq.eq _ (by omega), hS.eq _ (by omega)]; exact i4
  simp only [Zay, Nat.add_zero, Nat.zero_add, Zat wq, Zat nq, List.getElem?_cons_succ, List.getElem?_cons_zero, Zaf, Zag]
  have Sq : Zba h.length h hq' := SS.trans (sq.mono SS.le)
  refine ⟨by omega, (Zup (r.same' Sq) (by omega)).mono ?_⟩
  rintro v k3 ⟨rfl, t3⟩
  have T3 := Sq.trans (t3.mono Sq.le)
  have n3 : k3[h'.length]? = some (.cells Zad [.str ns[g].1, .str ns[g].2] false) := by rw [t3.eq _ (by omega)]; exact nq
  simp only [Zam]
  have fail : ∀ hx, Zba h.length h hx → Zih cs tt ns[g] = false → (Zaq.bool false = Zaq.bool (ns.all (Zih cs tt)) ∧ Zba h.length h hx) := fun hx hs hf => ⟨by rw [Zrc hgl hf], hs⟩
  refine Zcc (fun hb => fail _ T3 (by unfold Zih; rw [hb]; rfl)) (fun m1 => ?_)
  simp only [Zat n3, List.getElem?_cons_succ, List.getElem?_cons_zero, Zag]
  refine (Zkf _ k3).mono ?_
  rintro v k4 ⟨rfl, t4⟩
  have ht3 := t3.le
  have T4 := T3.trans (t4.mono T3.le)
  have n4 : k4[h'.length]? = some (.cells Zad [.str ns[g].1, .str ns[g].2] false) := by rw [t4.eq _ (by omega)]; exact n3
  simp only [Zam]
  refine Zcc (fun hb => fail _ T4 (by unfold Zih; rw [m1, hb]; rfl)) (fun m2 => ?_)
  simp only [Zat n4, List.getElem?_cons_succ, List.getElem?_cons_zero, Zag]
  refine Zap (fun hb => fail _ T4 (by unfold Zih; simp [show ¬ ns[g].2.length ≤ 20 by omega])) (fun m3 => ?_)
  apply Zck.J8i
  simp only [Nat.zero_add, Zat n4, List.getElem?_cons_succ, List.getElem?_cons_zero, Zag]
  refine (Yqw _ k4).mono ?_
  rintro v k5 ⟨t5, av, nv, cv, ev, rfl, hrow⟩
  simp only [Zaf]
  have ht4 := t4.le
  have ht5 := t5.le
  have T5 := T4.trans (t5.mono T4.le)
  have hvl : (Zrg ns[g].2).length = nv := by have := hrow.1; simpa using this
  have hv6 : (Zrg ns[g].2).length ≤ 6 := List.length_filter_le _ _
  have hni : Zih cs tt ns[g] = (Zrg ns[g].2).all fun v => decide (v ∈ tt) := by unfold Zih; rw [m1, m2]; simp [show ns[g].2.length ≤ 20 by omega]
  have i5 : k5[h0.length]? = some (.cells Zai [.str ct, .str tt, .slice (some (i, o)) n2 c2 e2] false) := by rw [t5.eq _ (by omega), t4.eq _ (by omega), t3.eq _ (by omega)]; exact iq
  refine Zck.L9ind _ _ _ _ _ _ _ _ _ _ _ _ _ _ _ _ _ (J := fun (q : Nat) x76 h6 => x76 = (q : Int) ∧ q ≤ nv ∧ h6 = k5 ∧ ((Zrg ns[g].2).take q).all (fun v => decide (v ∈ tt)) = true) (fun q => nv - q) ?_ 0 _ _ ⟨rfl, by omega, rfl, rfl⟩
  rintro q x76 h6 ⟨rfl, hq6, rfl, hk6⟩ R9 hR9
  unfold Zck.L9t
  refine Zap (fun hlt6 => ?_) (fun hge6 => ?_)
  ·obtain ⟨iv, ov, rfl, _, hcv⟩ := hrow.at (k := q) (by omega)
   rw [Yfe, List.getElem?_map, List.getElem?_eq_getElem (show q < (Zrg ns[g].2).length by omega)] at hcv
   simp only [Option.map_some] at hcv
   simp only [Zaw, Int.toNat_natCast, Nat.mul_one, hcv, Zag, Nat.add_zero, Nat.zero_add, Zat i5, List.getElem?_cons_succ, List.getElem?_cons_zero, one]
   refine ⟨by omega, Zmb.mono ?_⟩
   rintro v k7 ⟨rfl, rfl⟩
   simp only [Zam]
   refine Zcc (fun hb => fail _ T5 (by rw [hni]; exact Zrc (by omega) hb)) (fun d1 => ?_)
   rw [Zbr (by omega)]
   exact hR9 (q + 1) _ _ (by omega) ⟨rfl, by omega, rfl, Zfw (by omega) hk6 d1⟩
  ·apply Zck.A9x2i
   apply Zck.J14i
   have : q = nv := by omega
   subst this
   rw [List.take_of_length_le (by omega)] at hk6
   rw [Zbr (by omega)]
   refine hR (g + 1) _ _ (by omega) ⟨rfl, by omega, ?_, Zfw hgl hk (by rw [hni]; exact hk6)⟩
   exact hS.trans ((sq.mono hS.le).trans ((t3.mono (by omega)).trans ((t4.mono (by omega)).trans (t5.mono (by omega)))))
 ·apply Zck.A4x0i
  have : g = n2 := by omega
  subst this
  rw [List.take_of_length_le (by omega)] at hk
  exact ⟨by rw [hk], SS⟩
end Go.Sim

set_option linter.unusedVariables false
set_option linter.unusedSimpArgs false
set_option maxRecDepth 20000
namespace Go.Sim
open Go Go.RowKit

theorem Ydw (x t : List Nat) : ((Zrg x).all fun c => decide (c ∈ Zrg t)) = (Zrg x).all fun c => decide (c ∈ t) := by
 rw [Bool.eq_iff_iff, List.all_eq_true, List.all_eq_true]
 constructor
 ·intro h c hc
  have := h c hc
  simp only [Zrg, decide_eq_true_eq, List.mem_filter] at this ⊢
  exact this.2
 ·intro h c hc
  have h1 := h c hc
  have hv : c ∈ Zey := (List.mem_filter.1 hc).1
  simp only [Zrg, decide_eq_true_eq, List.mem_filter] at h1 ⊢
  exact ⟨hv, h1⟩
theorem Zsw {h : Zaa} {a a1 a2 : Pt} {n c n1 c1 n2 c2 : Nat} {e e1 e2 : Bool} {cs ns : List Nd} {ct tt : List Nat} (r : Row h.length h a (n * 2) (Zdl eP cs)) (hc : n ≤ c) (hn : n ≤ 1048576) (hs : ∀ p ∈ cs, p.2.length ≤ 1048576) (hb256 : ∀ p ∈ cs, ∀ b ∈ p.1, b < 256)
  (r2 : Row h.length h a2 (n2 * 2) (Zdl eP ns)) (hn2 : n2 ≤ 1048576) (hns : ∀ p ∈ ns, p.2.length ≤ 1048576) (htt : tt.length ≤ 1048576) :
  Zae pg Zha [.agg [.slice a n c e, .slice a1 n1 c1 e1], .agg [.str ct, .str tt, .slice a2 n2 c2 e2]] h fun v h' => v = .bool (Zlw cs ((ct, tt), ns)) ∧ Zba h.length h h' := by
 have hl : cs.length = n := by have := r.1; rw [Zbf Zet] at this; omega
 have hl2 : ns.length = n2 := by have := r2.1; rw [Zbf Zet] at this; omega
 apply Zdo.call
 simp only [Zav]
 generalize hh0 : h ++ [Zci.cells Zaj [.slice a n c e, .slice a1 n1 c1 e1] false] = h0
 generalize hh1 : h0 ++ [Zci.cells Zai [.str ct, .str tt, .slice a2 n2 c2 e2] false] = h1
 have s0 : Zba h.length h h0 := by rw [← hh0]; exact Zan
 have s01 : Zba h0.length h0 h1 := by rw [← hh1]; exact Zan
 have s1 : Zba h.length h h1 := s0.trans (s01.mono s0.le)
 have hl0 : h0.length = h.length + 1 := by rw [← hh0]; simp
 have hl1 : h1.length = h.length + 2 := by rw [← hh1]; simp [hl0]
 have w1 : h1[h.length]? = some (.cells Zaj [.slice a n c e, .slice a1 n1 c1 e1] false) := by rw [← hh1, Yce (by omega), ← hh0]; simp
 have i1 : h1[h0.length]? = some (.cells Zai [.str ct, .str tt, .slice a2 n2 c2 e2] false) := by rw [← hh1]; simp
 simp only [Nat.add_zero, Zat w1, List.getElem?_cons_zero, Zaf]
 refine (Zud (r.same' s1) hc hn hs hb256).mono ?_
 rintro v h2 ⟨rfl, s2⟩
 have S2 : Zba h.length h h2 := s1.trans (s2.mono (by omega))
 have w2 : h2[h.length]? = some (.cells Zaj [.slice a n c e, .slice a1 n1 c1 e1] false) := by rw [s2.eq _ (by omega)]; exact w1
 have i2 : h2[h0.length]? = some (.cells Zai [.str ct, .str tt, .slice a2 n2 c2 e2] false) := by rw [s2.eq _ (by omega)]; exact i1
 simp only [Zam]
 refine Zcc (fun hb => ⟨by unfold Zlw; rw [hb]; rfl, S2⟩) (fun b1 => ?_)
 rw [Zeb w2 (by simp)]
 simp only [List.drop_zero, List.take_succ_cons, List.take_zero, Zas, Zah, Zar, Nat.zero_add, Zat i2, List.getElem?_cons_succ, List.getElem?_cons_zero, Zaf, Zag]
 refine (Zpy (r.same' S2) (by omega)).mono ?_
 rintro v h3 ⟨rfl, s3⟩
 have hle2 := s2.le
 have S3 : Zba h.length h h3 := S2.trans (s3.mono S2.le)
 have i3 : h3[h0.length]? = some (.cells Zai [.str ct, .str tt, .slice a2 n2 c2 e2] false) := by rw [s3.eq _ (by omega)]; exact i2
 have w3 : h3[h.length]? = some (.cells Zaj [.slice a n c e, .slice a1 n1 c1 e1] false) := by rw [s3.eq _ (by omega)]; exact w2
 simp only [Zau, Zws]
 refine Zcc (fun hb => ⟨by unfold Zlw; rw [b1, hb]; rfl, S3⟩) (fun b2 => ?_)
 simp only [Zat i3, List.getElem?_cons_succ, List.getElem?_cons_zero, Zag]
 refine (Zim tt (by omega) h3).mono ?_
 rintro v h4 ⟨rfl, s4⟩
 have hle3 := s3.le
 have S4 : Zba h.length h h4 := S3.trans (s4.mono S3.le)
 have i4 : h4[h0.length]? = some (.cells Zai [.str ct, .str tt, .slice a2 n2 c2 e2] false) := by rw [s4.eq _ (by omega)]; exact i3
 have w4 : h4[h.length]? = some (.cells Zaj [.slice a n c e, .slice a1 n1 c1 e1] false) := by rw [s4.eq _ (by omega)]; exact w3
 simp only [Zam]
 refine Zcc (fun hb => ⟨by unfold Zlw; rw [b1, b2, hb]; rfl, S4⟩) (fun b3 => ?_)
 simp only [Zat i4, List.getElem?_cons_succ, List.getElem?_cons_zero, Zag]
 refine Zap (fun hb => ⟨by unfold Zlw; rw [b1, b2, b3]; simp [show ¬ tt.length ≤ 20 by omega], S4⟩) (fun b4 => ?_)
 have hvh := Ysg b3
 have hne := Yqo b3
 have htl : 0 < tt.length := by cases tt with | nil => exact absurd rfl hne | cons => simp
 refine ⟨⟨by omega, by omega⟩, ?_⟩
 have hgd : tt.getD (Int.toNat 0) 0 = tt.headD 0 := by cases tt <;> rfl
 rw [hgd]
 refine (Zoj _).mono ?_
 rintro v h5 ⟨rfl, rfl⟩
 simp only [Zam, ← hvh]
 refine Zdg (fun hb => ⟨by unfold Zlw; rw [hb]; simp, S4⟩) (fun b5 => ?_)
 simp only [Zat i4, List.getElem?_cons_succ, List.getElem?_cons_zero, Zaf]
 refine Zap (fun hb => ⟨by unfold Zlw; simp [show ¬ ns.length ≤ 3 by omega], S4⟩) (fun b6 => ?_)
 rw [Yft b1 b2 b3 (by omega) b5 (by omega)]
 apply Zdo.J3i
 simp only [Nat.zero_add, Zat i4, List.getElem?_cons_succ, List.getElem?_cons_zero, Zaf]
 have hle4 := s4.le
 refine Zdo.L4ind _ _ _ _ _ _ _ _ _ _ (J := fun (g : Nat) x50 h' => x50 = (g : Int) ∧ g ≤ n2 ∧ Zba h5.length h5 h' ∧ (ns.take g).all (Zih cs tt) = true) (fun g => n2 - g) ?_ 0 _ _ ⟨rfl, by omega, Zba.refl _ _, rfl⟩
 rintro g x50 h' ⟨rfl, hg, hS, hk⟩ R hR
 have SS : Zba h.length h h' := S4.trans (hS.mono S4.le)
 unfold Zdo.L4t
 refine Zap (fun hlt => ?_) (fun hge => ?_)
 ·obtain ⟨i, o, hgl, rfl, hil, hr, _⟩ := (r2.same SS).pr (k := g) (by omega)
  simp only [Zaw, Int.toNat_natCast, hr, Zas, Zah, Zar, Zag, Zav]
  rw [Zgr]
  have hlh := hS.le
  generalize hq : h' ++ [Zci.cells Zad [.str ns[g].1, .str ns[g].2] false] = hq'
  have sq : Zba h'.length h' hq' := by rw [← hq]; exact Zan
  have hql : hq'.length = h'.length + 1 := by rw [← hq]; simp
  have nq : hq'[h'.length]? = some (.cells Zad [.str ns[g].1, .str ns[g].2] false) := by rw [← hq]; simp
  have wq : hq'[h.length]? = some (.cells Zaj [.slice a n c e, .slice a1 n1 c1 e1] false) := by rw [sq.eq _ (by omega), hS.eq _ (by omega)]; exact w4
  have iq : hq'[h0.length]? = some (.cells Zai [.str ct, .str tt, .slice (some (i, o)) n2 c2 e2] false) := by rw [sq.eq _ (by omega), hS.eq _ (by omega)]; exact i4
  have row : ∀ {hx : Zaa}, hx[h.length]? = some (.cells Zaj [.slice a n c e, .slice a1 n1 c1 e1] false) → Zbx hx (.ptr (some (h.length, 0))) 2 = some [.slice a n c e, .slice a1 n1 c1 e1] := fun w => by rw [Zeb w (by simp)]; rfl
  simp only [Zay, Nat.add_zero, Nat.zero_add, row wq, Zat nq, List.getElem?_cons_succ, List.getElem?_cons_zero, Zas, Zah, Zar, Zaf, Zag, true_and]
  have Sq : Zba h.length h hq' := SS.trans (sq.mono SS.le)
  refine ⟨by omega, (Zpy (r.same' Sq) (by omega)).mono ?_⟩
  rintro v k3 ⟨rfl, t3⟩
  have T3 := Sq.trans (t3.mono Sq.le)
  have n3 : k3[h'.length]? = some (.cells Zad [.str ns[g].1, .str ns[g].2] false) := by rw [t3.eq _ (by omega)]; exact nq
  have w3' : k3[h.length]? = some (.cells Zaj [.slice a n c e, .slice a1 n1 c1 e1] false) := by rw [t3.eq _ (by omega)]; exact wq
  have i3' : k3[h0.length]? = some (.cells Zai [.str ct, .str tt, .slice (some (i, o)) n2 c2 e2] false) := by rw [t3.eq _ (by omega)]; exact iq
  have ht3 := t3.le
  simp only [Zau, Zws, row w3', Zat n3, List.getElem?_cons_succ, List.getElem?_cons_zero, Zag, true_and]
  have fail : ∀ hx, Zba h.length h hx → Zih cs tt ns[g] = false → (Zaq.bool false = Zaq.bool (ns.all (Zih cs tt)) ∧ Zba h.length h hx) := fun hx hs hf => ⟨by rw [Zrc hgl hf], hs⟩
  refine Zcc (fun hb => fail _ T3 (by unfold Zih; rw [hb]; rfl)) (fun m1 => ?_)
  have hnl := hns ns[g] (List.getElem_mem hgl)
  refine (Zim _ (by omega) k3).mono ?_
  rintro v k4 ⟨rfl, t4⟩
  have T4 := T3.trans (t4.mono T3.le)
  have ht4 := t4.le
  have n4 : k4[h'.length]? = some (.cells Zad [.str ns[g].1, .str ns[g].2] false) := by rw [t4.eq _ (by omega)]; exact n3
  have w4' : k4[h.length]? = some (.cells Zaj [.slice a n c e, .slice a1 n1 c1 e1] false) := by rw [t4.eq _ (by omega)]; exact w3'
  have i4' : k4[h0.length]? = some (.cells Zai [.str ct, .str tt, .slice (some (i, o)) n2 c2 e2] false) := by rw [t4.eq _ (by omega)]; exact i3'
  simp only [Zam, row w4', Zat n4, Zat i4', List.getElem?_cons_succ, List.getElem?_cons_zero, Zag, true_and]
  refine Zcc (fun hb => fail _ T4 (by unfold Zih; rw [m1, hb]; rfl)) (fun m2 => ?_)
  refine Zap (fun hb => fail _ T4 (by unfold Zih; simp [show ¬ ns[g].2.length ≤ 20 by omega])) (fun m3 => ?_)
  refine (Zxs _ hnl).mono ?_
  rintro v k5 ⟨rfl, t5⟩
  have T5 := T4.trans (t5.mono T4.le)
  have ht5 := t5.le
  have n5 : k5[h'.length]? = some (.cells Zad [.str ns[g].1, .str ns[g].2] false) := by rw [t5.eq _ (by omega)]; exact n4
  have w5' : k5[h.length]? = some (.cells Zaj [.slice a n c e, .slice a1 n1 c1 e1] false) := by rw [t5.eq _ (by omega)]; exact w4'
  have i5' : k5[h0.length]? = some (.cells Zai [.str ct, .str tt, .slice (some (i, o)) n2 c2 e2] false) := by rw [t5.eq _ (by omega)]; exact i4'
  simp only [row w5', Zat n5, Zat i5', List.getElem?_cons_succ, List.getElem?_cons_zero, Zag, true_and]
  refine (Zxs _ htt).mono ?_
  rintro v k6 ⟨rfl, t6⟩
  have T6 := T5.trans (t6.mono T5.le)
  have ht6 := t6.le
  have n6 : k6[h'.length]? = some (.cells Zad [.str ns[g].1, .str ns[g].2] false) := by rw [t6.eq _ (by omega)]; exact n5
  have w6' : k6[h.length]? = some (.cells Zaj [.slice a n c e, .slice a1 n1 c1 e1] false) := by rw [t6.eq _ (by omega)]; exact w5'
  have i6' : k6[h0.length]? = some (.cells Zai [.str ct, .str tt, .slice (some (i, o)) n2 c2 e2] false) := by rw [t6.eq _ (by omega)]; exact i5'
  simp only [row w6', Zat n6, Zat i6', List.getElem?_cons_succ, List.getElem?_cons_zero, Zag, true_and]
  rw [if_pos m2, if_pos b3]
  have hvb : ∀ s, (Zrg s).length ≤ 6 := fun s => List.length_filter_le _ _
  have hv1 := hvb ns[g].2
  have hv2 := hvb tt
  refine (Ylz _ _ (by omega) (by omega)).mono ?_
  rintro v k7 ⟨rfl, rfl⟩
  have hni : Zih cs tt ns[g] = (Zrg ns[g].2).all fun v => decide (v ∈ tt) := by unfold Zih; rw [m1, m2]; simp [show ns[g].2.length ≤ 20 by omega]
  simp only [Zam, row w6', Zat n6, Zat i6', List.getElem?_cons_succ, List.getElem?_cons_zero, Zag, true_and, Ydw, ← hni]
  refine Zcc (fun hb => fail _ T6 hb) (fun m4 => ?_)
  apply Zdo.J8i
  rw [Zbr (by omega)]
  refine hR (g + 1) _ _ (by omega) ⟨rfl, by omega, ?_, Zfw hgl hk m4⟩
  exact hS.trans ((sq.mono hS.le).trans ((t3.mono (by omega)).trans ((t4.mono (by omega)).trans ((t5.mono (by omega)).trans (t6.mono (by omega))))))
 ·apply Zdo.A4x0i
  have : g = n2 := by omega
  subst this
  rw [List.take_of_length_le (by omega)] at hk
  exact ⟨by rw [hk], SS⟩
end Go.Sim

set_option linter.unusedVariables false
set_option linter.unusedSimpArgs false
set_option maxRecDepth 20000
namespace Go.Sim
open Go Go.RowKit

structure WB (w : Wd) : Prop where
 lc : w.cs.length ≤ 1048576
 li : w.is.length ≤ 1048576
 cs : ∀ p ∈ w.cs, p.1.length ≤ 1048576 ∧ p.2.length ≤ 1048576 ∧ ∀ b ∈ p.1, b < 256
 is : ∀ i ∈ w.is, i.1.1.length ≤ 1048576 ∧ i.1.2.length ≤ 1048576 ∧ i.2.length ≤ 1048576 ∧ ∀ p ∈ i.2, p.1.length ≤ 1048576 ∧ p.2.length ≤ 1048576
def Zlt (a0 : Pt) (n0 c0 : Nat) (e0 : Bool) (a1 : Pt) (n1 c1 : Nat) (e1 : Bool) : Zci := .cells Zaj [.slice a0 n0 c0 e0, .slice a1 n1 c1 e1] false
theorem Zxf {h : Zaa} {j : Nat} {a0 a1 : Pt} {n0 c0 n1 c1 : Nat} {e0 e1 : Bool} (hj : h[j]? = some (Zlt a0 n0 c0 e0 a1 n1 c1 e1)) : Zbx h (.ptr (some (j, 0))) 2 = some [.slice a0 n0 c0 e0, .slice a1 n1 c1 e1] := by
 rw [Zeb (show h[j]? = some (.cells Zaj [.slice a0 n0 c0 e0, .slice a1 n1 c1 e1] false) from hj) (by simp)]; rfl
theorem Zze {h : Zaa} {j o : Nat} {a0 a1 : Pt} {n0 c0 n1 c1 : Nat} {e0 e1 : Bool} (hj : h[j]? = some (Zlt a0 n0 c0 e0 a1 n1 c1 e1)) : Zal h (.ptr (some (j, o))) = ([.slice a0 n0 c0 e0, .slice a1 n1 c1 e1] : List Zaq)[o]? := Zat (show h[j]? = some (.cells Zaj [.slice a0 n0 c0 e0, .slice a1 n1 c1 e1] false) from hj)
theorem Zba.get {b : Nat} {h h' : Zaa} {j : Nat} {x : Zci} (s : Zba b h h') (hj : h[j]? = some x) (hb : j < b) : h'[j]? = some x := by rw [s.eq j hb]; exact hj
theorem Zba.cat {h h1 h2 : Zaa} (a : Zba h.length h h1) (b : Zba h1.length h1 h2) : Zba h.length h h2 := a.trans (b.mono a.le)

theorem Ylp {h : Zaa} {t : TypeId} {x y : Zaq} : Zbx (h ++ [.cells t [x, y] false]) (.ptr (some (h.length, 0))) 2 = some [x, y] := Yco rfl
theorem Yqq {h : Zaa} {t : TypeId} {x y z : Zaq} : Zbx (h ++ [.cells t [x, y, z] false]) (.ptr (some (h.length, 0))) 3 = some [x, y, z] := Yco rfl
theorem Yde {h : Zaa} {a0 a1 a2 : Pt} {n0 c0 n1 c1 n2 c2 j : Nat} {e0 e1 e2 : Bool} {w : Wd} {ns : List Nd} {ct tt : List Nat} (r : Zlu h a0 n0 c0 a1 n1 c1 w) (b : WB w) (hj : h[j]? = some (Zlt a0 n0 c0 e0 a1 n1 c1 e1))
  (r2 : Row h.length h a2 (n2 * 2) (Zdl eP ns)) (hn2 : n2 ≤ 1048576) (hns : ∀ p ∈ ns, p.2.length ≤ 1048576) (htt : tt.length ≤ 1048576) :
  Zae pg Zcb [.agg [.str ct, .str tt, .slice a2 n2 c2 e2], .ptr (some (j, 0))] h fun v h' => v = .bool (!Zlw w.cs ((ct, tt), ns)) ∧ Zba h.length h h' := by
 apply Zjg.call
 simp only [Zav]
 have s1 : Zba h.length h (h ++ [.cells Zai [.str ct, .str tt, .slice a2 n2 c2 e2] false]) := Zan
 rw [Zxf (s1.get hj (Own.lt hj)), Yqq]
 simp only [Zas, Zah, Zar, Zaf, Zag]
 have hlc := b.lc
 have hl0 := r.len0
 refine (Zuj (r.cls.same' s1) r.le0 (by omega) (fun p hp => (b.cs p hp).2.1) (r2.same' s1) hn2 hns htt).mono ?_
 rintro v h2 ⟨rfl, s2⟩
 simp only [Zam]
 exact ⟨by trivial, s1.cat s2⟩
theorem Ydk {h : Zaa} {a0 a1 : Pt} {n0 c0 n1 c1 j : Nat} {e0 e1 : Bool} {w : Wd} (r : Zlu h a0 n0 c0 a1 n1 c1 w) (b : WB w) (hj : h[j]? = some (Zlt a0 n0 c0 e0 a1 n1 c1 e1)) :
  Zae pg Zcu [.slice a1 n1 c1 e1, .fn Zcb [.ptr (some (j, 0))]] h fun v h' => (∃ z : Int, v = .int .i64 z ∧ decide (z ≥ 0) = !w.is.all (Zlw w.cs)) ∧ Zba h.length h h' := by
 have hl := r.len1
 have hli := b.li
 apply Zbd.call
 refine Zbd.L2ind _ _ _ _ _ _ _ (J := fun (g : Nat) x8 h' => x8 = (g : Int) ∧ g ≤ n1 ∧ Zba h.length h h' ∧ (w.is.take g).all (Zlw w.cs) = true) (fun g => n1 - g) ?_ 0 _ _ ⟨rfl, by omega, Zba.refl _ _, rfl⟩
 rintro g x8 h' ⟨rfl, hg, hS, hk⟩ R hR
 unfold Zbd.L2t
 refine Zap (fun hlt => ?_) (fun hge => ?_)
 ·obtain ⟨i, o, hgl, a2, n2, c2, e2, rfl, _, hr, _, _, _, hrow, hn⟩ := (r.same hS).inst (k := g) (by omega)
  simp only [Zaw, Int.toNat_natCast, hr, Zas, Zah, Zar, Zag, Zaf]
  have hb := b.is _ (List.getElem_mem hgl)
  refine ⟨by omega, (Yde (r.same hS) b (hS.get hj (Own.lt hj)) hrow (by omega) (fun p hp => (hb.2.2.2 p hp).2) hb.2.1).mono ?_⟩
  rintro v h2 ⟨rfl, s2⟩
  simp only [Zam]
  have hS2 := hS.cat s2
  refine Zcc (fun he => ?_) (fun he => ?_)
  ·exact ⟨⟨_, rfl, by rw [Zrc hgl he]; simp⟩, hS2⟩
  ·rw [Zbr (by omega)]
   exact hR (g + 1) _ _ (by omega) ⟨rfl, by omega, hS2, Zfw hgl hk he⟩
 ·apply Zbd.A2x0i
  have : g = n1 := by omega
  subst this
  rw [List.take_of_length_le (by omega)] at hk
  exact ⟨⟨_, rfl, by rw [hk]; rfl⟩, hS⟩
theorem Zzp {h : Zaa} {a0 a1 : Pt} {n0 c0 n1 c1 : Nat} {e0 e1 : Bool} {w : Wd} (r : Zlu h a0 n0 c0 a1 n1 c1 w) (b : WB w) :
  Zae pg Zjs [.agg [.slice a0 n0 c0 e0, .slice a1 n1 c1 e1]] h fun v h' => v = .bool (Zdy w) ∧ Zba h.length h h' := by
 have hl0 := r.len0
 have hl1 := r.len1
 have hlc := b.lc
 apply Znn.call
 simp only [Zav]
 generalize hh0 : h ++ [Zci.cells Zaj [.slice a0 n0 c0 e0, .slice a1 n1 c1 e1] false] = h0
 have s0 : Zba h.length h h0 := by rw [← hh0]; exact Zan
 have w0 : h0[h.length]? = some (Zlt a0 n0 c0 e0 a1 n1 c1 e1) := by rw [← hh0]; simp [Zlt]
 rw [Zxf w0]
 simp only [Zas, Zah, Zar, Zaf]
 refine (Ztt (r.cls.same' s0) r.le0 (by omega) (fun p hp => (b.cs p hp).2.1)).mono ?_
 rintro v h2 ⟨rfl, s2⟩
 have S2 := s0.cat s2
 have w2 := s2.get w0 (Own.lt w0)
 simp only [Zam]
 refine Zdg (fun b1 => ?_) (fun b1 => ⟨by unfold Zdy; rw [b1]; rfl, S2⟩)
 simp only [Zze w2, Nat.zero_add, List.getElem?_cons_succ, List.getElem?_cons_zero, Zaf]
 refine Zap (fun b2 => ?_) (fun b2 => ⟨by unfold Zdy; rw [b1]; simp [show ¬ w.is.length ≤ 10 by omega], S2⟩)
 apply Zcj.call
 refine (Ydk (r.same S2) b w2).mono ?_
 rintro v h3 ⟨⟨z, rfl, hz⟩, s3⟩
 simp only [Zau, Zam]
 refine ⟨?_, S2.cat s3⟩
 rw [hz, Bool.not_not]
 unfold Zdy
 rw [b1]; simp [show w.is.length ≤ 10 by omega]
theorem Zwu {h : Zaa} {a0 a1 : Pt} {n0 c0 n1 c1 : Nat} {e0 e1 : Bool} {w : Wd} (r : Zlu h a0 n0 c0 a1 n1 c1 w) (b : WB w) :
  Zae pg Zka [.agg [.slice a0 n0 c0 e0, .slice a1 n1 c1 e1]] h fun v h' => v = .bool (Zdy w) ∧ Zba h.length h h' := by
 have hl0 := r.len0
 have hl1 := r.len1
 have hlc := b.lc
 have hli := b.li
 apply Zfn.call
 simp only [Zav]
 generalize hh0 : h ++ [Zci.cells Zaj [.slice a0 n0 c0 e0, .slice a1 n1 c1 e1] false] = h0
 have s0 : Zba h.length h h0 := by rw [← hh0]; exact Zan
 have w0 : h0[h.length]? = some (Zlt a0 n0 c0 e0 a1 n1 c1 e1) := by rw [← hh0]; simp [Zlt]
 simp only [Zze w0, Nat.zero_add, List.getElem?_cons_succ, List.getElem?_cons_zero, Zaf]
 refine Zfn.L2ind _ _ _ _ _ _ _ _ (J := fun (g : Nat) x8 h' => x8 = (g : Int) ∧ g ≤ n1 ∧ Zba h0.length h0 h' ∧ (w.is.take g).all (Zlw w.cs) = true) (fun g => n1 - g) ?_ 0 _ _ ⟨rfl, by omega, Zba.refl _ _, rfl⟩
 rintro g x8 h' ⟨rfl, hg, hS, hk⟩ R hR
 have SS := s0.cat hS
 have w1 := hS.get w0 (Own.lt w0)
 unfold Zfn.L2t
 refine Zap (fun hlt => ?_) (fun hge => ?_)
 ·obtain ⟨i, o, hgl, a2, n2, c2, e2, rfl, _, hr, _, _, _, hrow, hn⟩ := (r.same SS).inst (k := g) (by omega)
  simp only [Zaw, Int.toNat_natCast, hr, Zas, Zah, Zar, Zag, Zaf, Zav]
  rw [Yry]
  generalize hq : h' ++ [Zci.cells Zai [.str w.is[g].1.1, .str w.is[g].1.2, .slice a2 n2 c2 e2] false] = hq'
  have sq : Zba h'.length h' hq' := by rw [← hq]; exact Zan
  simp only [Zay]
  rw [Zxf (sq.get w1 (Own.lt w1)), ← hq, Yqq, hq]
  simp only [Zas, Zah, Zar, Zag, Zaf]
  have hb := b.is _ (List.getElem_mem hgl)
  have Sq := SS.cat sq
  refine ⟨by omega, (Zsw (r.cls.same' Sq) r.le0 (by omega) (fun p hp => (b.cs p hp).2.1) (fun p hp => (b.cs p hp).2.2) (hrow.same' sq) (by omega) (fun p hp => (hb.2.2.2 p hp).2) hb.2.1).mono ?_⟩
  rintro v h2 ⟨rfl, s2⟩
  simp only [Zam]
  refine Zcc (fun he => ?_) (fun he => ?_)
  ·exact ⟨by unfold Zdy; rw [Zrc hgl he]; simp, Sq.cat s2⟩
  ·rw [Zbr (by omega)]
   exact hR (g + 1) _ _ (by omega) ⟨rfl, by omega, (hS.cat sq).cat s2, Zfw hgl hk he⟩
 ·apply Zfn.A2x0i
  have : g = n1 := by omega
  subst this
  rw [List.take_of_length_le (by omega)] at hk
  simp only [Zze w1, Nat.zero_add, List.getElem?_cons_zero, Zaf]
  refine (Zud (r.cls.same' SS) r.le0 (by omega) (fun p hp => (b.cs p hp).2.1) (fun p hp => (b.cs p hp).2.2)).mono ?_
  rintro v h2 ⟨rfl, s2⟩
  simp only [Zam]
  have w2 := s2.get w1 (Own.lt w1)
  refine Zdg (fun b1 => ?_) (fun b1 => ⟨by unfold Zdy; rw [b1]; rfl, SS.cat s2⟩)
  simp only [Zze w2, Nat.zero_add, List.getElem?_cons_succ, List.getElem?_cons_zero, Zaf]
  refine ⟨?_, SS.cat s2⟩
  unfold Zdy
  rw [b1, hk]; congr 1; rw [Bool.eq_iff_iff]; simp; omega
theorem Ylj {h : Zaa} {a0 a1 : Pt} {n0 c0 n1 c1 : Nat} {e0 e1 : Bool} {w : Wd} {ct tt : List Nat} (r : Zlu h a0 n0 c0 a1 n1 c1 w) (b : WB w) :
  Zae pg Znw [.agg [.slice a0 n0 c0 e0, .slice a1 n1 c1 e1], .agg [.str ct, .str tt]] h fun v h' => v = .bool (Zdk w (ct, tt)) ∧ Zba h.length h h' := by
 have hl0 := r.len0
 have hlc := b.lc
 apply Zrw.call
 simp only [Zav]
 generalize hh0 : h ++ [Zci.cells Zaj [.slice a0 n0 c0 e0, .slice a1 n1 c1 e1] false] = h0
 generalize hh1 : h0 ++ [Zci.cells Zad [.str ct, .str tt] false] = h1
 have s0 : Zba h.length h h0 := by rw [← hh0]; exact Zan
 have s1 : Zba h0.length h0 h1 := by rw [← hh1]; exact Zan
 have w0 : h0[h.length]? = some (Zlt a0 n0 c0 e0 a1 n1 c1 e1) := by rw [← hh0]; simp [Zlt]
 have w1 := s1.get w0 (Own.lt w0)
 have i1 : h1[h0.length]? = some (.cells Zad [.str ct, .str tt] false) := by rw [← hh1]; simp
 simp only [Zze w1, Zat i1, Nat.zero_add, List.getElem?_cons_zero, List.getElem?_cons_succ, Zaf, Zag]
 refine (Zup (r.cls.same' (s0.cat s1)) (by omega)).mono ?_
 rintro v h2 ⟨rfl, s2⟩
 simp only [Zam]
 have i2 := s2.get i1 (Own.lt i1)
 refine Zdg (fun b1 => ?_) (fun b1 => ⟨by unfold Zdk; rw [b1]; rfl, (s0.cat s1).cat s2⟩)
 simp only [Zat i2, Nat.zero_add, List.getElem?_cons_zero, List.getElem?_cons_succ, Zaf, Zag]
 refine (Zkf tt h2).mono ?_
 rintro v h3 ⟨rfl, s3⟩
 simp only [Zam]
 exact ⟨by unfold Zdk; rw [b1]; rfl, ((s0.cat s1).cat s2).cat s3⟩
theorem Ylx (cs : List Nd) (c : List Nat) : decide (Ydx cs c ≥ 0) = Zfo cs c := by
 unfold Ydx; cases h : Zfo cs c <;> simp
theorem Ykt {h : Zaa} {a0 a1 : Pt} {n0 c0 n1 c1 : Nat} {e0 e1 : Bool} {w : Wd} {ct tt : List Nat} (r : Zlu h a0 n0 c0 a1 n1 c1 w) (b : WB w) (ht : tt.length ≤ 1048576) :
  Zae pg Zoc [.agg [.slice a0 n0 c0 e0, .slice a1 n1 c1 e1], .agg [.str ct, .str tt]] h fun v h' => v = .bool (Zdk w (ct, tt)) ∧ Zba h.length h h' := by
 have hl0 := r.len0
 have hlc := b.lc
 apply Zsi.call
 simp only [Zav]
 generalize hh0 : h ++ [Zci.cells Zaj [.slice a0 n0 c0 e0, .slice a1 n1 c1 e1] false] = h0
 generalize hh1 : h0 ++ [Zci.cells Zad [.str ct, .str tt] false] = h1
 have s0 : Zba h.length h h0 := by rw [← hh0]; exact Zan
 have s1 : Zba h0.length h0 h1 := by rw [← hh1]; exact Zan
 have w0 : h0[h.length]? = some (Zlt a0 n0 c0 e0 a1 n1 c1 e1) := by rw [← hh0]; simp [Zlt]
 have w1 := s1.get w0 (Own.lt w0)
 have i1 : h1[h0.length]? = some (.cells Zad [.str ct, .str tt] false) := by rw [← hh1]; simp
 rw [Zxf w1]
 simp only [Zas, Zah, Zar, Zat i1, Nat.zero_add, List.getElem?_cons_zero, List.getElem?_cons_succ, Zaf, Zag]
 refine (Zpy (r.cls.same' (s0.cat s1)) (by omega)).mono ?_
 rintro v h2 ⟨rfl, s2⟩
 simp only [Zau, Ylx]
 have i2 := s2.get i1 (Own.lt i1)
 refine Zdg (fun b1 => ?_) (fun b1 => ⟨by unfold Zdk; rw [b1]; rfl, (s0.cat s1).cat s2⟩)
 simp only [Zat i2, Nat.zero_add, List.getElem?_cons_zero, List.getElem?_cons_succ, Zaf, Zag]
 refine (Zim tt (by omega) h2).mono ?_
 rintro v h3 ⟨rfl, s3⟩
 simp only [Zam]
 exact ⟨by unfold Zdk; rw [b1]; rfl, ((s0.cat s1).cat s2).cat s3⟩
theorem Yao {h : Zaa} {a0 a1 : Pt} {n0 c0 n1 c1 : Nat} {e0 e1 : Bool} {w : Wd} {ct tt : List Nat} (r : Zlu h a0 n0 c0 a1 n1 c1 w) (b : WB w) (ht : tt.length ≤ 1048576) :
  Zae pg Zki [.agg [.slice a0 n0 c0 e0, .slice a1 n1 c1 e1], .agg [.str ct, .str tt]] h fun v h' => v = .bool (Zdy w && Zdk w (ct, tt)) ∧ Zba h.length h h' := by
 apply Zop.call
 simp only [Zav]
 generalize hh0 : h ++ [Zci.cells Zaj [.slice a0 n0 c0 e0, .slice a1 n1 c1 e1] false] = h0
 generalize hh1 : h0 ++ [Zci.cells Zad [.str ct, .str tt] false] = h1
 have s0 : Zba h.length h h0 := by rw [← hh0]; exact Zan
 have s1 : Zba h0.length h0 h1 := by rw [← hh1]; exact Zan
 have w0 : h0[h.length]? = some (Zlt a0 n0 c0 e0 a1 n1 c1 e1) := by rw [← hh0]; simp [Zlt]
 have w1 := s1.get w0 (Own.lt w0)
 have i1 : h1[h0.length]? = some (.cells Zad [.str ct, .str tt] false) := by rw [← hh1]; simp
 rw [Zxf w1]
 simp only [Zas, Zah, Zar, Zaf]
 refine (Zwu (r.same (s0.cat s1)) b).mono ?_
 rintro v h2 ⟨rfl, s2⟩
 simp only [Zam]
 have i2 := s2.get i1 (Own.lt i1)
 have w2 := s2.get w1 (Own.lt w1)
 refine Zdg (fun b1 => ?_) (fun b1 => ⟨by rw [b1]; rfl, (s0.cat s1).cat s2⟩)
 rw [Zxf w2, Zeb i2 (by simp)]
 simp only [List.drop_zero, List.take_succ_cons, List.take_zero, Zas, Zah, Zar, Zaf, Zag]
 refine (Ykt (r.same ((s0.cat s1).cat s2)) b ht).mono ?_
 rintro v h3 ⟨rfl, s3⟩
 simp only [Zam]
 exact ⟨by rw [b1]; rfl, ((s0.cat s1).cat s2).cat s3⟩
end Go.Sim

set_option linter.unusedVariables false
set_option linter.unusedSimpArgs false
set_option maxRecDepth 20000
namespace Go.Sim
open Go Go.RowKit

end Go.Sim

set_option linter.unusedVariables false
set_option linter.unusedSimpArgs false
set_option maxRecDepth 20000
namespace Go.Sim
open Go Go.RowKit
theorem Yhz {h : Zaa} {c t : List Nat} {x : Int} (hc : c.length ≤ 9223372036854775807) (ht : t.length ≤ 9223372036854775807) (hx : 0 ≤ x ∧ x ≤ 1048576) :
  Zae pg Zmj [.agg [.str c, .str t], .int .i64 x] h fun v h' => ∃ y, v = .int .i64 y ∧ Zba h.length h h' ∧ (0 ≤ y → (c.length : Int) + t.length + y = x) := by
 apply Zqk.call
 simp only [Zav]
 have s1 : Zba h.length h (h ++ [.cells Zpl [.str c, .str t] false]) := Zba.app (Nat.le_refl _) _
 simp [Zal]
 rw [IntWalk.i64_in _ (by omega)]
 refine Zap (fun hlt => s1) (fun hge => ?_)
 rw [IntWalk.i64_in _ (by omega)]
 exact Zap (fun hlt => s1) (fun hge => ⟨s1, by omega⟩)
theorem Yid {h : Zaa} {c t c' t' : List Nat} :
  Zae pg Zmn [.agg [.str c, .str t], .agg [.str c', .str t']] h fun v h' => v = .bool (decide (c = c') && decide (t = t')) ∧ Zba h.length h h' := by
 apply Zql.call
 simp only [Zav]
 simp [Zal]
 by_cases e1 : c = c' <;> by_cases e2 : t = t' <;> simp [e1, e2] <;> exact Zba.app (Nat.le_refl _) _
theorem Yif {h : Zaa} {c t : List Nat} :
  Zae pg Zms [.agg [.str c, .str t]] h fun v h' => v = .agg [.str c, .str t] ∧ Zba h.length h h' := by
 apply Zqu.call
 simp only [Zav]
 simp [Zal, Zbn, Zbx, putRow, List.getElem?_append, List.getElem?_set]
 exact Zba.app (Nat.le_refl _) _

theorem Ybj {h : Zaa} {a : Pt} {n c : Nat} {e : Bool} {l : List (List Nat × List Nat)} (r : Row h.length h a (n * 2) (prs l)) (hs : ∀ p ∈ l, p.1.length ≤ 9223372036854775807 ∧ p.2.length ≤ 9223372036854775807) (hn : n ≤ 9223372036854775807) {Zgf : Int} (hl : 0 ≤ Zgf ∧ Zgf ≤ 1048576) :
  Zae pg Zle [.slice a n c e, .int .i64 Zgf] h fun v h' => ∃ x, v = .int .i64 x ∧ Zba h.length h h' ∧ (0 ≤ x → (n : Int) + Ybq l + x = Zgf) := by
 have hll : l.length = n := by have := r.1; rw [Zgc] at this; omega
 apply Zgh.call
 rw [IntWalk.i64_in _ (by omega)]
 refine Zap (fun hlt => ?_) (fun hge => ?_)
 ·exact ⟨_, rfl, Zba.refl _ _, by omega⟩
 ·refine Zgh.L5ind _ _ _ _ _ (J := fun (g : Nat) x1 x5 h' => x5 = (g : Int) ∧ Zba h.length h h' ∧ g ≤ n ∧ 0 ≤ x1 ∧ x1 + n + Ybq (l.take g) = Zgf) (fun g => n - g) ?_ 0 _ 0 h ⟨rfl, Zba.refl _ _, by omega, by omega, by simp [Ybq]⟩
  rintro g x1 x5 h' ⟨rfl, hS, hg, h0, ht⟩ R hR
  unfold Zgh.L5t
  refine Zap (fun hlt => ?_) (fun hge => ?_)
  ·have hlt' : g < n := by omega
   obtain ⟨i, o, hgl, rfl, hi, hc⟩ := (r.same hS).pair hlt'
   have hsl := hs _ (List.getElem_mem hgl)
   simp only [Zaw, Int.toNat_natCast, hc, Zas, Zah, Zar, Zag]
   refine ⟨by omega, (Yhz hsl.1 hsl.2 (by omega)).mono fun v h1 ⟨y, hv, hs1, hy⟩ => ?_⟩
   subst hv
   simp only [Zau]
   have hS1 := hS.trans (hs1.mono hS.le)
   refine Zap (fun hneg => ⟨_, rfl, hS1, by omega⟩) (fun hneg => ?_)
   rw [Zni hlt' (by omega)]
   have hyy := hy (by omega)
   refine hR (g + 1) _ _ _ (by omega) ⟨rfl, hS1, by omega, by omega, ?_⟩
   rw [Zvj hgl]; omega
  ·have : g = n := by omega
   subst this
   rw [List.take_of_length_le (by omega)] at ht
   exact Zgh.A5x0i _ _ _ ⟨_, rfl, hS, by omega⟩
theorem Yan {h : Zaa} {a : Pt} {n c : Nat} {e : Bool} {l : List (List Nat × List Nat)} (r : Row h.length h a (n * 2) (prs l)) (hn : n ≤ 1048576) :
  Zae pg Zlo [.slice a n c e] h fun v h' => ∃ a' c' e', v = .slice a' n c' e' ∧ Zba h.length h h' ∧ Zct Zbq eP h.length h' a' n l ∧ n ≤ c' := by
 have hll : l.length = n := by have := r.1; rw [Zgc] at this; omega
 apply Zgi.call
 refine ⟨rfl, rfl, by omega, ?_⟩
 simp only [Zav, Int.toNat_natCast, Yge]
 refine Zgi.L3ind _ _ _ _ _ _ _ _ _ (J := fun (g : Nat) x4 h' => x4 = (g : Int) ∧ g ≤ n ∧ Zba h.length h h' ∧ h'[h.length]? = some (.cells Zbq (prs (l.take g ++ List.replicate (n - g) ([], []))) false)) (fun g => n - g) ?_ 0 0 _ ⟨rfl, by omega, Zba.app (Nat.le_refl _) _, by simp⟩
 rintro g x4 h' ⟨rfl, hg, hs, hi⟩ R hR
 unfold Zgi.L3t
 refine Zap (fun hlt => ?_) (fun hge => ?_)
 ·have hlt' : g < n := by omega
  obtain ⟨i, o, hgl, rfl, hi', hc⟩ := (r.same hs).pair hlt'
  simp only [Zaw, Int.toNat_natCast, hc, Zas, Zah, Zar, Zag]
  refine ⟨by omega, Yif.mono fun v h1 ⟨hv, hs1⟩ => ?_⟩
  subst hv
  have hi1 : h1[h.length]? = some (.cells Zbq (prs (l.take g ++ List.replicate (n - g) ([], []))) false) := by rw [hs1.eq _ (Own.lt hi)]; exact hi
  simp only [Zdq, Zah, Zar, Zag, Nat.zero_add]
  have hmin : min g l.length = g := Nat.min_eq_left (by omega)
  rw [Ybh hi1 (by simp; omega)]
  simp only [Zay]
  rw [Zni hlt' (by omega)]
  have hset : (l.take g ++ List.replicate (n - g) ([], [])).take g ++ [(l[g].1, l[g].2)] ++ (l.take g ++ List.replicate (n - g) (([] : List Nat), ([] : List Nat))).drop (g + 1) = l.take (g + 1) ++ List.replicate (n - (g + 1)) ([], []) := by
   have hl1 : (l.take g).length = g := by rw [List.length_take, hmin]
   rw [List.take_left' hl1, List.take_succ_eq_append_getElem hgl, List.drop_append, hl1, List.drop_of_length_le (by omega), List.nil_append, List.drop_replicate]
   congr 2; omega
  rw [hset]
  exact ⟨⟨by omega, by omega⟩, hR (g + 1) _ _ (by omega) ⟨rfl, by omega, (hs.trans (hs1.mono hs.le)).trans (Zba.set (Nat.le_refl _) _), Znk hi1⟩⟩
 ·have : g = n := by omega
  subst this
  rw [List.take_of_length_le (by omega), Nat.sub_self, List.replicate_zero, List.append_nil] at hi
  exact Zgi.A3x0i _ _ _ _ _ _ ⟨_, _, _, rfl, hs, ⟨hll, .inr ⟨h.length, rfl, Nat.le_refl _, hi⟩⟩, by simp⟩
theorem Yae {h : Zaa} {a0 a1 : Pt} {n0 n1 c0 c1 : Nat} {e0 e1 : Bool} {l0 l1 : List (List Nat × List Nat)} (r0 : Row h.length h a0 (n0 * 2) (prs l0)) (r1 : Row h.length h a1 (n1 * 2) (prs l1)) (hn : n0 ≤ 4611686018427387904) (heq : l0 = l1) :
  Zae pg Zlm [.slice a0 n0 c0 e0, .slice a1 n1 c1 e1] h fun v h' => v = .bool true ∧ Zba h.length h h' := by
 subst heq
 have hl0 : l0.length = n0 := by have := r0.1; rw [Zgc] at this; omega
 have hl1 : l0.length = n1 := by have := r1.1; rw [Zgc] at this; omega
 have : n1 = n0 := by omega
 subst this
 apply Zgk.call
 simp only [beq_self_eq_true, Bool.not_true, Zbh]
 refine Zgk.L4ind _ _ _ _ _ _ _ _ _ (J := fun (k : Nat) x5 h' => Zba h.length h h' ∧ x5 = (k : Int) ∧ k ≤ n1) (fun k => n1 - k) ?_ 0 0 h ⟨Zba.refl _ _, rfl, by omega⟩
 rintro k x5 h' ⟨hs, rfl, hk⟩ R hR
 unfold Zgk.L4t
 refine Zap (fun hlt => ?_) (fun hge => Zgk.A4x0i _ _ ⟨rfl, hs⟩)
 have hlt' : k < n1 := by omega
 obtain ⟨i, o, hgl, rfl, _, hc0⟩ := (r0.same hs).pair hlt'
 obtain ⟨i', o', _, rfl, _, hc1⟩ := (r1.same hs).pair hlt'
 simp only [Zaw, Int.toNat_natCast, hc0, hc1, Zas, Zah, Zar, Zag, true_and]
 refine ⟨⟨by omega, by omega⟩, ⟨by omega, by omega⟩, Yid.mono fun v h1 ⟨hv, hs1⟩ => ?_⟩
 subst hv
 simp only [Zam, decide_true, Bool.and_self, Bool.not_true, Zbh]
 rw [Zni hlt' (by omega)]
 exact hR (k + 1) _ _ (by omega) ⟨hs.trans (hs1.mono hs.le), rfl, by omega⟩

theorem Yek {h : Zaa} {a : Pt} {n c : Nat} {e : Bool} {l : List (List Nat × List Nat)} (r : Row h.length h a (n * 2) (prs l)) (hn : n ≤ 1048576) :
  Zae pg Zmh [.slice a n c e] h fun v h' => ∃ a' c' e', v = .slice a' n c' e' ∧ Zba h.length h h' ∧ Zct Zad eP h.length h' a' n l ∧ n ≤ c' ∧ a' ≠ none := by
 have hll : l.length = n := by have := r.1; rw [Zgc] at this; omega
 apply Zho.call
 refine ⟨rfl, rfl, by omega, ?_⟩
 simp only [Zav, Int.toNat_natCast, Yge]
 refine Zho.L3ind _ _ _ _ _ _ _ _ _ (J := fun (g : Nat) x4 h' => x4 = (g : Int) ∧ g ≤ n ∧ Zba h.length h h' ∧ h'[h.length]? = some (.cells Zad (prs (l.take g ++ List.replicate (n - g) ([], []))) false)) (fun g => n - g) ?_ 0 0 _ ⟨rfl, by omega, Zba.app (Nat.le_refl _) _, by simp⟩
 rintro g x4 h' ⟨rfl, hg, hs, hi⟩ R hR
 unfold Zho.L3t
 refine Zap (fun hlt => ?_) (fun hge => ?_)
 ·have hlt' : g < n := by omega
  obtain ⟨i, o, hgl, rfl, hi', hc⟩ := (r.same hs).pair hlt'
  simp only [Zaw, Int.toNat_natCast, hc, Zas, Zah, Zar, Zag]
  refine ⟨by omega, Zsg.mono fun v h1 ⟨hv, hs1⟩ => ?_⟩
  subst hv
  have hi1 : h1[h.length]? = some (.cells Zad (prs (l.take g ++ List.replicate (n - g) ([], []))) false) := by rw [hs1.eq _ (Own.lt hi)]; exact hi
  simp only [Zdq, Zah, Zar, Zag, Nat.zero_add]
  have hmin : min g l.length = g := Nat.min_eq_left (by omega)
  rw [Ybh hi1 (by simp; omega)]
  simp only [Zay]
  rw [Zni hlt' (by omega)]
  have hset : (l.take g ++ List.replicate (n - g) ([], [])).take g ++ [(l[g].1, l[g].2)] ++ (l.take g ++ List.replicate (n - g) (([] : List Nat), ([] : List Nat))).drop (g + 1) = l.take (g + 1) ++ List.replicate (n - (g + 1)) ([], []) := by
   have hl1 : (l.take g).length = g := by rw [List.length_take, hmin]
   rw [List.take_left' hl1, List.take_succ_eq_append_getElem hgl, List.drop_append, hl1, List.drop_of_length_le (by omega), List.nil_append, List.drop_replicate]
   congr 2; omega
  rw [hset]
  exact ⟨⟨by omega, by omega⟩, hR (g + 1) _ _ (by omega) ⟨rfl, by omega, (hs.trans (hs1.mono hs.le)).trans (Zba.set (Nat.le_refl _) _), Znk hi1⟩⟩
 ·have : g = n := by omega
  subst this
  rw [List.take_of_length_le (by omega), Nat.sub_self, List.replicate_zero, List.append_nil] at hi
  exact Zho.A3x0i _ _ _ _ _ _ ⟨_, _, _, rfl, hs, ⟨hll, .inr ⟨h.length, rfl, Nat.le_refl _, hi⟩⟩, by simp, by simp⟩
end Go.Sim
