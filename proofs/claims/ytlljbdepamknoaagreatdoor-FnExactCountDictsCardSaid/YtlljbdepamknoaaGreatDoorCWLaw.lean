/- A part of the proof of a statement of this seat: see the text that holds the theorem. No condition. -/
import Derived.Test.YtlljbdepamknoaaGreatDoorPTCTy
import Derived.Test.YtlljbdepamknoaaGreatDoorCVars
import Derived.Test.YtlljbdepamknoaaGreatDoorCTy
import Derived.Test.YtlljbdepamknoaaGreatDoorPTCWVar
import Derived.Test.YtlljbdepamknoaaGreatDoorPTCWLaw
set_option linter.unusedVariables false
set_option linter.unusedSimpArgs false
set_option linter.all false
set_option linter.unusedVariables false
set_option linter.unusedSimpArgs false
set_option maxRecDepth 20000
namespace Go.Sim
open Go Go.RowKit

theorem Zen {h : Zaa} {t : TypeId} {cs : List Zaq} {o : Nat} : Zal (h ++ [.cells t cs false]) (.ptr (some (h.length, o))) = cs[o]? := Zas (t := t) (cs := cs) (ro := false) (by simp)
theorem Zzy {h : Zaa} {t : TypeId} {cs : List Zaq} {n : Nat} (hn : cs.length = n) : Zbx (h ++ [.cells t cs false]) (.ptr (some (h.length, 0))) n = some cs := by
 rw [Zea (show (h ++ [Zcj.cells t cs false])[h.length]? = some (.cells t cs false) by simp) (by omega)]; simp [← hn]
theorem Zap {h : Zaa} {x : Zcj} : Zba h.length h (h ++ [x]) := Zba.app (Nat.le_refl _) _
theorem Ztm {h : Zaa} {t : TypeId} {cs vs : List Zaq} (hl : cs.length = vs.length) : Zbo (h ++ [.cells t cs false]) (.ptr (some (h.length, 0))) vs = some (h ++ [.cells t vs false]) := by
 rw [Zbz (show (h ++ [Zcj.cells t cs false])[h.length]? = some (.cells t cs false) by simp) (by omega)]
 simp [putRow, hl]
theorem Zgs {h : Zaa} {t : TypeId} {x y a b : Zaq} : Zbo (h ++ [.cells t [x, y] false]) (.ptr (some (h.length, 0))) [a, b] = some (h ++ [.cells t [a, b] false]) := Ztm rfl
theorem Ysj {h : Zaa} {t : TypeId} {x y z a b c : Zaq} : Zbo (h ++ [.cells t [x, y, z] false]) (.ptr (some (h.length, 0))) [a, b, c] = some (h ++ [.cells t [a, b, c] false]) := Ztm rfl
theorem Row.sl {b : Nat} {h : Zaa} {a : Pt} {n k : Nat} {l : List Nd} (r : Row b h a (n * 2) (Zdl eP l)) (hk : k ≤ n) (hl : l.length = n) : Row b h a (k * 2) (Zdl eP (l.take k)) := by
 obtain ⟨h1, h2⟩ := r
 have e : (Zdl eP (l.take k)).length = k * 2 := by rw [Zbf Zes, List.length_take, Nat.min_eq_left (by omega)]
 refine ⟨e, ?_⟩
 rcases h2 with h0 | ⟨i, o, t, all, ro, ha, hb, hi, hle, hcs⟩
 ·exact .inl (by omega)
 ·refine .inr ⟨i, o, t, all, ro, ha, hb, hi, by omega, ?_⟩
  rw [← Ylr Zes, hcs, List.take_take, Nat.min_eq_left (by omega)]
theorem Yfc {b : Nat} {h : Zaa} {a : Pt} {n c k : Nat} {e : Bool} {l : List Nd} {K : Zaq → Prop} (r : Row b h a (n * 2) (Zdl eP l)) (hl : l.length = n) (hk : k ≤ n) (hc : n ≤ c) {z : Int} (hz : z = k)
  (hK : ∀ a' c' e', Row b h a' (k * 2) (Zdl eP (l.take k)) → k ≤ c' → K (.slice a' k c' e')) : Zol a n c e 2 none (some (.int .i64 z)) none K := by
 subst hz
 simp only [Zol, Zkq]
 refine ⟨by omega, ?_⟩
 split
 ·have h0 : n = 0 := by
   obtain ⟨h1, h2⟩ := r
   rcases h2 with h2 | ⟨i, o, t, all, ro, ha, _⟩
   ·omega
   ·cases ha
  have hk0 : k = 0 := by omega
  subst hk0
  exact ⟨⟨by trivial, by simp, .inl (by trivial)⟩, hK _ _ _ (by simpa using Row.nil) (by omega)⟩
 ·rename_i i o
  refine ⟨fun hlt => ?_, fun hlt => ?_⟩
  ·have e2 : ((k : Int) - 0).toNat = k := by omega
   have e3 : o + Int.toNat 0 * 2 = o := by simp
   have e4 : ((c : Int) - 0).toNat = c := by omega
   rw [e2, e3, e4]
   exact hK _ _ _ (r.sl hk hl) (by omega)
  ·have hk0 : k = 0 := by omega
   subst hk0
   exact hK _ _ _ (by simpa using Row.nil) (by omega)

theorem Ycm {h : Zaa} {x : Nd} {j : Nat} {c : List Nat} (hj : Zal h (.ptr (some (j, 0))) = some (.str c)) (hjl : j < h.length) :
  Zad pg Zcr [.agg [.str x.1, .str x.2], .ptr (some (j, 0))] h fun v h' => v = .bool (decide (x.1 = c)) ∧ Zba h.length h h' := by
 apply Znf.call
 simp only [Zaw, Zen, List.getElem?_cons_zero, Zag]
 have := (Zap (h := h) (x := .cells Zbq [.str x.1, .str x.2] false)).cell hjl hj
 rw [this]
 exact ⟨rfl, Zap⟩
theorem Ycn {h : Zaa} {a : Pt} {n c : Nat} {e : Bool} {cs : List Nd} {j : Nat} {s : List Nat} (r : Row h.length h a (n * 2) (Zdl eP cs)) (hn : n ≤ 4611686018427387904) (hj : Zal h (.ptr (some (j, 0))) = some (.str s)) (hjl : j < h.length) :
  Zad pg Zdf [.slice a n c e, .fn Zcr [.ptr (some (j, 0))]] h fun v h' => (∃ z : Int, v = .int .i64 z ∧ decide (z ≥ 0) = Zfo cs s) ∧ Zba h.length h h' := by
 have hl : cs.length = n := by have := r.1; rw [Zbf Zes] at this; omega
 apply Zbm.call
 refine Zbm.L2ind _ _ _ _ _ _ _ (J := fun (g : Nat) x8 h' => x8 = (g : Int) ∧ g ≤ n ∧ Zba h.length h h' ∧ Zfo (cs.take g) s = false) (fun g => n - g) ?_ 0 _ _ ⟨rfl, by omega, Zba.refl _ _, rfl⟩
 rintro g x8 h' ⟨rfl, hg, hS, hk⟩ R hR
 unfold Zbm.L2t
 refine Zao (fun hlt => ?_) (fun hge => ?_)
 ·obtain ⟨i, o, hgl, rfl, _, hr, _⟩ := (r.same hS).pr (k := g) (by omega)
  simp only [Zav, Int.toNat_natCast, hr, Zat, Zai, Zar, Zag]
  refine ⟨by omega, (Ycm (x := cs[g]) (hS.cell hjl hj) (by have := hS.le; omega)).mono ?_⟩
  rintro v h2 ⟨rfl, s2⟩
  simp only [Zam]
  have hS2 := hS.trans (s2.mono hS.le)
  refine Zao (fun he => ?_) (fun he => ?_)
  ·refine ⟨⟨_, rfl, ?_⟩, hS2⟩
   have : Zfo cs s = true := by unfold Zfo; rw [List.any_eq_true]; exact ⟨_, List.getElem_mem hgl, by simpa using he⟩
   rw [this]; simp
  ·rw [Zbr (by omega)]
   exact hR (g + 1) _ _ (by omega) ⟨rfl, by omega, hS2, by rw [Zwa hgl, hk]; simp [he]⟩
 ·apply Zbm.A2x0i
  have : g = n := by omega
  subst this
  rw [List.take_of_length_le (by omega)] at hk
  exact ⟨⟨_, rfl, by rw [hk]; rfl⟩, hS⟩
theorem Zun {h : Zaa} {a : Pt} {n c : Nat} {e : Bool} {cs : List Nd} {s : List Nat} (r : Row h.length h a (n * 2) (Zdl eP cs)) (hn : n ≤ 4611686018427387904) :
  Zad pg Zie [.slice a n c e, .str s] h fun v h' => v = .bool (Zfo cs s) ∧ Zba h.length h h' := by
 apply Ztq.call
 simp only [Zaw]
 apply Zcv.call
 have s1 : Zba h.length h (h ++ [.cells Zaz [.str s] false]) := Zap
 refine (Ycn (r.same' s1) hn (s := s) (by rw [Zen]; rfl) (by simp)).mono ?_
 rintro v h2 ⟨⟨z, rfl, hz⟩, s2⟩
 simp only [Zau, Zam]
 exact ⟨by rw [hz], s1.trans (s2.mono s1.le)⟩
theorem Zpv {h : Zaa} {a a1 : Pt} {n c n1 c1 : Nat} {e e1 : Bool} {cs : List Nd} {s : List Nat} (r : Row h.length h a (n * 2) (Zdl eP cs)) (hn : n ≤ 4611686018427387904) :
  Zad pg Zgb [.agg [.slice a n c e, .slice a1 n1 c1 e1], .str s] h fun v h' => v = .int .i64 (Yed cs s) ∧ Zba h.length h h' := by
 have hl : cs.length = n := by have := r.1; rw [Zbf Zes] at this; omega
 apply Zhm.call
 simp only [Zaw, Zen, Nat.add_zero, List.getElem?_cons_zero, Zaf]
 have s1 : Zba h.length h (h ++ [.cells Zak [.slice a n c e, .slice a1 n1 c1 e1] false]) := Zap
 refine Zhm.L2ind _ _ _ _ _ _ _ (J := fun (g : Nat) x10 h' => x10 = (g : Int) ∧ g ≤ n ∧ Zba h.length h h' ∧ Zfo (cs.take g) s = false) (fun g => n - g) ?_ 0 _ _ ⟨rfl, by omega, s1, rfl⟩
 rintro g x8 h' ⟨rfl, hg, hS, hk⟩ R hR
 unfold Zhm.L2t
 refine Zao (fun hlt => ?_) (fun hge => ?_)
 ·obtain ⟨i, o, hgl, rfl, _, hr, _⟩ := (r.same hS).pr (k := g) (by omega)
  simp only [Zav, Int.toNat_natCast, hr, Zat, Zai, Zar, Zag, Zaw]
  rw [Zgs]
  simp only [Zay, Zen, Nat.add_zero, List.getElem?_cons_zero, Zag]
  refine ⟨by omega, ?_⟩
  have hS2 : Zba h.length h (h' ++ [.cells Zbq [.str cs[g].1, .str cs[g].2] false]) := hS.trans (Zba.app hS.le _)
  refine Zao (fun he => ?_) (fun he => ?_)
  ·refine ⟨?_, hS2⟩
   have hkn : Zfo cs s = true := by unfold Zfo; rw [List.any_eq_true]; exact ⟨_, List.getElem_mem hgl, by simpa using he⟩
   unfold Yed
   rw [hkn, if_pos rfl]
   congr 2
   symm
   rw [List.findIdx_eq hgl]
   refine ⟨by simpa using he, fun j hj => ?_⟩
   unfold Zfo at hk
   rw [List.any_eq_false] at hk
   have := hk cs[j] (List.mem_take_iff_getElem.2 ⟨j, by omega, rfl⟩)
   simpa using this
  ·rw [Zbr (by omega)]
   exact hR (g + 1) _ _ (by omega) ⟨rfl, by omega, hS2, by rw [Zwa hgl, hk]; simp [he]⟩
 ·apply Zhm.A2x0i
  have : g = n := by omega
  subst this
  rw [List.take_of_length_le (by omega)] at hk
  exact ⟨by unfold Yed; rw [hk]; rfl, hS⟩

theorem Ykx {s : List Nat} {g : Nat} {z : Int} (hg : g < s.length) (hz : z = ((g + 1 : Nat) : Int)) : sub s (g : Int) z = [s[g]] := by
 subst hz
 simp only [sub, Int.toNat_natCast]
 rw [List.take_succ_eq_append_getElem hg, List.drop_append_of_le_length (by simp; omega), List.drop_of_length_le (by rw [List.length_take]; exact Nat.min_le_left _ _), List.nil_append]
theorem Zse {g : Nat} (hg : 0 < g) (hn : g ≤ 9223372036854775807) : IntKind.wrap .i64 ((g : Int) - 1) = ((g - 1 : Nat) : Int) := by rw [IntWalk.i64_in _ (by omega)]; omega
theorem Yfs {cs : List Nd} {s : List Nat} {g : Nat} (hg : g < s.length) : Zws cs s g = (Zfo cs [s[g]] && (g == 0 || decide (s.getD (g - 1) 0 < s[g]))) := by unfold Zws; rw [Zez hg]
theorem Yen {cs : List Nd} {g : Nat} (hg : g < cs.length) : Zwf cs g = (Zsu cs[g].1 && (g == 0 || Zdu (cs.getD (g - 1) ([], [])).1 cs[g].1) && Yca (cs.take g) cs[g].2) := by unfold Zwf; rw [Zez hg]
theorem Zka {cs : List Nd} {g : Nat} (hg : g < cs.length) (h : Zwf cs g = false) : Zii cs = false := by unfold Zii; rw [Zit hg h]; rfl
theorem Ztr {h : Zaa} {a a1 : Pt} {n c n1 c1 : Nat} {e e1 : Bool} {cs : List Nd} (r : Row h.length h a (n * 2) (Zdl eP cs)) (hc : n ≤ c) (hn : n ≤ 1048576) (hs : ∀ p ∈ cs, p.2.length ≤ 1048576) :
  Zad pg Zhw [.agg [.slice a n c e, .slice a1 n1 c1 e1]] h fun v h' => v = .bool (Zii cs) ∧ Zba h.length h h' := by
 have hl : cs.length = n := by have := r.1; rw [Zbf Zes] at this; omega
 apply Zcs.call
 simp only [Zaw, Zen, Nat.add_zero, List.getElem?_cons_zero, Zaf]
 have s1 : Zba h.length h (h ++ [.cells Zak [.slice a n c e, .slice a1 n1 c1 e1] false]) := Zap
 have hw : (h ++ [Zcj.cells Zak [.slice a n c e, .slice a1 n1 c1 e1] false])[h.length]? = some (.cells Zak [.slice a n c e, .slice a1 n1 c1 e1] false) := by simp
 refine Zcs.L2ind _ _ _ _ _ _ _ _ (J := fun (g : Nat) x9 h' => x9 = (g : Int) ∧ g ≤ n ∧ Zba h.length h h' ∧ h'[h.length]? = some (.cells Zak [.slice a n c e, .slice a1 n1 c1 e1] false) ∧ (List.range g).all (Zwf cs) = true) (fun g => n - g) ?_ 0 _ _ ⟨rfl, by omega, s1, hw, rfl⟩
 rintro g x9 h' ⟨rfl, hg, hS, hW, hk⟩ R hR
 unfold Zcs.L2t
 refine Zao (fun hlt => ?_) (fun hge => ?_)
 ·obtain ⟨i, o, hgl, rfl, hil, hr, _⟩ := (r.same hS).pr (k := g) (by omega)
  simp only [Zav, Int.toNat_natCast, hr, Zat, Zai, Zar, Zag, Zaw]
  rw [Zgs]
  simp only [Zay, Zen, Nat.add_zero, List.getElem?_cons_zero, Zag]
  have hS2 : Zba h.length h (h' ++ [.cells Zbq [.str cs[g].1, .str cs[g].2] false]) := hS.trans (Zba.app hS.le _)
  refine ⟨by omega, (Yhi _).mono ?_⟩
  rintro v h2 ⟨rfl, rfl⟩
  simp only [Zam, true_and]
  have hcl := Yen hgl
  have hle := hS2.le
  have hWl := Own.lt hW
  have hW2 : (h' ++ [.cells Zbq [.str cs[g].1, .str cs[g].2] false])[h.length]? = some (.cells Zak [.slice (some (i, o)) n c e, .slice a1 n1 c1 e1] false) := Znt hW
  have hcell : ∀ o', Zal (h' ++ [.cells Zbq [.str cs[g].1, .str cs[g].2] false]) (.ptr (some (h'.length, o'))) = ([.str cs[g].1, .str cs[g].2] : List Zaq)[o']? := fun o' => Zen
  -- the classes above
  have key : (Zsu cs[g].1 && (g == 0 || Zdu (cs.getD (g - 1) ([], [])).1 cs[g].1)) = true → Zcs.J6 (fun v h' => v = .bool (Zii cs) ∧ Zba h.length h h') R h'.length 0 h.length 0 (g : Int) (some (i, o)) n c e (n : Int) (g : Int) (h' ++ [.cells Zbq [.str cs[g].1, .str cs[g].2] false]) := by
   intro hpre
   rw [hpre, Bool.true_and] at hcl
   apply Zcs.J6i
   rw [hcell]
   simp only [Nat.zero_add, List.getElem?_cons_succ, List.getElem?_cons_zero, Zag]
   have hsl := hs cs[g] (List.getElem_mem hgl)
   refine Zcs.L7ind _ _ _ _ _ _ _ _ _ _ _ _ _ _ (J := fun (q : Nat) x37 h3 => x37 = (q : Int) ∧ q ≤ cs[g].2.length ∧ Zba h.length h h3 ∧ h3[h.length]? = some (.cells Zak [.slice (some (i, o)) n c e, .slice a1 n1 c1 e1] false) ∧ h3[h'.length]? = some (.cells Zbq [.str cs[g].1, .str cs[g].2] false) ∧ (List.range q).all (Zws (cs.take g) cs[g].2) = true) (fun q => cs[g].2.length - q) ?_ 0 _ _ ⟨rfl, by omega, hS2, hW2, by simp, rfl⟩
   rintro q x37 h3 ⟨rfl, hq, hS3, hW3, hI3, hk3⟩ R7 hR7
   unfold Zcs.L7t
   refine Zao (fun hlt3 => ?_) (fun hge3 => ?_)
   ·have hq' : q < cs[g].2.length := by omega
    simp only [Nat.add_zero, Nat.zero_add, Zas hW3, Zas hI3, List.getElem?_cons_succ, List.getElem?_cons_zero, Zaf, Zag, true_and]
    refine Yfc (r.same hS3) hl (k := g) (by omega) hc rfl (fun a' c' e' hrow hc' => ?_)
    simp only [Zaf]
    rw [Zbr (by omega), Ykx hq' rfl]
    refine ⟨⟨by omega, by omega, by omega⟩, (Zun (hrow.mono hS3.le) (by omega)).mono ?_⟩
    rintro v h4 ⟨rfl, s4⟩
    have hS4 := hS3.trans (s4.mono hS3.le)
    have hW4 : h4[h.length]? = some (.cells Zak [.slice (some (i, o)) n c e, .slice a1 n1 c1 e1] false) := by rw [s4.eq _ (Own.lt hW3)]; exact hW3
    have hI4 : h4[h'.length]? = some (.cells Zbq [.str cs[g].1, .str cs[g].2] false) := by rw [s4.eq _ (Own.lt hI3)]; exact hI3
    simp only [Zam, Zas hW3, Zas hW4, Zas hI4, Nat.add_zero, Nat.zero_add, List.getElem?_cons_succ, List.getElem?_cons_zero, Zag, true_and]
    have hsa := Yfs (cs := cs.take g) hq'
    have fail : Zws (cs.take g) cs[g].2 q = false → (Zaq.bool false = Zaq.bool (Zii cs) ∧ Zba h.length h h4) := fun hf => ⟨by rw [Zka hgl (by rw [hcl]; unfold Yca; exact Zit hq' hf)], hS4⟩
    have next : Zws (cs.take g) cs[g].2 q = true → R7 h.length 0 (g : Int) h'.length 0 (some (i, o)) n c e (n : Int) (g : Int) (cs[g].2.length : Int) (IntKind.wrap .i64 ((q : Int) + 1)) h4 := fun ht => by
     rw [Zbr (by omega)]
     exact hR7 (q + 1) _ _ (by omega) ⟨rfl, by omega, hS4, hW4, hI4, Zga hk3 ht⟩
    refine Zcc (fun hb => fail (by rw [hsa, hb]; rfl)) (fun hb => ?_)
    refine Zao (fun h0 => ?_) (fun h0 => ?_)
    ·have h0' : 0 < q := by omega
     rw [Zse h0' (by omega)]
     refine ⟨⟨by omega, by omega⟩, ⟨by omega, by omega⟩, ?_⟩
     simp only [Int.toNat_natCast]
     have hd1 : cs[g].2.getD q 0 = cs[g].2[q] := Zez hq'
     have hq0 : (q == 0) = false := by simp; omega
     refine Zao (fun h1 => fail ?_) (fun h1 => Zcs.J11i _ _ _ _ _ _ _ _ _ _ _ _ _ _ _ _ _ (next ?_))
     ·rw [hsa, hb, hq0, ← hd1]; simp only [Bool.true_and, Bool.false_or, decide_eq_false_iff_not]; omega
     ·rw [hsa, hb, hq0, ← hd1]; simp only [Bool.true_and, Bool.false_or, decide_eq_true_eq]; omega
    ·have : q = 0 := by omega
     subst this
     exact Zcs.J11i _ _ _ _ _ _ _ _ _ _ _ _ _ _ _ _ _ (next (by rw [hsa, hb]; rfl))
   ·apply Zcs.A7x2i
    apply Zcs.J12i
    have : q = cs[g].2.length := by omega
    subst this
    rw [Zbr (by omega)]
    exact hR (g + 1) _ _ (by omega) ⟨rfl, by omega, hS3, hW3, Zga hk (by rw [hcl]; exact hk3)⟩
  refine Zcc (fun hb => ⟨by rw [Zka hgl (by rw [hcl, hb]; rfl)], hS2⟩) (fun hb => ?_)
  refine Zao (fun h0 => ?_) (fun h0 => ?_)
  ·have h0' : 0 < g := by omega
   rw [Zas hW2]
   simp only [List.getElem?_cons_zero, Zaf]
   rw [Zse h0' (by omega)]
   obtain ⟨i', o', hgl', heq, _, _, hc0, _⟩ := (r.same hS2).pr (k := g - 1) (by omega)
   cases heq
   simp only [Zav, Int.toNat_natCast, hc0, Zag, Nat.add_zero, Nat.zero_add, hcell, List.getElem?_cons_zero, true_and]
   refine ⟨by omega, ?_⟩
   have hg0 : (g == 0) = false := by simp; omega
   have hgd : cs.getD (g - 1) ([], []) = cs[g - 1] := Zez hgl'
   refine Zcc (fun hb2 => ⟨by rw [Zka hgl (by rw [hcl, hb, hg0, hgd, hb2]; rfl)], hS2⟩) (fun hb2 => key (by rw [hb, hg0, hgd, hb2]; rfl))
  ·have : g = 0 := by omega
   subst this
   exact key (by rw [hb]; rfl)
 ·apply Zcs.A2x0i
  have : g = n := by omega
  subst this
  have hok : Zii cs = decide (1 ≤ g ∧ g ≤ 4) := by unfold Zii; rw [hl, hk, Bool.true_and]
  simp only [Nat.add_zero, Zas hW, List.getElem?_cons_zero, Zaf]
  refine Zao (fun h1 => ?_) (fun h1 => ?_)
  ·refine ⟨?_, hS⟩
   rw [hok]; congr 1; rw [Bool.eq_iff_iff]; simp; omega
  ·refine ⟨?_, hS⟩
   rw [hok]; congr 1; symm; simp; omega
end Go.Sim

set_option linter.unusedVariables false
set_option linter.unusedSimpArgs false
set_option maxRecDepth 20000
namespace Go.Sim
open Go Go.RowKit
theorem Zud {h : Zaa} {a : Pt} {n c : Nat} {e : Bool} {cs : List Nd} (r : Row h.length h a (n * 2) (Zdl eP cs)) (hc : n ≤ c) (hn : n ≤ 1048576) (hs : ∀ p ∈ cs, p.2.length ≤ 1048576) (hb256 : ∀ p ∈ cs, ∀ b ∈ p.1, b < 256) :
  Zad pg Zhs [.slice a n c e] h fun v h' => v = .bool (Zii cs) ∧ Zba h.length h h' := by
 have hl : cs.length = n := by have := r.1; rw [Zbf Zes] at this; omega
 apply Zcq.call
 refine Zcq.L2ind _ _ _ _ _ _ _ _ _ _ (J := fun (g : Nat) x9 h' => x9 = (g : Int) ∧ g ≤ n ∧ Zba h.length h h' ∧ (List.range g).all (Zwf cs) = true) (fun g => n - g) ?_ 0 _ _ ⟨rfl, by omega, Zba.refl _ _, rfl⟩
 rintro g x9 h' ⟨rfl, hg, hS, hk⟩ R hR
 unfold Zcq.L2t
 refine Zao (fun hlt => ?_) (fun hge => ?_)
 ·obtain ⟨i, o, hgl, rfl, hil, hr, _⟩ := (r.same hS).pr (k := g) (by omega)
  simp only [Zav, Int.toNat_natCast, hr, Zat, Zai, Zar, Zag, Zaw]
  rw [Zgs]
  simp only [Zay, Zen, Nat.add_zero, List.getElem?_cons_zero, Zag]
  have hS2 : Zba h.length h (h' ++ [.cells Zbq [.str cs[g].1, .str cs[g].2] false]) := hS.trans (Zba.app hS.le _)
  refine ⟨by omega, (Yab _ (hb256 _ (List.getElem_mem hgl))).mono ?_⟩
  rintro v h2 ⟨rfl, rfl⟩
  simp only [Zam, true_and]
  have hcl := Yen hgl
  have hle := hS2.le
  have hcell : ∀ o', Zal (h' ++ [.cells Zbq [.str cs[g].1, .str cs[g].2] false]) (.ptr (some (h'.length, o'))) = ([.str cs[g].1, .str cs[g].2] : List Zaq)[o']? := fun o' => Zen
  -- the classes above
  have key : (Zsu cs[g].1 && (g == 0 || Zdu (cs.getD (g - 1) ([], [])).1 cs[g].1)) = true → Zcq.J6 (fun v h' => v = .bool (Zii cs) ∧ Zba h.length h h') R h'.length 0 (some (i, o)) n c e (g : Int) (some (i, o)) n c e (n : Int) (g : Int) (h' ++ [.cells Zbq [.str cs[g].1, .str cs[g].2] false]) := by
   intro hpre
   rw [hpre, Bool.true_and] at hcl
   apply Zcq.J6i
   rw [hcell]
   simp only [Nat.zero_add, List.getElem?_cons_succ, List.getElem?_cons_zero, Zag]
   have hsl := hs cs[g] (List.getElem_mem hgl)
   refine Zcq.L7ind _ _ _ _ _ _ _ _ _ _ _ _ _ _ _ _ (J := fun (q : Nat) x37 h3 => x37 = (q : Int) ∧ q ≤ cs[g].2.length ∧ Zba h.length h h3 ∧ h3[h'.length]? = some (.cells Zbq [.str cs[g].1, .str cs[g].2] false) ∧ (List.range q).all (Zws (cs.take g) cs[g].2) = true) (fun q => cs[g].2.length - q) ?_ 0 _ _ ⟨rfl, by omega, hS2, by simp, rfl⟩
   rintro q x37 h3 ⟨rfl, hq, hS3, hI3, hk3⟩ R7 hR7
   unfold Zcq.L7t
   refine Zao (fun hlt3 => ?_) (fun hge3 => ?_)
   ·have hq' : q < cs[g].2.length := by omega
    simp only [Nat.add_zero, Nat.zero_add, Zas hI3, List.getElem?_cons_succ, List.getElem?_cons_zero, Zaf, Zag, true_and]
    refine Yfc (r.same hS3) hl (k := g) (by omega) hc rfl (fun a' c' e' hrow hc' => ?_)
    simp only [Zaf]
    rw [Zbr (by omega), Ykx hq' rfl]
    refine ⟨⟨by omega, by omega, by omega⟩, (Zpv (hrow.mono hS3.le) (by omega)).mono ?_⟩
    rintro v h4 ⟨rfl, s4⟩
    have hS4 := hS3.trans (s4.mono hS3.le)
    have hI4 : h4[h'.length]? = some (.cells Zbq [.str cs[g].1, .str cs[g].2] false) := by rw [s4.eq _ (Own.lt hI3)]; exact hI3
    simp only [Zau, Zwd, Zas hI4, Nat.add_zero, Nat.zero_add, List.getElem?_cons_succ, List.getElem?_cons_zero, Zag, true_and]
    have hsa := Yfs (cs := cs.take g) hq'
    have fail : Zws (cs.take g) cs[g].2 q = false → (Zaq.bool false = Zaq.bool (Zii cs) ∧ Zba h.length h h4) := fun hf => ⟨by rw [Zka hgl (by rw [hcl]; unfold Yca; exact Zit hq' hf)], hS4⟩
    have next : Zws (cs.take g) cs[g].2 q = true → R7 (some (i, o)) n c e (g : Int) h'.length 0 (some (i, o)) n c e (n : Int) (g : Int) (cs[g].2.length : Int) (IntKind.wrap .i64 ((q : Int) + 1)) h4 := fun ht => by
     rw [Zbr (by omega)]
     exact hR7 (q + 1) _ _ (by omega) ⟨rfl, by omega, hS4, hI4, Zga hk3 ht⟩
    refine Zcc (fun hb => fail (by rw [hsa, hb]; rfl)) (fun hb => ?_)
    refine Zao (fun h0 => ?_) (fun h0 => ?_)
    ·have h0' : 0 < q := by omega
     rw [Zse h0' (by omega)]
     refine ⟨⟨by omega, by omega⟩, ⟨by omega, by omega⟩, ?_⟩
     simp only [Int.toNat_natCast]
     have hd1 : cs[g].2.getD q 0 = cs[g].2[q] := Zez hq'
     have hq0 : (q == 0) = false := by simp; omega
     refine Zao (fun h1 => fail ?_) (fun h1 => Zcq.J11i _ _ _ _ _ _ _ _ _ _ _ _ _ _ _ _ _ _ _ (next ?_))
     ·rw [hsa, hb, hq0, ← hd1]; simp only [Bool.true_and, Bool.false_or, decide_eq_false_iff_not]; omega
     ·rw [hsa, hb, hq0, ← hd1]; simp only [Bool.true_and, Bool.false_or, decide_eq_true_eq]; omega
    ·have : q = 0 := by omega
     subst this
     exact Zcq.J11i _ _ _ _ _ _ _ _ _ _ _ _ _ _ _ _ _ _ _ (next (by rw [hsa, hb]; rfl))
   ·apply Zcq.A7x2i
    apply Zcq.J12i
    have : q = cs[g].2.length := by omega
    subst this
    rw [Zbr (by omega)]
    exact hR (g + 1) _ _ (by omega) ⟨rfl, by omega, hS3, Zga hk (by rw [hcl]; exact hk3)⟩
  refine Zcc (fun hb => ⟨by rw [Zka hgl (by rw [hcl, hb]; rfl)], hS2⟩) (fun hb => ?_)
  refine Zao (fun h0 => ?_) (fun h0 => ?_)
  ·have h0' : 0 < g := by omega
   rw [Zse h0' (by omega)]
   obtain ⟨i', o', hgl', heq, _, _, hc0, _⟩ := (r.same hS2).pr (k := g - 1) (by omega)
   cases heq
   simp only [Zav, Int.toNat_natCast, hc0, Zag, Nat.add_zero, Nat.zero_add, hcell, List.getElem?_cons_zero, true_and]
   refine ⟨by omega, ?_⟩
   have hg0 : (g == 0) = false := by simp; omega
   have hgd : cs.getD (g - 1) ([], []) = cs[g - 1] := Zez hgl'
   refine Zcc (fun hb2 => ⟨by rw [Zka hgl (by rw [hcl, hb, hg0, hgd, hb2]; rfl)], hS2⟩) (fun hb2 => key (by rw [hb, hg0, hgd, hb2]; rfl))
  ·have : g = 0 := by omega
   subst this
   exact key (by rw [hb]; rfl)
 ·apply Zcq.A2x0i
  have : g = n := by omega
  subst this
  have hok : Zii cs = decide (1 ≤ g ∧ g ≤ 4) := by unfold Zii; rw [hl, hk, Bool.true_and]
  refine Yee.mono ?_
  rintro v h2 ⟨rfl, rfl⟩
  simp only [Zam]
  refine ⟨?_, hS⟩
  rw [hok]; congr 1; rw [Bool.eq_iff_iff]; simp; omega
end Go.Sim

set_option linter.unusedVariables false
set_option linter.unusedSimpArgs false
set_option maxRecDepth 20000
namespace Go.Sim
open Go Go.RowKit

theorem Ypo (c : Nat) : decide (c ∈ [120, 121, 122, 88, 89, 90]) = Zdd c := by rw [Bool.eq_iff_iff]; simp [Zdd, or_assoc]
theorem Zzk {h : Zaa} (s : List Nat) : Zad pg Zke [.str s] h fun v h' => v = .bool (Zjh s) ∧ h' = h := by
 apply Zua.call
 match s with
 | [] => exact Zfd (fun h1 => by simp at h1) (fun h1 => ⟨rfl, rfl⟩)
 | [c] =>
  refine Zfd (fun h1 => ?_) (fun h1 => by simp at h1)
  refine Zlt.mono ?_
  rintro v h' ⟨rfl, rfl⟩
  simp only [Zam]
  exact ⟨by rw [Ypo]; rfl, by trivial⟩
 | c :: d :: r => exact Zfd (fun h1 => by simp at h1; omega) (fun h1 => ⟨rfl, rfl⟩)
theorem Zoh {h : Zaa} (c : Nat) : Zad pg Zfk [.int .u8 (c : Int)] h fun v h' => v = .bool (Zdd c) ∧ h' = h := by
 apply Znl.call
 refine (Zyx _ c (by simp)).mono ?_
 rintro v h' ⟨rfl, rfl⟩
 simp only [Zau]
 exact ⟨by rw [Yql], by trivial⟩
noncomputable def Yom (s v : List Nat) : Int := if Zmw s && Zjh v then (s.count (v.headD 0) : Nat) else -1
theorem Ybd {h : Zaa} (s v : List Nat) (hs : s.length ≤ 1048576) : Zad pg Zla [.str s, .str v] h fun x h' => x = .int .i64 (Yom s v) ∧ Zba h.length h h' := by
 apply Zei.call
 refine (Zim s (by omega) h).mono ?_
 rintro x h1 ⟨rfl, s1⟩
 simp only [Zam]
 refine Zcc (fun hb => ⟨by unfold Yom; rw [hb]; rfl, s1⟩) (fun hb => ?_)
 match v with
 | [] => exact Zgu (fun _ => ⟨by unfold Yom; rw [hb]; rfl, s1⟩) (fun h1 => by simp at h1)
 | c :: d :: r => exact Zgu (fun _ => ⟨by unfold Yom; rw [hb]; rfl, s1⟩) (fun h1 => by simp at h1; omega)
 | [c] =>
  refine Zgu (fun h1 => by simp at h1) (fun _ => ?_)
  refine ⟨⟨by omega, by simp⟩, ?_⟩
  simp only [Int.toNat_zero, List.getD_cons_zero]
  refine (Zoh c).mono ?_
  rintro x h2 ⟨rfl, rfl⟩
  simp only [Zam]
  refine Zcc (fun hv => ⟨by unfold Yom; rw [hb, show Zjh [c] = Zdd c from rfl, hv]; rfl, s1⟩) (fun hv => ?_)
  apply Zei.J3i
  refine Zei.L5ind _ _ _ _ (J := fun (g : Nat) x5 x23 h' => x23 = (g : Int) ∧ g ≤ s.length ∧ x5 = ((s.take g).count c : Nat) ∧ h' = h2) (fun g => s.length - g) ?_ 0 _ _ _ ⟨rfl, by omega, by simp, rfl⟩
  rintro g x5 x23 h' ⟨rfl, hg, rfl, rfl⟩ R hR
  unfold Zei.L5t
  refine Zao (fun hlt => ?_) (fun hge => ?_)
  ·have hg' : g < s.length := by omega
   refine ⟨⟨by omega, by omega⟩, ⟨by omega, by simp⟩, ?_⟩
   simp only [Int.toNat_zero, List.getD_cons_zero, Int.toNat_natCast, Zez hg']
   have hc := List.count_le_length (a := c) (l := s.take g)
   rw [List.length_take] at hc
   have htk : (s.take (g + 1)).count c = (s.take g).count c + if s[g] = c then 1 else 0 := by
    rw [List.take_succ_eq_append_getElem hg', List.count_append]; simp [List.count_cons]
   refine Zfd (fun he => ?_) (fun he => ?_)
   ·apply Zei.J9i
    rw [Zbr (by omega), Zbr (by omega)]
    exact hR (g + 1) _ _ _ (by omega) ⟨rfl, by omega, by rw [htk, if_pos (by omega)], rfl⟩
   ·apply Zei.J9i
    rw [Zbr (by omega)]
    exact hR (g + 1) _ _ _ (by omega) ⟨rfl, by omega, by rw [htk, if_neg (by omega)]; rfl, rfl⟩
  ·apply Zei.A5x0i
   have : g = s.length := by omega
   subst this
   rw [List.take_length]
   refine ⟨?_, s1⟩
   unfold Yom
   rw [hb, show Zjh [c] = Zdd c from rfl, hv]; rfl
theorem Zya {h : Zaa} (s : List Nat) (hs : s.length ≤ 1048576) : Zad pg Zkt [.str s] h fun v h' => v = .str (if Zmw s = true then Zre s else []) ∧ Zba h.length h h' := by
 apply Zfx.call
 simp only [Zaw]
 have hlist : (h ++ [Zcj.cells Zaz [.str [88], .str [89], .str [90], .str [120], .str [121], .str [122]] false])[h.length]? = some (.cells Zaz [.str [88], .str [89], .str [90], .str [120], .str [121], .str [122]] false) := by simp
 refine Zfx.L3ind _ _ _ _ _ _ _ (J := fun (g : Nat) x3 x8 h' => x8 = (g : Int) ∧ g ≤ 6 ∧ Zba h.length h h' ∧ h'[h.length]? = some (.cells Zaz [.str [88], .str [89], .str [90], .str [120], .str [121], .str [122]] false) ∧ x3 = if Zmw s = true then (Zey.take g).filter fun v => decide (v ∈ s) else []) (fun g => 6 - g) ?_ 0 _ _ _
  ⟨rfl, by omega, Zap, hlist, by simp⟩
 rintro g x3 x8 h' ⟨rfl, hg, hS, hl, rfl⟩ R hR
 unfold Zfx.L3t
 refine Zao (fun hlt => ?_) (fun hge => ?_)
 ·have hlt' : g < 6 := by omega
  have hc : ∃ c, Zey[g]? = some c ∧ Zdd c = true ∧ Zal h' (.ptr (some (h.length, 0 + (g : Int).toNat * 1))) = some (.str [c]) := by
   rw [Zas hl, Int.toNat_natCast]
   match g, hlt' with
   | 0, _ | 1, _ | 2, _ | 3, _ | 4, _ | 5, _ => exact ⟨_, rfl, rfl, rfl⟩
  obtain ⟨c, hc1, hcv, hc2⟩ := hc
  simp only [Zav, hc2, Zag]
  refine ⟨by omega, (Ybd s [c] hs).mono ?_⟩
  rintro v h2 ⟨rfl, s2⟩
  simp only [Zau]
  have htk : Zey.take (g + 1) = Zey.take g ++ [c] := by rw [List.take_succ, hc1]; rfl
  have hS2 := hS.trans (s2.mono hS.le)
  have hl2 : h2[h.length]? = some (.cells Zaz [.str [88], .str [89], .str [90], .str [120], .str [121], .str [122]] false) := by rw [s2.eq _ (Own.lt hl)]; exact hl
  have hcn : decide (Yom s [c] > 0) = (Zmw s && decide (c ∈ s)) := by
   unfold Yom
   rw [show Zjh [c] = Zdd c from rfl, hcv]
   cases hb : Zmw s with
   | false => rfl
   | true =>
    simp only [Bool.and_self, if_true, Bool.true_and, List.headD_cons]
    rw [Bool.eq_iff_iff]; simp [List.count_pos_iff]
  have hbd : (if Zmw s = true then (Zey.take g).filter fun v => decide (v ∈ s) else []).length ≤ 6 := by
   split
   ·exact Nat.le_trans (List.length_filter_le _ _) (by simp; omega)
   ·simp
  rw [hcn]
  refine Zdg (fun hb => ?_) (fun hb => ?_)
  ·simp only [Bool.and_eq_true] at hb
   refine ⟨by simp only [List.length_cons, List.length_nil]; omega, ?_⟩
   apply Zfx.J7i
   rw [Zbr (by omega)]
   refine hR (g + 1) _ _ _ (by omega) ⟨rfl, by omega, hS2, hl2, ?_⟩
   rw [if_pos hb.1, if_pos hb.1, htk, List.filter_append]; simp [hb.2]
  ·apply Zfx.J7i
   rw [Zbr (by omega)]
   refine hR (g + 1) _ _ _ (by omega) ⟨rfl, by omega, hS2, hl2, ?_⟩
   cases ht : Zmw s with
   | false => simp
   | true => rw [ht, Bool.true_and] at hb; rw [htk, List.filter_append]; simp; simpa using hb
 ·apply Zfx.A3x0i
  have : g = 6 := by omega
  subst this
  exact ⟨rfl, hS⟩
theorem Yiy {h : Zaa} (x y : List Nat) (hx : x.length ≤ 1048576) (hy : y.length ≤ 1048576) : Zad pg Zlb [.str x, .str y] h fun v h' => v = .bool (x.all fun c => decide (c ∈ y)) ∧ h' = h := by
 apply Zgl.call
 refine Zgl.L2ind _ _ _ _ (J := fun (g : Nat) x8 h' => x8 = (g : Int) ∧ g ≤ x.length ∧ h' = h ∧ (x.take g).all (fun c => decide (c ∈ y)) = true) (fun g => x.length - g) ?_ 0 _ _ ⟨rfl, by omega, rfl, by simp⟩
 rintro g x8 h' ⟨rfl, hg, rfl, hk⟩ R hR
 unfold Zgl.L2t
 refine Zao (fun hlt => ?_) (fun hge => ?_)
 ·have hg' : g < x.length := by omega
  refine ⟨⟨by omega, by omega⟩, ?_⟩
  simp only [Int.toNat_natCast, Zez hg']
  refine (Zyx y x[g] (by omega)).mono ?_
  rintro v h2 ⟨rfl, rfl⟩
  simp only [Zau]
  have hix : decide (Zsp y x[g] < 0) = !decide (x[g] ∈ y) := by
   by_cases hm : x[g] ∈ y
   ·have := (Zzp y x[g]).2 hm
    simp [hm]; omega
   ·rw [Zve hm]; simp [hm]
  rw [hix]
  refine Zcc (fun hb => ⟨by rw [Zqy hg' hb], by trivial⟩) (fun hb => ?_)
  rw [Zbr (by omega)]
  exact hR (g + 1) _ _ (by omega) ⟨rfl, by omega, rfl, Zfu hg' hk hb⟩
 ·apply Zgl.A2x0i
  have : g = x.length := by omega
  subst this
  rw [List.take_length] at hk
  exact ⟨by rw [hk], by trivial⟩

theorem Yfr {cs : List Nd} {ct tt : List Nat} {ns : List Nd} (h1 : Zii cs = true) (h2 : Zfo cs ct = true) (h3 : Zmw tt = true) (h4 : tt.length ≤ 20) (h5 : Zjh tt = false) (h6 : ns.length ≤ 3) : Zlr cs ((ct, tt), ns) = ns.all (Zir cs tt) := by
 unfold Zlr; simp [h1, h2, h3, h4, h5, h6]
theorem Zuf {h : Zaa} {a a1 a2 : Pt} {n c n1 c1 n2 c2 : Nat} {e e1 e2 : Bool} {cs ns : List Nd} {ct tt : List Nat} (r : Row h.length h a (n * 2) (Zdl eP cs)) (hc : n ≤ c) (hn : n ≤ 1048576) (hs : ∀ p ∈ cs, p.2.length ≤ 1048576)
  (r2 : Row h.length h a2 (n2 * 2) (Zdl eP ns)) (hn2 : n2 ≤ 1048576) (hns : ∀ p ∈ ns, p.2.length ≤ 1048576) (htt : tt.length ≤ 1048576) :
  Zad pg Zha [.agg [.slice a n c e, .slice a1 n1 c1 e1], .agg [.str ct, .str tt, .slice a2 n2 c2 e2]] h fun v h' => v = .bool (Zlr cs ((ct, tt), ns)) ∧ Zba h.length h h' := by
 have hl : cs.length = n := by have := r.1; rw [Zbf Zes] at this; omega
 have hl2 : ns.length = n2 := by have := r2.1; rw [Zbf Zes] at this; omega
 apply Zck.call
 simp only [Zaw]
 generalize hh0 : h ++ [Zcj.cells Zak [.slice a n c e, .slice a1 n1 c1 e1] false] = h0
 generalize hh1 : h0 ++ [Zcj.cells Zah [.str ct, .str tt, .slice a2 n2 c2 e2] false] = h1
 have s0 : Zba h.length h h0 := by rw [← hh0]; exact Zap
 have s01 : Zba h0.length h0 h1 := by rw [← hh1]; exact Zap
 have s1 : Zba h.length h h1 := s0.trans (s01.mono s0.le)
 have hl0 : h0.length = h.length + 1 := by rw [← hh0]; simp
 have hl1 : h1.length = h.length + 2 := by rw [← hh1]; simp [hl0]
 have w1 : h1[h.length]? = some (.cells Zak [.slice a n c e, .slice a1 n1 c1 e1] false) := by rw [← hh1, Yak (by omega), ← hh0]; simp
 have i1 : h1[h0.length]? = some (.cells Zah [.str ct, .str tt, .slice a2 n2 c2 e2] false) := by rw [← hh1]; simp
 rw [Zea w1 (by simp)]
 simp only [List.drop_zero, List.take_succ_cons, List.take_zero, Zat, Zai, Zaf, Zar]
 refine (Ztr (r.same' s1) hc hn hs).mono ?_
 rintro v h2 ⟨rfl, s2⟩
 have S2 : Zba h.length h h2 := s1.trans (s2.mono (by omega))
 have w2 : h2[h.length]? = some (.cells Zak [.slice a n c e, .slice a1 n1 c1 e1] false) := by rw [s2.eq _ (by omega)]; exact w1
 have i2 : h2[h0.length]? = some (.cells Zah [.str ct, .str tt, .slice a2 n2 c2 e2] false) := by rw [s2.eq _ (by omega)]; exact i1
 simp only [Zam]
 refine Zcc (fun hb => ⟨by unfold Zlr; rw [hb]; rfl, S2⟩) (fun b1 => ?_)
 simp only [Nat.add_zero, Nat.zero_add, Zas w2, Zas i2, List.getElem?_cons_succ, List.getElem?_cons_zero, Zaf, Zag]
 refine (Zun (r.same' S2) (by omega)).mono ?_
 rintro v h3 ⟨rfl, s3⟩
 have hle2 := s2.le
 have S3 : Zba h.length h h3 := S2.trans (s3.mono S2.le)
 have i3 : h3[h0.length]? = some (.cells Zah [.str ct, .str tt, .slice a2 n2 c2 e2] false) := by rw [s3.eq _ (by omega)]; exact i2
 have w3 : h3[h.length]? = some (.cells Zak [.slice a n c e, .slice a1 n1 c1 e1] false) := by rw [s3.eq _ (by omega)]; exact w2
 simp only [Zam]
 refine Zcc (fun hb => ⟨by unfold Zlr; rw [b1, hb]; rfl, S3⟩) (fun b2 => ?_)
 simp only [Zas i3, List.getElem?_cons_succ, List.getElem?_cons_zero, Zag]
 refine (Zkh tt h3).mono ?_
 rintro v h4 ⟨rfl, s4⟩
 have hle3 := s3.le
 have S4 : Zba h.length h h4 := S3.trans (s4.mono S3.le)
 have i4 : h4[h0.length]? = some (.cells Zah [.str ct, .str tt, .slice a2 n2 c2 e2] false) := by rw [s4.eq _ (by omega)]; exact i3
 have w4 : h4[h.length]? = some (.cells Zak [.slice a n c e, .slice a1 n1 c1 e1] false) := by rw [s4.eq _ (by omega)]; exact w3
 simp only [Zam]
 refine Zcc (fun hb => ⟨by unfold Zlr; rw [b1, b2, hb]; rfl, S4⟩) (fun b3 => ?_)
 simp only [Zas i4, List.getElem?_cons_succ, List.getElem?_cons_zero, Zag]
 refine Zao (fun hb => ⟨by unfold Zlr; rw [b1, b2, b3]; simp [show ¬ tt.length ≤ 20 by omega], S4⟩) (fun b4 => ?_)
 refine (Zzk tt).mono ?_
 rintro v h5 ⟨rfl, rfl⟩
 simp only [Zam]
 refine Zdg (fun hb => ⟨by unfold Zlr; rw [hb]; simp, S4⟩) (fun b5 => ?_)
 simp only [Zas i4, List.getElem?_cons_succ, List.getElem?_cons_zero, Zaf]
 refine Zao (fun hb => ⟨by unfold Zlr; simp [show ¬ ns.length ≤ 3 by omega], S4⟩) (fun b6 => ?_)
 rw [Yfr b1 b2 b3 (by omega) b5 (by omega)]
 apply Zck.J3i
 simp only [Nat.zero_add, Zas i4, List.getElem?_cons_succ, List.getElem?_cons_zero, Zaf]
 have hle4 := s4.le
 refine Zck.L4ind _ _ _ _ _ _ _ _ _ _ (J := fun (g : Nat) x50 h' => x50 = (g : Int) ∧ g ≤ n2 ∧ Zba h5.length h5 h' ∧ (ns.take g).all (Zir cs tt) = true) (fun g => n2 - g) ?_ 0 _ _ ⟨rfl, by omega, Zba.refl _ _, rfl⟩
 rintro g x50 h' ⟨rfl, hg, hS, hk⟩ R hR
 have SS : Zba h.length h h' := S4.trans (hS.mono S4.le)
 unfold Zck.L4t
 refine Zao (fun hlt => ?_) (fun hge => ?_)
 ·obtain ⟨i, o, hgl, rfl, hil, hr, _⟩ := (r2.same SS).pr (k := g) (by omega)
  simp only [Zav, Int.toNat_natCast, hr, Zat, Zai, Zar, Zag, Zaw]
  rw [Zgs]
  have hlh := hS.le
  generalize hq : h' ++ [Zcj.cells Zae [.str ns[g].1, .str ns[g].2] false] = hq'
  have sq : Zba h'.length h' hq' := by rw [← hq]; exact Zap
  have hql : hq'.length = h'.length + 1 := by rw [← hq]; simp
  have nq : hq'[h'.length]? = some (.cells Zae [.str ns[g].1, .str ns[g].2] false) := by rw [← hq]; simp
  have wq : hq'[h.length]? = some (.cells Zak [.slice a n c e, .slice a1 n1 c1 e1] false) := by rw [sq.eq _ (by omega), hS.eq _ (by omega)]; exact w4
  have iq : hq'[h0.length]? = some (.cells Zah [.str ct, .str tt, .slice (some (i, o)) n2 c2 e2] false) := by rw [sq.eq _ (by omega), hS.eq _ (by omega)]; exact i4
  simp only [Zay, Nat.add_zero, Nat.zero_add, Zas wq, Zas nq, List.getElem?_cons_succ, List.getElem?_cons_zero, Zaf, Zag]
  have Sq : Zba h.length h hq' := SS.trans (sq.mono SS.le)
  refine ⟨by omega, (Zun (r.same' Sq) (by omega)).mono ?_⟩
  rintro v k3 ⟨rfl, t3⟩
  have T3 := Sq.trans (t3.mono Sq.le)
  have n3 : k3[h'.length]? = some (.cells Zae [.str ns[g].1, .str ns[g].2] false) := by rw [t3.eq _ (by omega)]; exact nq
  simp only [Zam]
  have fail : ∀ hx, Zba h.length h hx → Zir cs tt ns[g] = false → (Zaq.bool false = Zaq.bool (ns.all (Zir cs tt)) ∧ Zba h.length h hx) := fun hx hs hf => ⟨by rw [Zqy hgl hf], hs⟩
  refine Zcc (fun hb => fail _ T3 (by unfold Zir; rw [hb]; rfl)) (fun m1 => ?_)
  simp only [Zas n3, List.getElem?_cons_succ, List.getElem?_cons_zero, Zag]
  refine (Zkh _ k3).mono ?_
  rintro v k4 ⟨rfl, t4⟩
  have ht3 := t3.le
  have T4 := T3.trans (t4.mono T3.le)
  have n4 : k4[h'.length]? = some (.cells Zae [.str ns[g].1, .str ns[g].2] false) := by rw [t4.eq _ (by omega)]; exact n3
  simp only [Zam]
  refine Zcc (fun hb => fail _ T4 (by unfold Zir; rw [m1, hb]; rfl)) (fun m2 => ?_)
  simp only [Zas n4, List.getElem?_cons_succ, List.getElem?_cons_zero, Zag]
  refine Zao (fun hb => fail _ T4 (by unfold Zir; simp [show ¬ ns[g].2.length ≤ 20 by omega])) (fun m3 => ?_)
  apply Zck.J8i
  simp only [Nat.zero_add, Zas n4, List.getElem?_cons_succ, List.getElem?_cons_zero, Zag]
  refine (Ypc _ k4).mono ?_
  rintro v k5 ⟨t5, av, nv, cv, ev, rfl, hrow⟩
  simp only [Zaf]
  have ht4 := t4.le
  have ht5 := t5.le
  have T5 := T4.trans (t5.mono T4.le)
  have hvl : (Zre ns[g].2).length = nv := by have := hrow.1; simpa using this
  have hv6 : (Zre ns[g].2).length ≤ 6 := List.length_filter_le _ _
  have hni : Zir cs tt ns[g] = (Zre ns[g].2).all fun v => decide (v ∈ tt) := by unfold Zir; rw [m1, m2]; simp [show ns[g].2.length ≤ 20 by omega]
  have i5 : k5[h0.length]? = some (.cells Zah [.str ct, .str tt, .slice (some (i, o)) n2 c2 e2] false) := by rw [t5.eq _ (by omega), t4.eq _ (by omega), t3.eq _ (by omega)]; exact iq
  refine Zck.L9ind _ _ _ _ _ _ _ _ _ _ _ _ _ _ _ _ _ (J := fun (q : Nat) x76 h6 => x76 = (q : Int) ∧ q ≤ nv ∧ h6 = k5 ∧ ((Zre ns[g].2).take q).all (fun v => decide (v ∈ tt)) = true) (fun q => nv - q) ?_ 0 _ _ ⟨rfl, by omega, rfl, rfl⟩
  rintro q x76 h6 ⟨rfl, hq6, rfl, hk6⟩ R9 hR9
  unfold Zck.L9t
  refine Zao (fun hlt6 => ?_) (fun hge6 => ?_)
  ·obtain ⟨iv, ov, rfl, _, hcv⟩ := hrow.at (k := q) (by omega)
   rw [Yek, List.getElem?_map, List.getElem?_eq_getElem (show q < (Zre ns[g].2).length by omega)] at hcv
   simp only [Option.map_some] at hcv
   simp only [Zav, Int.toNat_natCast, Nat.mul_one, hcv, Zag, Nat.add_zero, Nat.zero_add, Zas i5, List.getElem?_cons_succ, List.getElem?_cons_zero, one]
   refine ⟨by omega, Zlt.mono ?_⟩
   rintro v k7 ⟨rfl, rfl⟩
   simp only [Zam]
   refine Zcc (fun hb => fail _ T5 (by rw [hni]; exact Zqy (by omega) hb)) (fun d1 => ?_)
   rw [Zbr (by omega)]
   exact hR9 (q + 1) _ _ (by omega) ⟨rfl, by omega, rfl, Zfu (by omega) hk6 d1⟩
  ·apply Zck.A9x2i
   apply Zck.J14i
   have : q = nv := by omega
   subst this
   rw [List.take_of_length_le (by omega)] at hk6
   rw [Zbr (by omega)]
   refine hR (g + 1) _ _ (by omega) ⟨rfl, by omega, ?_, Zfu hgl hk (by rw [hni]; exact hk6)⟩
   exact hS.trans ((sq.mono hS.le).trans ((t3.mono (by omega)).trans ((t4.mono (by omega)).trans (t5.mono (by omega)))))
 ·apply Zck.A4x0i
  have : g = n2 := by omega
  subst this
  rw [List.take_of_length_le (by omega)] at hk
  exact ⟨by rw [hk], SS⟩
end Go.Sim

set_option linter.unusedVariables false
set_option linter.unusedSimpArgs false
set_option maxRecDepth 20000
namespace Go.Sim
open Go Go.RowKit

theorem Yeb (x t : List Nat) : ((Zre x).all fun c => decide (c ∈ Zre t)) = (Zre x).all fun c => decide (c ∈ t) := by
 rw [Bool.eq_iff_iff, List.all_eq_true, List.all_eq_true]
 constructor
 ·intro h c hc
  have := h c hc
  simp only [Zre, decide_eq_true_eq, List.mem_filter] at this ⊢
  exact this.2
 ·intro h c hc
  have h1 := h c hc
  have hv : c ∈ Zey := (List.mem_filter.1 hc).1
  simp only [Zre, decide_eq_true_eq, List.mem_filter] at h1 ⊢
  exact ⟨hv, h1⟩
theorem Zsy {h : Zaa} {a a1 a2 : Pt} {n c n1 c1 n2 c2 : Nat} {e e1 e2 : Bool} {cs ns : List Nd} {ct tt : List Nat} (r : Row h.length h a (n * 2) (Zdl eP cs)) (hc : n ≤ c) (hn : n ≤ 1048576) (hs : ∀ p ∈ cs, p.2.length ≤ 1048576) (hb256 : ∀ p ∈ cs, ∀ b ∈ p.1, b < 256)
  (r2 : Row h.length h a2 (n2 * 2) (Zdl eP ns)) (hn2 : n2 ≤ 1048576) (hns : ∀ p ∈ ns, p.2.length ≤ 1048576) (htt : tt.length ≤ 1048576) :
  Zad pg Zhf [.agg [.slice a n c e, .slice a1 n1 c1 e1], .agg [.str ct, .str tt, .slice a2 n2 c2 e2]] h fun v h' => v = .bool (Zlr cs ((ct, tt), ns)) ∧ Zba h.length h h' := by
 have hl : cs.length = n := by have := r.1; rw [Zbf Zes] at this; omega
 have hl2 : ns.length = n2 := by have := r2.1; rw [Zbf Zes] at this; omega
 apply Zdo.call
 simp only [Zaw]
 generalize hh0 : h ++ [Zcj.cells Zak [.slice a n c e, .slice a1 n1 c1 e1] false] = h0
 generalize hh1 : h0 ++ [Zcj.cells Zah [.str ct, .str tt, .slice a2 n2 c2 e2] false] = h1
 have s0 : Zba h.length h h0 := by rw [← hh0]; exact Zap
 have s01 : Zba h0.length h0 h1 := by rw [← hh1]; exact Zap
 have s1 : Zba h.length h h1 := s0.trans (s01.mono s0.le)
 have hl0 : h0.length = h.length + 1 := by rw [← hh0]; simp
 have hl1 : h1.length = h.length + 2 := by rw [← hh1]; simp [hl0]
 have w1 : h1[h.length]? = some (.cells Zak [.slice a n c e, .slice a1 n1 c1 e1] false) := by rw [← hh1, Yak (by omega), ← hh0]; simp
 have i1 : h1[h0.length]? = some (.cells Zah [.str ct, .str tt, .slice a2 n2 c2 e2] false) := by rw [← hh1]; simp
 simp only [Nat.add_zero, Zas w1, List.getElem?_cons_zero, Zaf]
 refine (Zud (r.same' s1) hc hn hs hb256).mono ?_
 rintro v h2 ⟨rfl, s2⟩
 have S2 : Zba h.length h h2 := s1.trans (s2.mono (by omega))
 have w2 : h2[h.length]? = some (.cells Zak [.slice a n c e, .slice a1 n1 c1 e1] false) := by rw [s2.eq _ (by omega)]; exact w1
 have i2 : h2[h0.length]? = some (.cells Zah [.str ct, .str tt, .slice a2 n2 c2 e2] false) := by rw [s2.eq _ (by omega)]; exact i1
 simp only [Zam]
 refine Zcc (fun hb => ⟨by unfold Zlr; rw [hb]; rfl, S2⟩) (fun b1 => ?_)
 rw [Zea w2 (by simp)]
 simp only [List.drop_zero, List.take_succ_cons, List.take_zero, Zat, Zai, Zar, Nat.zero_add, Zas i2, List.getElem?_cons_succ, List.getElem?_cons_zero, Zaf, Zag]
 refine (Zpv (r.same' S2) (by omega)).mono ?_
 rintro v h3 ⟨rfl, s3⟩
 have hle2 := s2.le
 have S3 : Zba h.length h h3 := S2.trans (s3.mono S2.le)
 have i3 : h3[h0.length]? = some (.cells Zah [.str ct, .str tt, .slice a2 n2 c2 e2] false) := by rw [s3.eq _ (by omega)]; exact i2
 have w3 : h3[h.length]? = some (.cells Zak [.slice a n c e, .slice a1 n1 c1 e1] false) := by rw [s3.eq _ (by omega)]; exact w2
 simp only [Zau, Zwd]
 refine Zcc (fun hb => ⟨by unfold Zlr; rw [b1, hb]; rfl, S3⟩) (fun b2 => ?_)
 simp only [Zas i3, List.getElem?_cons_succ, List.getElem?_cons_zero, Zag]
 refine (Zim tt (by omega) h3).mono ?_
 rintro v h4 ⟨rfl, s4⟩
 have hle3 := s3.le
 have S4 : Zba h.length h h4 := S3.trans (s4.mono S3.le)
 have i4 : h4[h0.length]? = some (.cells Zah [.str ct, .str tt, .slice a2 n2 c2 e2] false) := by rw [s4.eq _ (by omega)]; exact i3
 have w4 : h4[h.length]? = some (.cells Zak [.slice a n c e, .slice a1 n1 c1 e1] false) := by rw [s4.eq _ (by omega)]; exact w3
 simp only [Zam]
 refine Zcc (fun hb => ⟨by unfold Zlr; rw [b1, b2, hb]; rfl, S4⟩) (fun b3 => ?_)
 simp only [Zas i4, List.getElem?_cons_succ, List.getElem?_cons_zero, Zag]
 refine Zao (fun hb => ⟨by unfold Zlr; rw [b1, b2, b3]; simp [show ¬ tt.length ≤ 20 by omega], S4⟩) (fun b4 => ?_)
 have hvh := Yre b3
 have hne := Yqi b3
 have htl : 0 < tt.length := by cases tt with | nil => exact absurd rfl hne | cons => simp
 refine ⟨⟨by omega, by omega⟩, ?_⟩
 have hgd : tt.getD (Int.toNat 0) 0 = tt.headD 0 := by cases tt <;> rfl
 rw [hgd]
 refine (Zoh _).mono ?_
 rintro v h5 ⟨rfl, rfl⟩
 simp only [Zam, ← hvh]
 refine Zdg (fun hb => ⟨by unfold Zlr; rw [hb]; simp, S4⟩) (fun b5 => ?_)
 simp only [Zas i4, List.getElem?_cons_succ, List.getElem?_cons_zero, Zaf]
 refine Zao (fun hb => ⟨by unfold Zlr; simp [show ¬ ns.length ≤ 3 by omega], S4⟩) (fun b6 => ?_)
 rw [Yfr b1 b2 b3 (by omega) b5 (by omega)]
 apply Zdo.J3i
 simp only [Nat.zero_add, Zas i4, List.getElem?_cons_succ, List.getElem?_cons_zero, Zaf]
 have hle4 := s4.le
 refine Zdo.L4ind _ _ _ _ _ _ _ _ _ _ (J := fun (g : Nat) x50 h' => x50 = (g : Int) ∧ g ≤ n2 ∧ Zba h5.length h5 h' ∧ (ns.take g).all (Zir cs tt) = true) (fun g => n2 - g) ?_ 0 _ _ ⟨rfl, by omega, Zba.refl _ _, rfl⟩
 rintro g x50 h' ⟨rfl, hg, hS, hk⟩ R hR
 have SS : Zba h.length h h' := S4.trans (hS.mono S4.le)
 unfold Zdo.L4t
 refine Zao (fun hlt => ?_) (fun hge => ?_)
 ·obtain ⟨i, o, hgl, rfl, hil, hr, _⟩ := (r2.same SS).pr (k := g) (by omega)
  simp only [Zav, Int.toNat_natCast, hr, Zat, Zai, Zar, Zag, Zaw]
  rw [Zgs]
  have hlh := hS.le
  generalize hq : h' ++ [Zcj.cells Zae [.str ns[g].1, .str ns[g].2] false] = hq'
  have sq : Zba h'.length h' hq' := by rw [← hq]; exact Zap
  have hql : hq'.length = h'.length + 1 := by rw [← hq]; simp
  have nq : hq'[h'.length]? = some (.cells Zae [.str ns[g].1, .str ns[g].2] false) := by rw [← hq]; simp
  have wq : hq'[h.length]? = some (.cells Zak [.slice a n c e, .slice a1 n1 c1 e1] false) := by rw [sq.eq _ (by omega), hS.eq _ (by omega)]; exact w4
  have iq : hq'[h0.length]? = some (.cells Zah [.str ct, .str tt, .slice (some (i, o)) n2 c2 e2] false) := by rw [sq.eq _ (by omega), hS.eq _ (by omega)]; exact i4
  have row : ∀ {hx : Zaa}, hx[h.length]? = some (.cells Zak [.slice a n c e, .slice a1 n1 c1 e1] false) → Zbx hx (.ptr (some (h.length, 0))) 2 = some [.slice a n c e, .slice a1 n1 c1 e1] := fun w => by rw [Zea w (by simp)]; rfl
  simp only [Zay, Nat.add_zero, Nat.zero_add, row wq, Zas nq, List.getElem?_cons_succ, List.getElem?_cons_zero, Zat, Zai, Zar, Zaf, Zag, true_and]
  have Sq : Zba h.length h hq' := SS.trans (sq.mono SS.le)
  refine ⟨by omega, (Zpv (r.same' Sq) (by omega)).mono ?_⟩
  rintro v k3 ⟨rfl, t3⟩
  have T3 := Sq.trans (t3.mono Sq.le)
  have n3 : k3[h'.length]? = some (.cells Zae [.str ns[g].1, .str ns[g].2] false) := by rw [t3.eq _ (by omega)]; exact nq
  have w3' : k3[h.length]? = some (.cells Zak [.slice a n c e, .slice a1 n1 c1 e1] false) := by rw [t3.eq _ (by omega)]; exact wq
  have i3' : k3[h0.length]? = some (.cells Zah [.str ct, .str tt, .slice (some (i, o)) n2 c2 e2] false) := by rw [t3.eq _ (by omega)]; exact iq
  have ht3 := t3.le
  simp only [Zau, Zwd, row w3', Zas n3, List.getElem?_cons_succ, List.getElem?_cons_zero, Zag, true_and]
  have fail : ∀ hx, Zba h.length h hx → Zir cs tt ns[g] = false → (Zaq.bool false = Zaq.bool (ns.all (Zir cs tt)) ∧ Zba h.length h hx) := fun hx hs hf => ⟨by rw [Zqy hgl hf], hs⟩
  refine Zcc (fun hb => fail _ T3 (by unfold Zir; rw [hb]; rfl)) (fun m1 => ?_)
  have hnl := hns ns[g] (List.getElem_mem hgl)
  refine (Zim _ (by omega) k3).mono ?_
  rintro v k4 ⟨rfl, t4⟩
  have T4 := T3.trans (t4.mono T3.le)
  have ht4 := t4.le
  have n4 : k4[h'.length]? = some (.cells Zae [.str ns[g].1, .str ns[g].2] false) := by rw [t4.eq _ (by omega)]; exact n3
  have w4' : k4[h.length]? = some (.cells Zak [.slice a n c e, .slice a1 n1 c1 e1] false) := by rw [t4.eq _ (by omega)]; exact w3'
  have i4' : k4[h0.length]? = some (.cells Zah [.str ct, .str tt, .slice (some (i, o)) n2 c2 e2] false) := by rw [t4.eq _ (by omega)]; exact i3'
  simp only [Zam, row w4', Zas n4, Zas i4', List.getElem?_cons_succ, List.getElem?_cons_zero, Zag, true_and]
  refine Zcc (fun hb => fail _ T4 (by unfold Zir; rw [m1, hb]; rfl)) (fun m2 => ?_)
  refine Zao (fun hb => fail _ T4 (by unfold Zir; simp [show ¬ ns[g].2.length ≤ 20 by omega])) (fun m3 => ?_)
  refine (Zya _ hnl).mono ?_
  rintro v k5 ⟨rfl, t5⟩
  have T5 := T4.trans (t5.mono T4.le)
  have ht5 := t5.le
  have n5 : k5[h'.length]? = some (.cells Zae [.str ns[g].1, .str ns[g].2] false) := by rw [t5.eq _ (by omega)]; exact n4
  have w5' : k5[h.length]? = some (.cells Zak [.slice a n c e, .slice a1 n1 c1 e1] false) := by rw [t5.eq _ (by omega)]; exact w4'
  have i5' : k5[h0.length]? = some (.cells Zah [.str ct, .str tt, .slice (some (i, o)) n2 c2 e2] false) := by rw [t5.eq _ (by omega)]; exact i4'
  simp only [row w5', Zas n5, Zas i5', List.getElem?_cons_succ, List.getElem?_cons_zero, Zag, true_and]
  refine (Zya _ htt).mono ?_
  rintro v k6 ⟨rfl, t6⟩
  have T6 := T5.trans (t6.mono T5.le)
  have ht6 := t6.le
  have n6 : k6[h'.length]? = some (.cells Zae [.str ns[g].1, .str ns[g].2] false) := by rw [t6.eq _ (by omega)]; exact n5
  have w6' : k6[h.length]? = some (.cells Zak [.slice a n c e, .slice a1 n1 c1 e1] false) := by rw [t6.eq _ (by omega)]; exact w5'
  have i6' : k6[h0.length]? = some (.cells Zah [.str ct, .str tt, .slice (some (i, o)) n2 c2 e2] false) := by rw [t6.eq _ (by omega)]; exact i5'
  simp only [row w6', Zas n6, Zas i6', List.getElem?_cons_succ, List.getElem?_cons_zero, Zag, true_and]
  rw [if_pos m2, if_pos b3]
  have hvb : ∀ s, (Zre s).length ≤ 6 := fun s => List.length_filter_le _ _
  have hv1 := hvb ns[g].2
  have hv2 := hvb tt
  refine (Yiy _ _ (by omega) (by omega)).mono ?_
  rintro v k7 ⟨rfl, rfl⟩
  have hni : Zir cs tt ns[g] = (Zre ns[g].2).all fun v => decide (v ∈ tt) := by unfold Zir; rw [m1, m2]; simp [show ns[g].2.length ≤ 20 by omega]
  simp only [Zam, row w6', Zas n6, Zas i6', List.getElem?_cons_succ, List.getElem?_cons_zero, Zag, true_and, Yeb, ← hni]
  refine Zcc (fun hb => fail _ T6 hb) (fun m4 => ?_)
  apply Zdo.J8i
  rw [Zbr (by omega)]
  refine hR (g + 1) _ _ (by omega) ⟨rfl, by omega, ?_, Zfu hgl hk m4⟩
  exact hS.trans ((sq.mono hS.le).trans ((t3.mono (by omega)).trans ((t4.mono (by omega)).trans ((t5.mono (by omega)).trans (t6.mono (by omega))))))
 ·apply Zdo.A4x0i
  have : g = n2 := by omega
  subst this
  rw [List.take_of_length_le (by omega)] at hk
  exact ⟨by rw [hk], SS⟩
end Go.Sim

set_option linter.unusedVariables false
set_option linter.unusedSimpArgs false
set_option maxRecDepth 20000
namespace Go.Sim
open Go Go.RowKit

structure WB (w : Wd) : Prop where
 lc : w.cs.length ≤ 1048576
 li : w.is.length ≤ 1048576
 cs : ∀ p ∈ w.cs, p.1.length ≤ 1048576 ∧ p.2.length ≤ 1048576 ∧ ∀ b ∈ p.1, b < 256
 is : ∀ i ∈ w.is, i.1.1.length ≤ 1048576 ∧ i.1.2.length ≤ 1048576 ∧ i.2.length ≤ 1048576 ∧ ∀ p ∈ i.2, p.1.length ≤ 1048576 ∧ p.2.length ≤ 1048576
def Zmu (a0 : Pt) (n0 c0 : Nat) (e0 : Bool) (a1 : Pt) (n1 c1 : Nat) (e1 : Bool) : Zcj := .cells Zak [.slice a0 n0 c0 e0, .slice a1 n1 c1 e1] false
theorem Zzd {h : Zaa} {j : Nat} {a0 a1 : Pt} {n0 c0 n1 c1 : Nat} {e0 e1 : Bool} (hj : h[j]? = some (Zmu a0 n0 c0 e0 a1 n1 c1 e1)) : Zbx h (.ptr (some (j, 0))) 2 = some [.slice a0 n0 c0 e0, .slice a1 n1 c1 e1] := by
 rw [Zea (show h[j]? = some (.cells Zak [.slice a0 n0 c0 e0, .slice a1 n1 c1 e1] false) from hj) (by simp)]; rfl
theorem Zyo {h : Zaa} {j o : Nat} {a0 a1 : Pt} {n0 c0 n1 c1 : Nat} {e0 e1 : Bool} (hj : h[j]? = some (Zmu a0 n0 c0 e0 a1 n1 c1 e1)) : Zal h (.ptr (some (j, o))) = ([.slice a0 n0 c0 e0, .slice a1 n1 c1 e1] : List Zaq)[o]? := Zas (show h[j]? = some (.cells Zak [.slice a0 n0 c0 e0, .slice a1 n1 c1 e1] false) from hj)
theorem Zba.get {b : Nat} {h h' : Zaa} {j : Nat} {x : Zcj} (s : Zba b h h') (hj : h[j]? = some x) (hb : j < b) : h'[j]? = some x := by rw [s.eq j hb]; exact hj
theorem Zba.cat {h h1 h2 : Zaa} (a : Zba h.length h h1) (b : Zba h1.length h1 h2) : Zba h.length h h2 := a.trans (b.mono a.le)

theorem Yjw {h : Zaa} {t : TypeId} {x y : Zaq} : Zbx (h ++ [.cells t [x, y] false]) (.ptr (some (h.length, 0))) 2 = some [x, y] := Zzy rfl
theorem Ypr {h : Zaa} {t : TypeId} {x y z : Zaq} : Zbx (h ++ [.cells t [x, y, z] false]) (.ptr (some (h.length, 0))) 3 = some [x, y, z] := Zzy rfl
theorem Ydx {h : Zaa} {a0 a1 a2 : Pt} {n0 c0 n1 c1 n2 c2 j : Nat} {e0 e1 e2 : Bool} {w : Wd} {ns : List Nd} {ct tt : List Nat} (r : Zlz h a0 n0 c0 a1 n1 c1 w) (b : WB w) (hj : h[j]? = some (Zmu a0 n0 c0 e0 a1 n1 c1 e1))
  (r2 : Row h.length h a2 (n2 * 2) (Zdl eP ns)) (hn2 : n2 ≤ 1048576) (hns : ∀ p ∈ ns, p.2.length ≤ 1048576) (htt : tt.length ≤ 1048576) :
  Zad pg Zcb [.agg [.str ct, .str tt, .slice a2 n2 c2 e2], .ptr (some (j, 0))] h fun v h' => v = .bool (!Zlr w.cs ((ct, tt), ns)) ∧ Zba h.length h h' := by
 apply Zjj.call
 simp only [Zaw]
 have s1 : Zba h.length h (h ++ [.cells Zah [.str ct, .str tt, .slice a2 n2 c2 e2] false]) := Zap
 rw [Zzd (s1.get hj (Own.lt hj)), Ypr]
 simp only [Zat, Zai, Zar, Zaf, Zag]
 have hlc := b.lc
 have hl0 := r.len0
 refine (Zuf (r.cls.same' s1) r.le0 (by omega) (fun p hp => (b.cs p hp).2.1) (r2.same' s1) hn2 hns htt).mono ?_
 rintro v h2 ⟨rfl, s2⟩
 simp only [Zam]
 exact ⟨by trivial, s1.cat s2⟩
theorem Ycs {h : Zaa} {a0 a1 : Pt} {n0 c0 n1 c1 j : Nat} {e0 e1 : Bool} {w : Wd} (r : Zlz h a0 n0 c0 a1 n1 c1 w) (b : WB w) (hj : h[j]? = some (Zmu a0 n0 c0 e0 a1 n1 c1 e1)) :
  Zad pg Zcu [.slice a1 n1 c1 e1, .fn Zcb [.ptr (some (j, 0))]] h fun v h' => (∃ z : Int, v = .int .i64 z ∧ decide (z ≥ 0) = !w.is.all (Zlr w.cs)) ∧ Zba h.length h h' := by
 have hl := r.len1
 have hli := b.li
 apply Zbd.call
 refine Zbd.L2ind _ _ _ _ _ _ _ (J := fun (g : Nat) x8 h' => x8 = (g : Int) ∧ g ≤ n1 ∧ Zba h.length h h' ∧ (w.is.take g).all (Zlr w.cs) = true) (fun g => n1 - g) ?_ 0 _ _ ⟨rfl, by omega, Zba.refl _ _, rfl⟩
 rintro g x8 h' ⟨rfl, hg, hS, hk⟩ R hR
 unfold Zbd.L2t
 refine Zao (fun hlt => ?_) (fun hge => ?_)
 ·obtain ⟨i, o, hgl, a2, n2, c2, e2, rfl, _, hr, _, _, _, hrow, hn⟩ := (r.same hS).inst (k := g) (by omega)
  simp only [Zav, Int.toNat_natCast, hr, Zat, Zai, Zar, Zag, Zaf]
  have hb := b.is _ (List.getElem_mem hgl)
  refine ⟨by omega, (Ydx (r.same hS) b (hS.get hj (Own.lt hj)) hrow (by omega) (fun p hp => (hb.2.2.2 p hp).2) hb.2.1).mono ?_⟩
  rintro v h2 ⟨rfl, s2⟩
  simp only [Zam]
  have hS2 := hS.cat s2
  refine Zcc (fun he => ?_) (fun he => ?_)
  ·exact ⟨⟨_, rfl, by rw [Zqy hgl he]; simp⟩, hS2⟩
  ·rw [Zbr (by omega)]
   exact hR (g + 1) _ _ (by omega) ⟨rfl, by omega, hS2, Zfu hgl hk he⟩
 ·apply Zbd.A2x0i
  have : g = n1 := by omega
  subst this
  rw [List.take_of_length_le (by omega)] at hk
  exact ⟨⟨_, rfl, by rw [hk]; rfl⟩, hS⟩
theorem Zze {h : Zaa} {a0 a1 : Pt} {n0 c0 n1 c1 : Nat} {e0 e1 : Bool} {w : Wd} (r : Zlz h a0 n0 c0 a1 n1 c1 w) (b : WB w) :
  Zad pg Zju [.agg [.slice a0 n0 c0 e0, .slice a1 n1 c1 e1]] h fun v h' => v = .bool (Zdy w) ∧ Zba h.length h h' := by
 have hl0 := r.len0
 have hl1 := r.len1
 have hlc := b.lc
 apply Zni.call
 simp only [Zaw]
 generalize hh0 : h ++ [Zcj.cells Zak [.slice a0 n0 c0 e0, .slice a1 n1 c1 e1] false] = h0
 have s0 : Zba h.length h h0 := by rw [← hh0]; exact Zap
 have w0 : h0[h.length]? = some (Zmu a0 n0 c0 e0 a1 n1 c1 e1) := by rw [← hh0]; simp [Zmu]
 rw [Zzd w0]
 simp only [Zat, Zai, Zar, Zaf]
 refine (Ztr (r.cls.same' s0) r.le0 (by omega) (fun p hp => (b.cs p hp).2.1)).mono ?_
 rintro v h2 ⟨rfl, s2⟩
 have S2 := s0.cat s2
 have w2 := s2.get w0 (Own.lt w0)
 simp only [Zam]
 refine Zdg (fun b1 => ?_) (fun b1 => ⟨by unfold Zdy; rw [b1]; rfl, S2⟩)
 simp only [Zyo w2, Nat.zero_add, List.getElem?_cons_succ, List.getElem?_cons_zero, Zaf]
 refine Zao (fun b2 => ?_) (fun b2 => ⟨by unfold Zdy; rw [b1]; simp [show ¬ w.is.length ≤ 10 by omega], S2⟩)
 apply Zci.call
 refine (Ycs (r.same S2) b w2).mono ?_
 rintro v h3 ⟨⟨z, rfl, hz⟩, s3⟩
 simp only [Zau, Zam]
 refine ⟨?_, S2.cat s3⟩
 rw [hz, Bool.not_not]
 unfold Zdy
 rw [b1]; simp [show w.is.length ≤ 10 by omega]
theorem Zww {h : Zaa} {a0 a1 : Pt} {n0 c0 n1 c1 : Nat} {e0 e1 : Bool} {w : Wd} (r : Zlz h a0 n0 c0 a1 n1 c1 w) (b : WB w) :
  Zad pg Zjo [.agg [.slice a0 n0 c0 e0, .slice a1 n1 c1 e1]] h fun v h' => v = .bool (Zdy w) ∧ Zba h.length h h' := by
 have hl0 := r.len0
 have hl1 := r.len1
 have hlc := b.lc
 have hli := b.li
 apply Zfn.call
 simp only [Zaw]
 generalize hh0 : h ++ [Zcj.cells Zak [.slice a0 n0 c0 e0, .slice a1 n1 c1 e1] false] = h0
 have s0 : Zba h.length h h0 := by rw [← hh0]; exact Zap
 have w0 : h0[h.length]? = some (Zmu a0 n0 c0 e0 a1 n1 c1 e1) := by rw [← hh0]; simp [Zmu]
 simp only [Zyo w0, Nat.zero_add, List.getElem?_cons_succ, List.getElem?_cons_zero, Zaf]
 refine Zfn.L2ind _ _ _ _ _ _ _ _ (J := fun (g : Nat) x8 h' => x8 = (g : Int) ∧ g ≤ n1 ∧ Zba h0.length h0 h' ∧ (w.is.take g).all (Zlr w.cs) = true) (fun g => n1 - g) ?_ 0 _ _ ⟨rfl, by omega, Zba.refl _ _, rfl⟩
 rintro g x8 h' ⟨rfl, hg, hS, hk⟩ R hR
 have SS := s0.cat hS
 have w1 := hS.get w0 (Own.lt w0)
 unfold Zfn.L2t
 refine Zao (fun hlt => ?_) (fun hge => ?_)
 ·obtain ⟨i, o, hgl, a2, n2, c2, e2, rfl, _, hr, _, _, _, hrow, hn⟩ := (r.same SS).inst (k := g) (by omega)
  simp only [Zav, Int.toNat_natCast, hr, Zat, Zai, Zar, Zag, Zaf, Zaw]
  rw [Ysj]
  generalize hq : h' ++ [Zcj.cells Zah [.str w.is[g].1.1, .str w.is[g].1.2, .slice a2 n2 c2 e2] false] = hq'
  have sq : Zba h'.length h' hq' := by rw [← hq]; exact Zap
  simp only [Zay]
  rw [Zzd (sq.get w1 (Own.lt w1)), ← hq, Ypr, hq]
  simp only [Zat, Zai, Zar, Zag, Zaf]
  have hb := b.is _ (List.getElem_mem hgl)
  have Sq := SS.cat sq
  refine ⟨by omega, (Zsy (r.cls.same' Sq) r.le0 (by omega) (fun p hp => (b.cs p hp).2.1) (fun p hp => (b.cs p hp).2.2) (hrow.same' sq) (by omega) (fun p hp => (hb.2.2.2 p hp).2) hb.2.1).mono ?_⟩
  rintro v h2 ⟨rfl, s2⟩
  simp only [Zam]
  refine Zcc (fun he => ?_) (fun he => ?_)
  ·exact ⟨by unfold Zdy; rw [Zqy hgl he]; simp, Sq.cat s2⟩
  ·rw [Zbr (by omega)]
   exact hR (g + 1) _ _ (by omega) ⟨rfl, by omega, (hS.cat sq).cat s2, Zfu hgl hk he⟩
 ·apply Zfn.A2x0i
  have : g = n1 := by omega
  subst this
  rw [List.take_of_length_le (by omega)] at hk
  simp only [Zyo w1, Nat.zero_add, List.getElem?_cons_zero, Zaf]
  refine (Zud (r.cls.same' SS) r.le0 (by omega) (fun p hp => (b.cs p hp).2.1) (fun p hp => (b.cs p hp).2.2)).mono ?_
  rintro v h2 ⟨rfl, s2⟩
  simp only [Zam]
  have w2 := s2.get w1 (Own.lt w1)
  refine Zdg (fun b1 => ?_) (fun b1 => ⟨by unfold Zdy; rw [b1]; rfl, SS.cat s2⟩)
  simp only [Zyo w2, Nat.zero_add, List.getElem?_cons_succ, List.getElem?_cons_zero, Zaf]
  refine ⟨?_, SS.cat s2⟩
  unfold Zdy
  rw [b1, hk]; congr 1; rw [Bool.eq_iff_iff]; simp; omega
theorem Yja {h : Zaa} {a0 a1 : Pt} {n0 c0 n1 c1 : Nat} {e0 e1 : Bool} {w : Wd} {ct tt : List Nat} (r : Zlz h a0 n0 c0 a1 n1 c1 w) (b : WB w) :
  Zad pg Zog [.agg [.slice a0 n0 c0 e0, .slice a1 n1 c1 e1], .agg [.str ct, .str tt]] h fun v h' => v = .bool (Zdj w (ct, tt)) ∧ Zba h.length h h' := by
 have hl0 := r.len0
 have hlc := b.lc
 apply Zrn.call
 simp only [Zaw]
 generalize hh0 : h ++ [Zcj.cells Zak [.slice a0 n0 c0 e0, .slice a1 n1 c1 e1] false] = h0
 generalize hh1 : h0 ++ [Zcj.cells Zae [.str ct, .str tt] false] = h1
 have s0 : Zba h.length h h0 := by rw [← hh0]; exact Zap
 have s1 : Zba h0.length h0 h1 := by rw [← hh1]; exact Zap
 have w0 : h0[h.length]? = some (Zmu a0 n0 c0 e0 a1 n1 c1 e1) := by rw [← hh0]; simp [Zmu]
 have w1 := s1.get w0 (Own.lt w0)
 have i1 : h1[h0.length]? = some (.cells Zae [.str ct, .str tt] false) := by rw [← hh1]; simp
 simp only [Zyo w1, Zas i1, Nat.zero_add, List.getElem?_cons_zero, List.getElem?_cons_succ, Zaf, Zag]
 refine (Zun (r.cls.same' (s0.cat s1)) (by omega)).mono ?_
 rintro v h2 ⟨rfl, s2⟩
 simp only [Zam]
 have i2 := s2.get i1 (Own.lt i1)
 refine Zdg (fun b1 => ?_) (fun b1 => ⟨by unfold Zdj; rw [b1]; rfl, (s0.cat s1).cat s2⟩)
 simp only [Zas i2, Nat.zero_add, List.getElem?_cons_zero, List.getElem?_cons_succ, Zaf, Zag]
 refine (Zkh tt h2).mono ?_
 rintro v h3 ⟨rfl, s3⟩
 simp only [Zam]
 exact ⟨by unfold Zdj; rw [b1]; rfl, ((s0.cat s1).cat s2).cat s3⟩
theorem Yjj (cs : List Nd) (c : List Nat) : decide (Yed cs c ≥ 0) = Zfo cs c := by
 unfold Yed; cases h : Zfo cs c <;> simp
theorem Yli {h : Zaa} {a0 a1 : Pt} {n0 c0 n1 c1 : Nat} {e0 e1 : Bool} {w : Wd} {ct tt : List Nat} (r : Zlz h a0 n0 c0 a1 n1 c1 w) (b : WB w) (ht : tt.length ≤ 1048576) :
  Zad pg Zof [.agg [.slice a0 n0 c0 e0, .slice a1 n1 c1 e1], .agg [.str ct, .str tt]] h fun v h' => v = .bool (Zdj w (ct, tt)) ∧ Zba h.length h h' := by
 have hl0 := r.len0
 have hlc := b.lc
 apply Zrl.call
 simp only [Zaw]
 generalize hh0 : h ++ [Zcj.cells Zak [.slice a0 n0 c0 e0, .slice a1 n1 c1 e1] false] = h0
 generalize hh1 : h0 ++ [Zcj.cells Zae [.str ct, .str tt] false] = h1
 have s0 : Zba h.length h h0 := by rw [← hh0]; exact Zap
 have s1 : Zba h0.length h0 h1 := by rw [← hh1]; exact Zap
 have w0 : h0[h.length]? = some (Zmu a0 n0 c0 e0 a1 n1 c1 e1) := by rw [← hh0]; simp [Zmu]
 have w1 := s1.get w0 (Own.lt w0)
 have i1 : h1[h0.length]? = some (.cells Zae [.str ct, .str tt] false) := by rw [← hh1]; simp
 rw [Zzd w1]
 simp only [Zat, Zai, Zar, Zas i1, Nat.zero_add, List.getElem?_cons_zero, List.getElem?_cons_succ, Zaf, Zag]
 refine (Zpv (r.cls.same' (s0.cat s1)) (by omega)).mono ?_
 rintro v h2 ⟨rfl, s2⟩
 simp only [Zau, Yjj]
 have i2 := s2.get i1 (Own.lt i1)
 refine Zdg (fun b1 => ?_) (fun b1 => ⟨by unfold Zdj; rw [b1]; rfl, (s0.cat s1).cat s2⟩)
 simp only [Zas i2, Nat.zero_add, List.getElem?_cons_zero, List.getElem?_cons_succ, Zaf, Zag]
 refine (Zim tt (by omega) h2).mono ?_
 rintro v h3 ⟨rfl, s3⟩
 simp only [Zam]
 exact ⟨by unfold Zdj; rw [b1]; rfl, ((s0.cat s1).cat s2).cat s3⟩
theorem Zzu {h : Zaa} {a0 a1 : Pt} {n0 c0 n1 c1 : Nat} {e0 e1 : Bool} {w : Wd} {ct tt : List Nat} (r : Zlz h a0 n0 c0 a1 n1 c1 w) (b : WB w) (ht : tt.length ≤ 1048576) :
  Zad pg Zkn [.agg [.slice a0 n0 c0 e0, .slice a1 n1 c1 e1], .agg [.str ct, .str tt]] h fun v h' => v = .bool (Zdy w && Zdj w (ct, tt)) ∧ Zba h.length h h' := by
 apply Zor.call
 simp only [Zaw]
 generalize hh0 : h ++ [Zcj.cells Zak [.slice a0 n0 c0 e0, .slice a1 n1 c1 e1] false] = h0
 generalize hh1 : h0 ++ [Zcj.cells Zae [.str ct, .str tt] false] = h1
 have s0 : Zba h.length h h0 := by rw [← hh0]; exact Zap
 have s1 : Zba h0.length h0 h1 := by rw [← hh1]; exact Zap
 have w0 : h0[h.length]? = some (Zmu a0 n0 c0 e0 a1 n1 c1 e1) := by rw [← hh0]; simp [Zmu]
 have w1 := s1.get w0 (Own.lt w0)
 have i1 : h1[h0.length]? = some (.cells Zae [.str ct, .str tt] false) := by rw [← hh1]; simp
 rw [Zzd w1]
 simp only [Zat, Zai, Zar, Zaf]
 refine (Zww (r.same (s0.cat s1)) b).mono ?_
 rintro v h2 ⟨rfl, s2⟩
 simp only [Zam]
 have i2 := s2.get i1 (Own.lt i1)
 have w2 := s2.get w1 (Own.lt w1)
 refine Zdg (fun b1 => ?_) (fun b1 => ⟨by rw [b1]; rfl, (s0.cat s1).cat s2⟩)
 rw [Zzd w2, Zea i2 (by simp)]
 simp only [List.drop_zero, List.take_succ_cons, List.take_zero, Zat, Zai, Zar, Zaf, Zag]
 refine (Yli (r.same ((s0.cat s1).cat s2)) b ht).mono ?_
 rintro v h3 ⟨rfl, s3⟩
 simp only [Zam]
 exact ⟨by rw [b1]; rfl, ((s0.cat s1).cat s2).cat s3⟩
end Go.Sim

set_option linter.unusedVariables false
set_option linter.unusedSimpArgs false
set_option maxRecDepth 20000
namespace Go.Sim
open Go Go.RowKit

end Go.Sim

set_option linter.unusedVariables false
set_option linter.unusedSimpArgs false
set_option maxRecDepth 20000
namespace Go.Sim
open Go Go.RowKit
theorem Ygh {h : Zaa} {c t : List Nat} {x : Int} (hc : c.length ≤ 9223372036854775807) (ht : t.length ≤ 9223372036854775807) (hx : 0 ≤ x ∧ x ≤ 1048576) :
  Zad pg Zmk [.agg [.str c, .str t], .int .i64 x] h fun v h' => ∃ y, v = .int .i64 y ∧ Zba h.length h h' ∧ (0 ≤ y → (c.length : Int) + t.length + y = x) := by
 apply Zqk.call
 simp only [Zaw]
 have s1 : Zba h.length h (h ++ [.cells Zpk [.str c, .str t] false]) := Zba.app (Nat.le_refl _) _
 simp [Zal]
 rw [IntWalk.i64_in _ (by omega)]
 refine Zao (fun hlt => s1) (fun hge => ?_)
 rw [IntWalk.i64_in _ (by omega)]
 exact Zao (fun hlt => s1) (fun hge => ⟨s1, by omega⟩)
theorem Yha {h : Zaa} {c t c' t' : List Nat} :
  Zad pg Zml [.agg [.str c, .str t], .agg [.str c', .str t']] h fun v h' => v = .bool (decide (c = c') && decide (t = t')) ∧ Zba h.length h h' := by
 apply Zqu.call
 simp only [Zaw]
 simp [Zal]
 by_cases e1 : c = c' <;> by_cases e2 : t = t' <;> simp [e1, e2] <;> exact Zba.app (Nat.le_refl _) _
theorem Yhe {h : Zaa} {c t : List Nat} :
  Zad pg Zmi [.agg [.str c, .str t]] h fun v h' => v = .agg [.str c, .str t] ∧ Zba h.length h h' := by
 apply Zqs.call
 simp only [Zaw]
 simp [Zal, Zbo, Zbx, putRow, List.getElem?_append, List.getElem?_set]
 exact Zba.app (Nat.le_refl _) _

theorem Ycj {h : Zaa} {a : Pt} {n c : Nat} {e : Bool} {l : List (List Nat × List Nat)} (r : Row h.length h a (n * 2) (prs l)) (hs : ∀ p ∈ l, p.1.length ≤ 9223372036854775807 ∧ p.2.length ≤ 9223372036854775807) (hn : n ≤ 9223372036854775807) {Zgg : Int} (hl : 0 ≤ Zgg ∧ Zgg ≤ 1048576) :
  Zad pg Zkz [.slice a n c e, .int .i64 Zgg] h fun v h' => ∃ x, v = .int .i64 x ∧ Zba h.length h h' ∧ (0 ≤ x → (n : Int) + Ybf l + x = Zgg) := by
 have hll : l.length = n := by have := r.1; rw [Zgd] at this; omega
 apply Zgi.call
 rw [IntWalk.i64_in _ (by omega)]
 refine Zao (fun hlt => ?_) (fun hge => ?_)
 ·exact ⟨_, rfl, Zba.refl _ _, by omega⟩
 ·refine Zgi.L5ind _ _ _ _ _ (J := fun (g : Nat) x1 x5 h' => x5 = (g : Int) ∧ Zba h.length h h' ∧ g ≤ n ∧ 0 ≤ x1 ∧ x1 + n + Ybf (l.take g) = Zgg) (fun g => n - g) ?_ 0 _ 0 h ⟨rfl, Zba.refl _ _, by omega, by omega, by simp [Ybf]⟩
  rintro g x1 x5 h' ⟨rfl, hS, hg, h0, ht⟩ R hR
  unfold Zgi.L5t
  refine Zao (fun hlt => ?_) (fun hge => ?_)
  ·have hlt' : g < n := by omega
   obtain ⟨i, o, hgl, rfl, hi, hc⟩ := (r.same hS).pair hlt'
   have hsl := hs _ (List.getElem_mem hgl)
   simp only [Zav, Int.toNat_natCast, hc, Zat, Zai, Zar, Zag]
   refine ⟨by omega, (Ygh hsl.1 hsl.2 (by omega)).mono fun v h1 ⟨y, hv, hs1, hy⟩ => ?_⟩
   subst hv
   simp only [Zau]
   have hS1 := hS.trans (hs1.mono hS.le)
   refine Zao (fun hneg => ⟨_, rfl, hS1, by omega⟩) (fun hneg => ?_)
   rw [Zmy hlt' (by omega)]
   have hyy := hy (by omega)
   refine hR (g + 1) _ _ _ (by omega) ⟨rfl, hS1, by omega, by omega, ?_⟩
   rw [Zur hgl]; omega
  ·have : g = n := by omega
   subst this
   rw [List.take_of_length_le (by omega)] at ht
   exact Zgi.A5x0i _ _ _ ⟨_, rfl, hS, by omega⟩
theorem Ybg {h : Zaa} {a : Pt} {n c : Nat} {e : Bool} {l : List (List Nat × List Nat)} (r : Row h.length h a (n * 2) (prs l)) (hn : n ≤ 1048576) :
  Zad pg Zln [.slice a n c e] h fun v h' => ∃ a' c' e', v = .slice a' n c' e' ∧ Zba h.length h h' ∧ Zct Zbq eP h.length h' a' n l ∧ n ≤ c' := by
 have hll : l.length = n := by have := r.1; rw [Zgd] at this; omega
 apply Zgm.call
 refine ⟨rfl, rfl, by omega, ?_⟩
 simp only [Zaw, Int.toNat_natCast, Yep]
 refine Zgm.L3ind _ _ _ _ _ _ _ _ _ (J := fun (g : Nat) x4 h' => x4 = (g : Int) ∧ g ≤ n ∧ Zba h.length h h' ∧ h'[h.length]? = some (.cells Zbq (prs (l.take g ++ List.replicate (n - g) ([], []))) false)) (fun g => n - g) ?_ 0 0 _ ⟨rfl, by omega, Zba.app (Nat.le_refl _) _, by simp⟩
 rintro g x4 h' ⟨rfl, hg, hs, hi⟩ R hR
 unfold Zgm.L3t
 refine Zao (fun hlt => ?_) (fun hge => ?_)
 ·have hlt' : g < n := by omega
  obtain ⟨i, o, hgl, rfl, hi', hc⟩ := (r.same hs).pair hlt'
  simp only [Zav, Int.toNat_natCast, hc, Zat, Zai, Zar, Zag]
  refine ⟨by omega, Yhe.mono fun v h1 ⟨hv, hs1⟩ => ?_⟩
  subst hv
  have hi1 : h1[h.length]? = some (.cells Zbq (prs (l.take g ++ List.replicate (n - g) ([], []))) false) := by rw [hs1.eq _ (Own.lt hi)]; exact hi
  simp only [Zdq, Zai, Zar, Zag, Nat.zero_add]
  have hmin : min g l.length = g := Nat.min_eq_left (by omega)
  rw [Yaa hi1 (by simp; omega)]
  simp only [Zay]
  rw [Zmy hlt' (by omega)]
  have hset : (l.take g ++ List.replicate (n - g) ([], [])).take g ++ [(l[g].1, l[g].2)] ++ (l.take g ++ List.replicate (n - g) (([] : List Nat), ([] : List Nat))).drop (g + 1) = l.take (g + 1) ++ List.replicate (n - (g + 1)) ([], []) := by
   have hl1 : (l.take g).length = g := by rw [List.length_take, hmin]
   rw [List.take_left' hl1, List.take_succ_eq_append_getElem hgl, List.drop_append, hl1, List.drop_of_length_le (by omega), List.nil_append, List.drop_replicate]
   congr 2; omega
  rw [hset]
  exact ⟨⟨by omega, by omega⟩, hR (g + 1) _ _ (by omega) ⟨rfl, by omega, (hs.trans (hs1.mono hs.le)).trans (Zba.set (Nat.le_refl _) _), Zmv hi1⟩⟩
 ·have : g = n := by omega
  subst this
  rw [List.take_of_length_le (by omega), Nat.sub_self, List.replicate_zero, List.append_nil] at hi
  exact Zgm.A3x0i _ _ _ _ _ _ ⟨_, _, _, rfl, hs, ⟨hll, .inr ⟨h.length, rfl, Nat.le_refl _, hi⟩⟩, by simp⟩
theorem Ybt {h : Zaa} {a0 a1 : Pt} {n0 n1 c0 c1 : Nat} {e0 e1 : Bool} {l0 l1 : List (List Nat × List Nat)} (r0 : Row h.length h a0 (n0 * 2) (prs l0)) (r1 : Row h.length h a1 (n1 * 2) (prs l1)) (hn : n0 ≤ 4611686018427387904) (heq : l0 = l1) :
  Zad pg Zlm [.slice a0 n0 c0 e0, .slice a1 n1 c1 e1] h fun v h' => v = .bool true ∧ Zba h.length h h' := by
 subst heq
 have hl0 : l0.length = n0 := by have := r0.1; rw [Zgd] at this; omega
 have hl1 : l0.length = n1 := by have := r1.1; rw [Zgd] at this; omega
 have : n1 = n0 := by omega
 subst this
 apply Zgr.call
 simp only [beq_self_eq_true, Bool.not_true, Zbg]
 refine Zgr.L4ind _ _ _ _ _ _ _ _ _ (J := fun (k : Nat) x5 h' => Zba h.length h h' ∧ x5 = (k : Int) ∧ k ≤ n1) (fun k => n1 - k) ?_ 0 0 h ⟨Zba.refl _ _, rfl, by omega⟩
 rintro k x5 h' ⟨hs, rfl, hk⟩ R hR
 unfold Zgr.L4t
 refine Zao (fun hlt => ?_) (fun hge => Zgr.A4x0i _ _ ⟨rfl, hs⟩)
 have hlt' : k < n1 := by omega
 obtain ⟨i, o, hgl, rfl, _, hc0⟩ := (r0.same hs).pair hlt'
 obtain ⟨i', o', _, rfl, _, hc1⟩ := (r1.same hs).pair hlt'
 simp only [Zav, Int.toNat_natCast, hc0, hc1, Zat, Zai, Zar, Zag, true_and]
 refine ⟨⟨by omega, by omega⟩, ⟨by omega, by omega⟩, Yha.mono fun v h1 ⟨hv, hs1⟩ => ?_⟩
 subst hv
 simp only [Zam, decide_true, Bool.and_self, Bool.not_true, Zbg]
 rw [Zmy hlt' (by omega)]
 exact hR (k + 1) _ _ (by omega) ⟨hs.trans (hs1.mono hs.le), rfl, by omega⟩

theorem Yeh {h : Zaa} {a : Pt} {n c : Nat} {e : Bool} {l : List (List Nat × List Nat)} (r : Row h.length h a (n * 2) (prs l)) (hn : n ≤ 1048576) :
  Zad pg Zmm [.slice a n c e] h fun v h' => ∃ a' c' e', v = .slice a' n c' e' ∧ Zba h.length h h' ∧ Zct Zae eP h.length h' a' n l ∧ n ≤ c' ∧ a' ≠ none := by
 have hll : l.length = n := by have := r.1; rw [Zgd] at this; omega
 apply Zhh.call
 refine ⟨rfl, rfl, by omega, ?_⟩
 simp only [Zaw, Int.toNat_natCast, Yep]
 refine Zhh.L3ind _ _ _ _ _ _ _ _ _ (J := fun (g : Nat) x4 h' => x4 = (g : Int) ∧ g ≤ n ∧ Zba h.length h h' ∧ h'[h.length]? = some (.cells Zae (prs (l.take g ++ List.replicate (n - g) ([], []))) false)) (fun g => n - g) ?_ 0 0 _ ⟨rfl, by omega, Zba.app (Nat.le_refl _) _, by simp⟩
 rintro g x4 h' ⟨rfl, hg, hs, hi⟩ R hR
 unfold Zhh.L3t
 refine Zao (fun hlt => ?_) (fun hge => ?_)
 ·have hlt' : g < n := by omega
  obtain ⟨i, o, hgl, rfl, hi', hc⟩ := (r.same hs).pair hlt'
  simp only [Zav, Int.toNat_natCast, hc, Zat, Zai, Zar, Zag]
  refine ⟨by omega, Zso.mono fun v h1 ⟨hv, hs1⟩ => ?_⟩
  subst hv
  have hi1 : h1[h.length]? = some (.cells Zae (prs (l.take g ++ List.replicate (n - g) ([], []))) false) := by rw [hs1.eq _ (Own.lt hi)]; exact hi
  simp only [Zdq, Zai, Zar, Zag, Nat.zero_add]
  have hmin : min g l.length = g := Nat.min_eq_left (by omega)
  rw [Yaa hi1 (by simp; omega)]
  simp only [Zay]
  rw [Zmy hlt' (by omega)]
  have hset : (l.take g ++ List.replicate (n - g) ([], [])).take g ++ [(l[g].1, l[g].2)] ++ (l.take g ++ List.replicate (n - g) (([] : List Nat), ([] : List Nat))).drop (g + 1) = l.take (g + 1) ++ List.replicate (n - (g + 1)) ([], []) := by
   have hl1 : (l.take g).length = g := by rw [List.length_take, hmin]
   rw [List.take_left' hl1, List.take_succ_eq_append_getElem hgl, List.drop_append, hl1, List.drop_of_length_le (by omega), List.nil_append, List.drop_replicate]
   congr 2; omega
  rw [hset]
  exact ⟨⟨by omega, by omega⟩, hR (g + 1) _ _ (by omega) ⟨rfl, by omega, (hs.trans (hs1.mono hs.le)).trans (Zba.set (Nat.le_refl _) _), Zmv hi1⟩⟩
 ·have : g = n := by omega
  subst this
  rw [List.take_of_length_le (by omega), Nat.sub_self, List.replicate_zero, List.append_nil] at hi
  exact Zhh.A3x0i _ _ _ _ _ _ ⟨_, _, _, rfl, hs, ⟨hll, .inr ⟨h.length, rfl, Nat.le_refl _, hi⟩⟩, by simp, by simp⟩
end Go.Sim
