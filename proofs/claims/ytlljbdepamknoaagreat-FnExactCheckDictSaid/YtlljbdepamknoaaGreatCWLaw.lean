/- A part of the proof of a statement of this seat: see the text that holds the theorem. No condition. -/
import Derived.Test.YtlljbdepamknoaaGreatPTC6
import Derived.Test.YtlljbdepamknoaaGreatCVars
import Derived.Test.YtlljbdepamknoaaGreatCTy
import Derived.Test.YtlljbdepamknoaaGreatPTCWCls2
import Derived.Test.YtlljbdepamknoaaGreatPTCWVar2
set_option linter.unusedVariables false
set_option linter.unusedSimpArgs false
set_option linter.all false
set_option linter.unusedVariables false
set_option linter.unusedSimpArgs false
set_option maxRecDepth 20000
namespace Go.Sim
open Go Go.RowKit

theorem Zes {h : Zaa} {t : TypeId} {cs : List Zan} {o : Nat} : Zae (h ++ [.cells t cs false]) (.ptr (some (h.length, o))) = cs[o]? := Zak (t := t) (cs := cs) (ro := false) (by simp)
theorem Zxh {h : Zaa} {t : TypeId} {cs : List Zan} {n : Nat} (hn : cs.length = n) : Zbp (h ++ [.cells t cs false]) (.ptr (some (h.length, 0))) n = some cs := by
  rw [Zdt (show (h ++ [Zcj.cells t cs false])[h.length]? = some (.cells t cs false) by simp) (by omega)]; simp [← hn]
theorem Zas {h : Zaa} {x : Zcj} : Zbe h.length h (h ++ [x]) := Zbe.app (Nat.le_refl _) _
theorem Zvy {h : Zaa} {t : TypeId} {cs vs : List Zan} (hl : cs.length = vs.length) : Zbd (h ++ [.cells t cs false]) (.ptr (some (h.length, 0))) vs = some (h ++ [.cells t vs false]) := by
  rw [Zbq (show (h ++ [Zcj.cells t cs false])[h.length]? = some (.cells t cs false) by simp) (by omega)]
  simp [putRow, hl]
theorem Zfi {h : Zaa} {t : TypeId} {x y a b : Zan} : Zbd (h ++ [.cells t [x, y] false]) (.ptr (some (h.length, 0))) [a, b] = some (h ++ [.cells t [a, b] false]) := Zvy rfl
theorem Yfl {h : Zaa} {t : TypeId} {x y z a b c : Zan} : Zbd (h ++ [.cells t [x, y, z] false]) (.ptr (some (h.length, 0))) [a, b, c] = some (h ++ [.cells t [a, b, c] false]) := Zvy rfl
theorem Row.sl {b : Nat} {h : Zaa} {a : Pt} {n k : Nat} {l : List Nd} (r : Row b h a (n * 2) (Zfa eP l)) (hk : k ≤ n) (hl : l.length = n) : Row b h a (k * 2) (Zfa eP (l.take k)) := by
  obtain ⟨h1, h2⟩ := r
  have e : (Zfa eP (l.take k)).length = k * 2 := by rw [Zbk Zek, List.length_take, Nat.min_eq_left (by omega)]
  refine ⟨e, ?_⟩
  rcases h2 with h0 | ⟨i, o, t, all, ro, ha, hb, hi, hle, hcs⟩
  · exact .inl (by omega)
  · refine .inr ⟨i, o, t, all, ro, ha, hb, hi, by omega, ?_⟩
    rw [← Yfe Zek, hcs, List.take_take, Nat.min_eq_left (by omega)]
theorem Ycb {b : Nat} {h : Zaa} {a : Pt} {n c k : Nat} {e : Bool} {l : List Nd} {K : Zan → Prop} (r : Row b h a (n * 2) (Zfa eP l)) (hl : l.length = n) (hk : k ≤ n) (hc : n ≤ c) {z : Int} (hz : z = k)
    (hK : ∀ a' c' e', Row b h a' (k * 2) (Zfa eP (l.take k)) → k ≤ c' → K (.slice a' k c' e')) : Zmv a n c e 2 none (some (.int .i64 z)) none K := by
  subst hz
  simp only [Zmv, Zkb]
  refine ⟨by omega, ?_⟩
  split
  · have h0 : n = 0 := by
      obtain ⟨h1, h2⟩ := r
      rcases h2 with h2 | ⟨i, o, t, all, ro, ha, _⟩
      · omega
      · cases ha
    have hk0 : k = 0 := by omega
    subst hk0
    exact ⟨⟨by trivial, by simp, .inl (by trivial)⟩, hK _ _ _ (by simpa using Row.nil) (by omega)⟩
  · rename_i i o
    refine ⟨fun hlt => ?_, fun hlt => ?_⟩
    · have e2 : ((k : Int) - 0).toNat = k := by omega
      have e3 : o + Int.toNat 0 * 2 = o := by simp
      have e4 : ((c : Int) - 0).toNat = c := by omega
      rw [e2, e3, e4]
      exact hK _ _ _ (r.sl hk hl) (by omega)
    · have hk0 : k = 0 := by omega
      subst hk0
      exact hK _ _ _ (by simpa using Row.nil) (by omega)

theorem Yad {h : Zaa} {x : Nd} {j : Nat} {c : List Nat} (hj : Zae h (.ptr (some (j, 0))) = some (.str c)) (hjl : j < h.length) :
    Zad pg Zcl [.agg [.str x.1, .str x.2], .ptr (some (j, 0))] h fun v h' => v = .bool (decide (x.1 = c)) ∧ Zbe h.length h h' := by
  apply Zlv.call
  simp only [Zaz, Zes, List.getElem?_cons_zero, Zag]
  have := (Zas (h := h) (x := .cells Zbr [.str x.1, .str x.2] false)).cell hjl hj
  rw [this]
  exact ⟨rfl, Zas⟩
theorem Yax {h : Zaa} {a : Pt} {n c : Nat} {e : Bool} {cs : List Nd} {j : Nat} {s : List Nat} (r : Row h.length h a (n * 2) (Zfa eP cs)) (hn : n ≤ 4611686018427387904) (hj : Zae h (.ptr (some (j, 0))) = some (.str s)) (hjl : j < h.length) :
    Zad pg Zcy [.slice a n c e, .fn Zcl [.ptr (some (j, 0))]] h fun v h' => (∃ z : Int, v = .int .i64 z ∧ decide (z ≥ 0) = Zgc cs s) ∧ Zbe h.length h h' := by
  have hl : cs.length = n := by have := r.1; rw [Zbk Zek] at this; omega
  apply Zbg.call
  refine Zbg.L2ind _ _ _ _ _ _ _ (J := fun (g : Nat) x8 h' => x8 = (g : Int) ∧ g ≤ n ∧ Zbe h.length h h' ∧ Zgc (cs.take g) s = false) (fun g => n - g) ?_ 0 _ _ ⟨rfl, by omega, Zbe.refl _ _, rfl⟩
  rintro g x8 h' ⟨rfl, hg, hS, hk⟩ R hR
  unfold Zbg.L2t
  refine Zap (fun hlt => ?_) (fun hge => ?_)
  · obtain ⟨i, o, hgl, rfl, _, hr, _⟩ := (r.same hS).pr (k := g) (by omega)
    simp only [Zax, Int.toNat_natCast, hr, Zau, Zaf, Zaq, Zag]
    refine ⟨by omega, (Yad (x := cs[g]) (hS.cell hjl hj) (by have := hS.le; omega)).mono ?_⟩
    rintro v h2 ⟨rfl, s2⟩
    simp only [Zai]
    have hS2 := hS.trans (s2.mono hS.le)
    refine Zap (fun he => ?_) (fun he => ?_)
    · refine ⟨⟨_, rfl, ?_⟩, hS2⟩
      have : Zgc cs s = true := by unfold Zgc; rw [List.any_eq_true]; exact ⟨_, List.getElem_mem hgl, by simpa using he⟩
      rw [this]; simp
    · rw [Zbs (by omega)]
      exact hR (g + 1) _ _ (by omega) ⟨rfl, by omega, hS2, by rw [Zuf hgl, hk]; simp [he]⟩
  · apply Zbg.A2x0i
    have : g = n := by omega
    subst this
    rw [List.take_of_length_le (by omega)] at hk
    exact ⟨⟨_, rfl, by rw [hk]; rfl⟩, hS⟩
theorem Zst {h : Zaa} {a : Pt} {n c : Nat} {e : Bool} {cs : List Nd} {s : List Nat} (r : Row h.length h a (n * 2) (Zfa eP cs)) (hn : n ≤ 4611686018427387904) :
    Zad pg Zhx [.slice a n c e, .str s] h fun v h' => v = .bool (Zgc cs s) ∧ Zbe h.length h h' := by
  apply Zsb.call
  simp only [Zaz]
  apply Zco.call
  have s1 : Zbe h.length h (h ++ [.cells Zcz [.str s] false]) := Zas
  refine (Yax (r.same' s1) hn (s := s) (by rw [Zes]; rfl) (by simp)).mono ?_
  rintro v h2 ⟨⟨z, rfl, hz⟩, s2⟩
  simp only [Zao, Zai]
  exact ⟨by rw [hz], s1.trans (s2.mono s1.le)⟩
theorem Zon {h : Zaa} {a a1 : Pt} {n c n1 c1 : Nat} {e e1 : Bool} {cs : List Nd} {s : List Nat} (r : Row h.length h a (n * 2) (Zfa eP cs)) (hn : n ≤ 4611686018427387904) :
    Zad pg Zfv [.agg [.slice a n c e, .slice a1 n1 c1 e1], .str s] h fun v h' => v = .int .i64 (Ybf cs s) ∧ Zbe h.length h h' := by
  have hl : cs.length = n := by have := r.1; rw [Zbk Zek] at this; omega
  apply Zhl.call
  simp only [Zaz, Zes, Nat.add_zero, List.getElem?_cons_zero, Zah]
  have s1 : Zbe h.length h (h ++ [.cells Zam [.slice a n c e, .slice a1 n1 c1 e1] false]) := Zas
  refine Zhl.L2ind _ _ _ _ _ _ _ (J := fun (g : Nat) x10 h' => x10 = (g : Int) ∧ g ≤ n ∧ Zbe h.length h h' ∧ Zgc (cs.take g) s = false) (fun g => n - g) ?_ 0 _ _ ⟨rfl, by omega, s1, rfl⟩
  rintro g x8 h' ⟨rfl, hg, hS, hk⟩ R hR
  unfold Zhl.L2t
  refine Zap (fun hlt => ?_) (fun hge => ?_)
  · obtain ⟨i, o, hgl, rfl, _, hr, _⟩ := (r.same hS).pr (k := g) (by omega)
    simp only [Zax, Int.toNat_natCast, hr, Zau, Zaf, Zaq, Zag, Zaz]
    rw [Zfi]
    simp only [Zav, Zes, Nat.add_zero, List.getElem?_cons_zero, Zag]
    refine ⟨by omega, ?_⟩
    have hS2 : Zbe h.length h (h' ++ [.cells Zbr [.str cs[g].1, .str cs[g].2] false]) := hS.trans (Zbe.app hS.le _)
    refine Zap (fun he => ?_) (fun he => ?_)
    · refine ⟨?_, hS2⟩
      have hkn : Zgc cs s = true := by unfold Zgc; rw [List.any_eq_true]; exact ⟨_, List.getElem_mem hgl, by simpa using he⟩
      unfold Ybf
      rw [hkn, if_pos rfl]
      congr 2
      symm
      rw [List.findIdx_eq hgl]
      refine ⟨by simpa using he, fun j hj => ?_⟩
      unfold Zgc at hk
      rw [List.any_eq_false] at hk
      have := hk cs[j] (List.mem_take_iff_getElem.2 ⟨j, by omega, rfl⟩)
      simpa using this
    · rw [Zbs (by omega)]
      exact hR (g + 1) _ _ (by omega) ⟨rfl, by omega, hS2, by rw [Zuf hgl, hk]; simp [he]⟩
  · apply Zhl.A2x0i
    have : g = n := by omega
    subst this
    rw [List.take_of_length_le (by omega)] at hk
    exact ⟨by unfold Ybf; rw [hk]; rfl, hS⟩

theorem Ygi {s : List Nat} {g : Nat} {z : Int} (hg : g < s.length) (hz : z = ((g + 1 : Nat) : Int)) : sub s (g : Int) z = [s[g]] := by
  subst hz
  simp only [sub, Int.toNat_natCast]
  rw [List.take_succ_eq_append_getElem hg, List.drop_append_of_le_length (by simp; omega), List.drop_of_length_le (by rw [List.length_take]; exact Nat.min_le_left _ _), List.nil_append]
theorem Zpt {g : Nat} (hg : 0 < g) (hn : g ≤ 9223372036854775807) : IntKind.wrap .i64 ((g : Int) - 1) = ((g - 1 : Nat) : Int) := by rw [IntWalk.i64_in _ (by omega)]; omega
theorem Ybq {cs : List Nd} {s : List Nat} {g : Nat} (hg : g < s.length) : Zur cs s g = (Zgc cs [s[g]] && (g == 0 || decide (s.getD (g - 1) 0 < s[g]))) := by unfold Zur; rw [Zez hg]
theorem Yce {cs : List Nd} {g : Nat} (hg : g < cs.length) : Zuy cs g = (Zsg cs[g].1 && (g == 0 || Zdk (cs.getD (g - 1) ([], [])).1 cs[g].1) && Zyd (cs.take g) cs[g].2) := by unfold Zuy; rw [Zez hg]
theorem Zjd {cs : List Nd} {g : Nat} (hg : g < cs.length) (h : Zuy cs g = false) : Zir cs = false := by unfold Zir; rw [Zin hg h]; rfl
theorem Zru {h : Zaa} {a a1 : Pt} {n c n1 c1 : Nat} {e e1 : Bool} {cs : List Nd} (r : Row h.length h a (n * 2) (Zfa eP cs)) (hc : n ≤ c) (hn : n ≤ 1048576) (hs : ∀ p ∈ cs, p.2.length ≤ 1048576) :
    Zad pg Zho [.agg [.slice a n c e, .slice a1 n1 c1 e1]] h fun v h' => v = .bool (Zir cs) ∧ Zbe h.length h h' := by
  have hl : cs.length = n := by have := r.1; rw [Zbk Zek] at this; omega
  apply Zck.call
  simp only [Zaz, Zes, Nat.add_zero, List.getElem?_cons_zero, Zah]
  have s1 : Zbe h.length h (h ++ [.cells Zam [.slice a n c e, .slice a1 n1 c1 e1] false]) := Zas
  have hw : (h ++ [Zcj.cells Zam [.slice a n c e, .slice a1 n1 c1 e1] false])[h.length]? = some (.cells Zam [.slice a n c e, .slice a1 n1 c1 e1] false) := by simp
  refine Zck.L2ind _ _ _ _ _ _ _ _ (J := fun (g : Nat) x9 h' => x9 = (g : Int) ∧ g ≤ n ∧ Zbe h.length h h' ∧ h'[h.length]? = some (.cells Zam [.slice a n c e, .slice a1 n1 c1 e1] false) ∧ (List.range g).all (Zuy cs) = true) (fun g => n - g) ?_ 0 _ _ ⟨rfl, by omega, s1, hw, rfl⟩
  rintro g x9 h' ⟨rfl, hg, hS, hW, hk⟩ R hR
  unfold Zck.L2t
  refine Zap (fun hlt => ?_) (fun hge => ?_)
  · obtain ⟨i, o, hgl, rfl, hil, hr, _⟩ := (r.same hS).pr (k := g) (by omega)
    simp only [Zax, Int.toNat_natCast, hr, Zau, Zaf, Zaq, Zag, Zaz]
    rw [Zfi]
    simp only [Zav, Zes, Nat.add_zero, List.getElem?_cons_zero, Zag]
    have hS2 : Zbe h.length h (h' ++ [.cells Zbr [.str cs[g].1, .str cs[g].2] false]) := hS.trans (Zbe.app hS.le _)
    refine ⟨by omega, (Ydh _).mono ?_⟩
    rintro v h2 ⟨rfl, rfl⟩
    simp only [Zai, true_and]
    have hcl := Yce hgl
    have hle := hS2.le
    have hWl := Own.lt hW
    have hW2 : (h' ++ [.cells Zbr [.str cs[g].1, .str cs[g].2] false])[h.length]? = some (.cells Zam [.slice (some (i, o)) n c e, .slice a1 n1 c1 e1] false) := Zko hW
    have hcell : ∀ o', Zae (h' ++ [.cells Zbr [.str cs[g].1, .str cs[g].2] false]) (.ptr (some (h'.length, o'))) = ([.str cs[g].1, .str cs[g].2] : List Zan)[o']? := fun o' => Zes
    -- the classes above
    have key : (Zsg cs[g].1 && (g == 0 || Zdk (cs.getD (g - 1) ([], [])).1 cs[g].1)) = true → Zck.J6 (fun v h' => v = .bool (Zir cs) ∧ Zbe h.length h h') R h'.length 0 h.length 0 (g : Int) (some (i, o)) n c e (n : Int) (g : Int) (h' ++ [.cells Zbr [.str cs[g].1, .str cs[g].2] false]) := by
      intro hpre
      rw [hpre, Bool.true_and] at hcl
      apply Zck.J6i
      rw [hcell]
      simp only [Nat.zero_add, List.getElem?_cons_succ, List.getElem?_cons_zero, Zag]
      have hsl := hs cs[g] (List.getElem_mem hgl)
      refine Zck.L7ind _ _ _ _ _ _ _ _ _ _ _ _ _ _ (J := fun (q : Nat) x37 h3 => x37 = (q : Int) ∧ q ≤ cs[g].2.length ∧ Zbe h.length h h3 ∧ h3[h.length]? = some (.cells Zam [.slice (some (i, o)) n c e, .slice a1 n1 c1 e1] false) ∧ h3[h'.length]? = some (.cells Zbr [.str cs[g].1, .str cs[g].2] false) ∧ (List.range q).all (Zur (cs.take g) cs[g].2) = true) (fun q => cs[g].2.length - q) ?_ 0 _ _ ⟨rfl, by omega, hS2, hW2, by simp, rfl⟩
      rintro q x37 h3 ⟨rfl, hq, hS3, hW3, hI3, hk3⟩ R7 hR7
      unfold Zck.L7t
      refine Zap (fun hlt3 => ?_) (fun hge3 => ?_)
      · have hq' : q < cs[g].2.length := by omega
        simp only [Nat.add_zero, Nat.zero_add, Zak hW3, Zak hI3, List.getElem?_cons_succ, List.getElem?_cons_zero, Zah, Zag, true_and]
        refine Ycb (r.same hS3) hl (k := g) (by omega) hc rfl (fun a' c' e' hrow hc' => ?_)
        simp only [Zah]
        rw [Zbs (by omega), Ygi hq' rfl]
        refine ⟨⟨by omega, by omega, by omega⟩, (Zst (hrow.mono hS3.le) (by omega)).mono ?_⟩
        rintro v h4 ⟨rfl, s4⟩
        have hS4 := hS3.trans (s4.mono hS3.le)
        have hW4 : h4[h.length]? = some (.cells Zam [.slice (some (i, o)) n c e, .slice a1 n1 c1 e1] false) := by rw [s4.eq _ (Own.lt hW3)]; exact hW3
        have hI4 : h4[h'.length]? = some (.cells Zbr [.str cs[g].1, .str cs[g].2] false) := by rw [s4.eq _ (Own.lt hI3)]; exact hI3
        simp only [Zai, Zak hW3, Zak hW4, Zak hI4, Nat.add_zero, Nat.zero_add, List.getElem?_cons_succ, List.getElem?_cons_zero, Zag, true_and]
        have hsa := Ybq (cs := cs.take g) hq'
        have fail : Zur (cs.take g) cs[g].2 q = false → (Zan.bool false = Zan.bool (Zir cs) ∧ Zbe h.length h h4) := fun hf => ⟨by rw [Zjd hgl (by rw [hcl]; unfold Zyd; exact Zin hq' hf)], hS4⟩
        have next : Zur (cs.take g) cs[g].2 q = true → R7 h.length 0 (g : Int) h'.length 0 (some (i, o)) n c e (n : Int) (g : Int) (cs[g].2.length : Int) (IntKind.wrap .i64 ((q : Int) + 1)) h4 := fun ht => by
          rw [Zbs (by omega)]
          exact hR7 (q + 1) _ _ (by omega) ⟨rfl, by omega, hS4, hW4, hI4, Zfw hk3 ht⟩
        refine Zbv (fun hb => fail (by rw [hsa, hb]; rfl)) (fun hb => ?_)
        refine Zap (fun h0 => ?_) (fun h0 => ?_)
        · have h0' : 0 < q := by omega
          rw [Zpt h0' (by omega)]
          refine ⟨⟨by omega, by omega⟩, ⟨by omega, by omega⟩, ?_⟩
          simp only [Int.toNat_natCast]
          have hd1 : cs[g].2.getD q 0 = cs[g].2[q] := Zez hq'
          have hq0 : (q == 0) = false := by simp; omega
          refine Zap (fun h1 => fail ?_) (fun h1 => Zck.J11i _ _ _ _ _ _ _ _ _ _ _ _ _ _ _ _ _ (next ?_))
          · rw [hsa, hb, hq0, ← hd1]; simp only [Bool.true_and, Bool.false_or, decide_eq_false_iff_not]; omega
          · rw [hsa, hb, hq0, ← hd1]; simp only [Bool.true_and, Bool.false_or, decide_eq_true_eq]; omega
        · have : q = 0 := by omega
          subst this
          exact Zck.J11i _ _ _ _ _ _ _ _ _ _ _ _ _ _ _ _ _ (next (by rw [hsa, hb]; rfl))
      · apply Zck.A7x2i
        apply Zck.J12i
        have : q = cs[g].2.length := by omega
        subst this
        rw [Zbs (by omega)]
        exact hR (g + 1) _ _ (by omega) ⟨rfl, by omega, hS3, hW3, Zfw hk (by rw [hcl]; exact hk3)⟩
    refine Zbv (fun hb => ⟨by rw [Zjd hgl (by rw [hcl, hb]; rfl)], hS2⟩) (fun hb => ?_)
    refine Zap (fun h0 => ?_) (fun h0 => ?_)
    · have h0' : 0 < g := by omega
      rw [Zak hW2]
      simp only [List.getElem?_cons_zero, Zah]
      rw [Zpt h0' (by omega)]
      obtain ⟨i', o', hgl', heq, _, _, hc0, _⟩ := (r.same hS2).pr (k := g - 1) (by omega)
      cases heq
      simp only [Zax, Int.toNat_natCast, hc0, Zag, Nat.add_zero, Nat.zero_add, hcell, List.getElem?_cons_zero, true_and]
      refine ⟨by omega, ?_⟩
      have hg0 : (g == 0) = false := by simp; omega
      have hgd : cs.getD (g - 1) ([], []) = cs[g - 1] := Zez hgl'
      refine Zbv (fun hb2 => ⟨by rw [Zjd hgl (by rw [hcl, hb, hg0, hgd, hb2]; rfl)], hS2⟩) (fun hb2 => key (by rw [hb, hg0, hgd, hb2]; rfl))
    · have : g = 0 := by omega
      subst this
      exact key (by rw [hb]; rfl)
  · apply Zck.A2x0i
    have : g = n := by omega
    subst this
    have hok : Zir cs = decide (1 ≤ g ∧ g ≤ 4) := by unfold Zir; rw [hl, hk, Bool.true_and]
    simp only [Nat.add_zero, Zak hW, List.getElem?_cons_zero, Zah]
    refine Zap (fun h1 => ?_) (fun h1 => ?_)
    · refine ⟨?_, hS⟩
      rw [hok]; congr 1; rw [Bool.eq_iff_iff]; simp; omega
    · refine ⟨?_, hS⟩
      rw [hok]; congr 1; symm; simp; omega
end Go.Sim

set_option linter.unusedVariables false
set_option linter.unusedSimpArgs false
set_option maxRecDepth 20000
namespace Go.Sim
open Go Go.RowKit
theorem Zsd {h : Zaa} {a : Pt} {n c : Nat} {e : Bool} {cs : List Nd} (r : Row h.length h a (n * 2) (Zfa eP cs)) (hc : n ≤ c) (hn : n ≤ 1048576) (hs : ∀ p ∈ cs, p.2.length ≤ 1048576) (hb256 : ∀ p ∈ cs, ∀ b ∈ p.1, b < 256) :
    Zad pg Zht [.slice a n c e] h fun v h' => v = .bool (Zir cs) ∧ Zbe h.length h h' := by
  have hl : cs.length = n := by have := r.1; rw [Zbk Zek] at this; omega
  apply Zcm.call
  refine Zcm.L2ind _ _ _ _ _ _ _ _ _ _ (J := fun (g : Nat) x9 h' => x9 = (g : Int) ∧ g ≤ n ∧ Zbe h.length h h' ∧ (List.range g).all (Zuy cs) = true) (fun g => n - g) ?_ 0 _ _ ⟨rfl, by omega, Zbe.refl _ _, rfl⟩
  rintro g x9 h' ⟨rfl, hg, hS, hk⟩ R hR
  unfold Zcm.L2t
  refine Zap (fun hlt => ?_) (fun hge => ?_)
  · obtain ⟨i, o, hgl, rfl, hil, hr, _⟩ := (r.same hS).pr (k := g) (by omega)
    simp only [Zax, Int.toNat_natCast, hr, Zau, Zaf, Zaq, Zag, Zaz]
    rw [Zfi]
    simp only [Zav, Zes, Nat.add_zero, List.getElem?_cons_zero, Zag]
    have hS2 : Zbe h.length h (h' ++ [.cells Zbr [.str cs[g].1, .str cs[g].2] false]) := hS.trans (Zbe.app hS.le _)
    refine ⟨by omega, (Zyp _ (hb256 _ (List.getElem_mem hgl))).mono ?_⟩
    rintro v h2 ⟨rfl, rfl⟩
    simp only [Zai, true_and]
    have hcl := Yce hgl
    have hle := hS2.le
    have hcell : ∀ o', Zae (h' ++ [.cells Zbr [.str cs[g].1, .str cs[g].2] false]) (.ptr (some (h'.length, o'))) = ([.str cs[g].1, .str cs[g].2] : List Zan)[o']? := fun o' => Zes
    -- the classes above
    have key : (Zsg cs[g].1 && (g == 0 || Zdk (cs.getD (g - 1) ([], [])).1 cs[g].1)) = true → Zcm.J6 (fun v h' => v = .bool (Zir cs) ∧ Zbe h.length h h') R h'.length 0 (some (i, o)) n c e (g : Int) (some (i, o)) n c e (n : Int) (g : Int) (h' ++ [.cells Zbr [.str cs[g].1, .str cs[g].2] false]) := by
      intro hpre
      rw [hpre, Bool.true_and] at hcl
      apply Zcm.J6i
      rw [hcell]
      simp only [Nat.zero_add, List.getElem?_cons_succ, List.getElem?_cons_zero, Zag]
      have hsl := hs cs[g] (List.getElem_mem hgl)
      refine Zcm.L7ind _ _ _ _ _ _ _ _ _ _ _ _ _ _ _ _ (J := fun (q : Nat) x37 h3 => x37 = (q : Int) ∧ q ≤ cs[g].2.length ∧ Zbe h.length h h3 ∧ h3[h'.length]? = some (.cells Zbr [.str cs[g].1, .str cs[g].2] false) ∧ (List.range q).all (Zur (cs.take g) cs[g].2) = true) (fun q => cs[g].2.length - q) ?_ 0 _ _ ⟨rfl, by omega, hS2, by simp, rfl⟩
      rintro q x37 h3 ⟨rfl, hq, hS3, hI3, hk3⟩ R7 hR7
      unfold Zcm.L7t
      refine Zap (fun hlt3 => ?_) (fun hge3 => ?_)
      · have hq' : q < cs[g].2.length := by omega
        simp only [Nat.add_zero, Nat.zero_add, Zak hI3, List.getElem?_cons_succ, List.getElem?_cons_zero, Zah, Zag, true_and]
        refine Ycb (r.same hS3) hl (k := g) (by omega) hc rfl (fun a' c' e' hrow hc' => ?_)
        simp only [Zah]
        rw [Zbs (by omega), Ygi hq' rfl]
        refine ⟨⟨by omega, by omega, by omega⟩, (Zon (hrow.mono hS3.le) (by omega)).mono ?_⟩
        rintro v h4 ⟨rfl, s4⟩
        have hS4 := hS3.trans (s4.mono hS3.le)
        have hI4 : h4[h'.length]? = some (.cells Zbr [.str cs[g].1, .str cs[g].2] false) := by rw [s4.eq _ (Own.lt hI3)]; exact hI3
        simp only [Zao, Ztw, Zak hI4, Nat.add_zero, Nat.zero_add, List.getElem?_cons_succ, List.getElem?_cons_zero, Zag, true_and]
        have hsa := Ybq (cs := cs.take g) hq'
        have fail : Zur (cs.take g) cs[g].2 q = false → (Zan.bool false = Zan.bool (Zir cs) ∧ Zbe h.length h h4) := fun hf => ⟨by rw [Zjd hgl (by rw [hcl]; unfold Zyd; exact Zin hq' hf)], hS4⟩
        have next : Zur (cs.take g) cs[g].2 q = true → R7 (some (i, o)) n c e (g : Int) h'.length 0 (some (i, o)) n c e (n : Int) (g : Int) (cs[g].2.length : Int) (IntKind.wrap .i64 ((q : Int) + 1)) h4 := fun ht => by
          rw [Zbs (by omega)]
          exact hR7 (q + 1) _ _ (by omega) ⟨rfl, by omega, hS4, hI4, Zfw hk3 ht⟩
        refine Zbv (fun hb => fail (by rw [hsa, hb]; rfl)) (fun hb => ?_)
        refine Zap (fun h0 => ?_) (fun h0 => ?_)
        · have h0' : 0 < q := by omega
          rw [Zpt h0' (by omega)]
          refine ⟨⟨by omega, by omega⟩, ⟨by omega, by omega⟩, ?_⟩
          simp only [Int.toNat_natCast]
          have hd1 : cs[g].2.getD q 0 = cs[g].2[q] := Zez hq'
          have hq0 : (q == 0) = false := by simp; omega
          refine Zap (fun h1 => fail ?_) (fun h1 => Zcm.J11i _ _ _ _ _ _ _ _ _ _ _ _ _ _ _ _ _ _ _ (next ?_))
          · rw [hsa, hb, hq0, ← hd1]; simp only [Bool.true_and, Bool.false_or, decide_eq_false_iff_not]; omega
          · rw [hsa, hb, hq0, ← hd1]; simp only [Bool.true_and, Bool.false_or, decide_eq_true_eq]; omega
        · have : q = 0 := by omega
          subst this
          exact Zcm.J11i _ _ _ _ _ _ _ _ _ _ _ _ _ _ _ _ _ _ _ (next (by rw [hsa, hb]; rfl))
      · apply Zcm.A7x2i
        apply Zcm.J12i
        have : q = cs[g].2.length := by omega
        subst this
        rw [Zbs (by omega)]
        exact hR (g + 1) _ _ (by omega) ⟨rfl, by omega, hS3, Zfw hk (by rw [hcl]; exact hk3)⟩
    refine Zbv (fun hb => ⟨by rw [Zjd hgl (by rw [hcl, hb]; rfl)], hS2⟩) (fun hb => ?_)
    refine Zap (fun h0 => ?_) (fun h0 => ?_)
    · have h0' : 0 < g := by omega
      rw [Zpt h0' (by omega)]
      obtain ⟨i', o', hgl', heq, _, _, hc0, _⟩ := (r.same hS2).pr (k := g - 1) (by omega)
      cases heq
      simp only [Zax, Int.toNat_natCast, hc0, Zag, Nat.add_zero, Nat.zero_add, hcell, List.getElem?_cons_zero, true_and]
      refine ⟨by omega, ?_⟩
      have hg0 : (g == 0) = false := by simp; omega
      have hgd : cs.getD (g - 1) ([], []) = cs[g - 1] := Zez hgl'
      refine Zbv (fun hb2 => ⟨by rw [Zjd hgl (by rw [hcl, hb, hg0, hgd, hb2]; rfl)], hS2⟩) (fun hb2 => key (by rw [hb, hg0, hgd, hb2]; rfl))
    · have : g = 0 := by omega
      subst this
      exact key (by rw [hb]; rfl)
  · apply Zcm.A2x0i
    have : g = n := by omega
    subst this
    have hok : Zir cs = decide (1 ≤ g ∧ g ≤ 4) := by unfold Zir; rw [hl, hk, Bool.true_and]
    refine Yae.mono ?_
    rintro v h2 ⟨rfl, rfl⟩
    simp only [Zai]
    refine ⟨?_, hS⟩
    rw [hok]; congr 1; rw [Bool.eq_iff_iff]; simp; omega
end Go.Sim

set_option linter.unusedVariables false
set_option linter.unusedSimpArgs false
set_option maxRecDepth 20000
namespace Go.Sim
open Go Go.RowKit

theorem Yly (c : Nat) : decide (c ∈ [120, 121, 122, 88, 89, 90]) = Zcv c := by rw [Bool.eq_iff_iff]; simp [Zcv, or_assoc]
theorem Zxb {h : Zaa} (s : List Nat) : Zad pg Zjm [.str s] h fun v h' => v = .bool (Ziu s) ∧ h' = h := by
  apply Zsc.call
  match s with
  | [] => exact Zfe (fun h1 => by simp at h1) (fun h1 => ⟨rfl, rfl⟩)
  | [c] =>
    refine Zfe (fun h1 => ?_) (fun h1 => by simp at h1)
    refine Zle.mono ?_
    rintro v h' ⟨rfl, rfl⟩
    simp only [Zai]
    exact ⟨by rw [Yly]; rfl, by trivial⟩
  | c :: d :: r => exact Zfe (fun h1 => by simp at h1; omega) (fun h1 => ⟨rfl, rfl⟩)
theorem Zmr {h : Zaa} (c : Nat) : Zad pg Zff [.int .u8 (c : Int)] h fun v h' => v = .bool (Zcv c) ∧ h' = h := by
  apply Zlr.call
  refine (Zwk _ c (by simp)).mono ?_
  rintro v h' ⟨rfl, rfl⟩
  simp only [Zao]
  exact ⟨by rw [Yle], by trivial⟩
noncomputable def Ykr (s v : List Nat) : Int := if Zls s && Ziu v then (s.count (v.headD 0) : Nat) else -1
theorem Zza {h : Zaa} (s v : List Nat) (hs : s.length ≤ 1048576) : Zad pg Zkv [.str s, .str v] h fun x h' => x = .int .i64 (Ykr s v) ∧ Zbe h.length h h' := by
  apply Zdz.call
  refine (Zia s (by omega) h).mono ?_
  rintro x h1 ⟨rfl, s1⟩
  simp only [Zai]
  refine Zbv (fun hb => ⟨by unfold Ykr; rw [hb]; rfl, s1⟩) (fun hb => ?_)
  match v with
  | [] => exact Zer (fun _ => ⟨by unfold Ykr; rw [hb]; rfl, s1⟩) (fun h1 => by simp at h1)
  | c :: d :: r => exact Zer (fun _ => ⟨by unfold Ykr; rw [hb]; rfl, s1⟩) (fun h1 => by simp at h1; omega)
  | [c] =>
    refine Zer (fun h1 => by simp at h1) (fun _ => ?_)
    refine ⟨⟨by omega, by simp⟩, ?_⟩
    simp only [Int.toNat_zero, List.getD_cons_zero]
    refine (Zmr c).mono ?_
    rintro x h2 ⟨rfl, rfl⟩
    simp only [Zai]
    refine Zbv (fun hv => ⟨by unfold Ykr; rw [hb, show Ziu [c] = Zcv c from rfl, hv]; rfl, s1⟩) (fun hv => ?_)
    apply Zdz.J3i
    refine Zdz.L5ind _ _ _ _ (J := fun (g : Nat) x5 x23 h' => x23 = (g : Int) ∧ g ≤ s.length ∧ x5 = ((s.take g).count c : Nat) ∧ h' = h2) (fun g => s.length - g) ?_ 0 _ _ _ ⟨rfl, by omega, by simp, rfl⟩
    rintro g x5 x23 h' ⟨rfl, hg, rfl, rfl⟩ R hR
    unfold Zdz.L5t
    refine Zap (fun hlt => ?_) (fun hge => ?_)
    · have hg' : g < s.length := by omega
      refine ⟨⟨by omega, by omega⟩, ⟨by omega, by simp⟩, ?_⟩
      simp only [Int.toNat_zero, List.getD_cons_zero, Int.toNat_natCast, Zez hg']
      have hc := List.count_le_length (a := c) (l := s.take g)
      rw [List.length_take] at hc
      have htk : (s.take (g + 1)).count c = (s.take g).count c + if s[g] = c then 1 else 0 := by
        rw [List.take_succ_eq_append_getElem hg', List.count_append]; simp [List.count_cons]
      refine Zfe (fun he => ?_) (fun he => ?_)
      · apply Zdz.J9i
        rw [Zbs (by omega), Zbs (by omega)]
        exact hR (g + 1) _ _ _ (by omega) ⟨rfl, by omega, by rw [htk, if_pos (by omega)], rfl⟩
      · apply Zdz.J9i
        rw [Zbs (by omega)]
        exact hR (g + 1) _ _ _ (by omega) ⟨rfl, by omega, by rw [htk, if_neg (by omega)]; rfl, rfl⟩
    · apply Zdz.A5x0i
      have : g = s.length := by omega
      subst this
      rw [List.take_length]
      refine ⟨?_, s1⟩
      unfold Ykr
      rw [hb, show Ziu [c] = Zcv c from rfl, hv]; rfl
theorem Zvv {h : Zaa} (s : List Nat) (hs : s.length ≤ 1048576) : Zad pg Zke [.str s] h fun v h' => v = .str (if Zls s = true then Zpn s else []) ∧ Zbe h.length h h' := by
  apply Zfn.call
  simp only [Zaz]
  have hlist : (h ++ [Zcj.cells Zcz [.str [88], .str [89], .str [90], .str [120], .str [121], .str [122]] false])[h.length]? = some (.cells Zcz [.str [88], .str [89], .str [90], .str [120], .str [121], .str [122]] false) := by simp
  refine Zfn.L3ind _ _ _ _ _ _ _ (J := fun (g : Nat) x3 x8 h' => x8 = (g : Int) ∧ g ≤ 6 ∧ Zbe h.length h h' ∧ h'[h.length]? = some (.cells Zcz [.str [88], .str [89], .str [90], .str [120], .str [121], .str [122]] false) ∧ x3 = if Zls s = true then (Zee.take g).filter fun v => decide (v ∈ s) else []) (fun g => 6 - g) ?_ 0 _ _ _
    ⟨rfl, by omega, Zas, hlist, by simp⟩
  rintro g x3 x8 h' ⟨rfl, hg, hS, hl, rfl⟩ R hR
  unfold Zfn.L3t
  refine Zap (fun hlt => ?_) (fun hge => ?_)
  · have hlt' : g < 6 := by omega
    have hc : ∃ c, Zee[g]? = some c ∧ Zcv c = true ∧ Zae h' (.ptr (some (h.length, 0 + (g : Int).toNat * 1))) = some (.str [c]) := by
      rw [Zak hl, Int.toNat_natCast]
      match g, hlt' with
      | 0, _ | 1, _ | 2, _ | 3, _ | 4, _ | 5, _ => exact ⟨_, rfl, rfl, rfl⟩
    obtain ⟨c, hc1, hcv, hc2⟩ := hc
    simp only [Zax, hc2, Zag]
    refine ⟨by omega, (Zza s [c] hs).mono ?_⟩
    rintro v h2 ⟨rfl, s2⟩
    simp only [Zao]
    have htk : Zee.take (g + 1) = Zee.take g ++ [c] := by rw [List.take_succ, hc1]; rfl
    have hS2 := hS.trans (s2.mono hS.le)
    have hl2 : h2[h.length]? = some (.cells Zcz [.str [88], .str [89], .str [90], .str [120], .str [121], .str [122]] false) := by rw [s2.eq _ (Own.lt hl)]; exact hl
    have hcn : decide (Ykr s [c] > 0) = (Zls s && decide (c ∈ s)) := by
      unfold Ykr
      rw [show Ziu [c] = Zcv c from rfl, hcv]
      cases hb : Zls s with
      | false => rfl
      | true =>
        simp only [Bool.and_self, if_true, Bool.true_and, List.headD_cons]
        rw [Bool.eq_iff_iff]; simp [List.count_pos_iff]
    have hbd : (if Zls s = true then (Zee.take g).filter fun v => decide (v ∈ s) else []).length ≤ 6 := by
      split
      · exact Nat.le_trans (List.length_filter_le _ _) (by simp; omega)
      · simp
    rw [hcn]
    refine Zen (fun hb => ?_) (fun hb => ?_)
    · simp only [Bool.and_eq_true] at hb
      refine ⟨by simp only [List.length_cons, List.length_nil]; omega, ?_⟩
      apply Zfn.J7i
      rw [Zbs (by omega)]
      refine hR (g + 1) _ _ _ (by omega) ⟨rfl, by omega, hS2, hl2, ?_⟩
      rw [if_pos hb.1, if_pos hb.1, htk, List.filter_append]; simp [hb.2]
    · apply Zfn.J7i
      rw [Zbs (by omega)]
      refine hR (g + 1) _ _ _ (by omega) ⟨rfl, by omega, hS2, hl2, ?_⟩
      cases ht : Zls s with
      | false => simp
      | true => rw [ht, Bool.true_and] at hb; rw [htk, List.filter_append]; simp; simpa using hb
  · apply Zfn.A3x0i
    have : g = 6 := by omega
    subst this
    exact ⟨rfl, hS⟩
theorem Yex {h : Zaa} (x y : List Nat) (hx : x.length ≤ 1048576) (hy : y.length ≤ 1048576) : Zad pg Zkn [.str x, .str y] h fun v h' => v = .bool (x.all fun c => decide (c ∈ y)) ∧ h' = h := by
  apply Zgm.call
  refine Zgm.L2ind _ _ _ _ (J := fun (g : Nat) x8 h' => x8 = (g : Int) ∧ g ≤ x.length ∧ h' = h ∧ (x.take g).all (fun c => decide (c ∈ y)) = true) (fun g => x.length - g) ?_ 0 _ _ ⟨rfl, by omega, rfl, by simp⟩
  rintro g x8 h' ⟨rfl, hg, rfl, hk⟩ R hR
  unfold Zgm.L2t
  refine Zap (fun hlt => ?_) (fun hge => ?_)
  · have hg' : g < x.length := by omega
    refine ⟨⟨by omega, by omega⟩, ?_⟩
    simp only [Int.toNat_natCast, Zez hg']
    refine (Zwk y x[g] (by omega)).mono ?_
    rintro v h2 ⟨rfl, rfl⟩
    simp only [Zao]
    have hix : decide (Zqv y x[g] < 0) = !decide (x[g] ∈ y) := by
      by_cases hm : x[g] ∈ y
      · have := (Zwz y x[g]).2 hm
        simp [hm]; omega
      · rw [Ztv hm]; simp [hm]
    rw [hix]
    refine Zbv (fun hb => ⟨by rw [Zpk hg' hb], by trivial⟩) (fun hb => ?_)
    rw [Zbs (by omega)]
    exact hR (g + 1) _ _ (by omega) ⟨rfl, by omega, rfl, Zfq hg' hk hb⟩
  · apply Zgm.A2x0i
    have : g = x.length := by omega
    subst this
    rw [List.take_length] at hk
    exact ⟨by rw [hk], by trivial⟩

theorem Ybs {cs : List Nd} {ct tt : List Nat} {ns : List Nd} (h1 : Zir cs = true) (h2 : Zgc cs ct = true) (h3 : Zls tt = true) (h4 : tt.length ≤ 20) (h5 : Ziu tt = false) (h6 : ns.length ≤ 3) : Zky cs ((ct, tt), ns) = ns.all (Zih cs tt) := by
  unfold Zky; simp [h1, h2, h3, h4, h5, h6]
theorem Zsj {h : Zaa} {a a1 a2 : Pt} {n c n1 c1 n2 c2 : Nat} {e e1 e2 : Bool} {cs ns : List Nd} {ct tt : List Nat} (r : Row h.length h a (n * 2) (Zfa eP cs)) (hc : n ≤ c) (hn : n ≤ 1048576) (hs : ∀ p ∈ cs, p.2.length ≤ 1048576)
    (r2 : Row h.length h a2 (n2 * 2) (Zfa eP ns)) (hn2 : n2 ≤ 1048576) (hns : ∀ p ∈ ns, p.2.length ≤ 1048576) (htt : tt.length ≤ 1048576) :
    Zad pg Zha [.agg [.slice a n c e, .slice a1 n1 c1 e1], .agg [.str ct, .str tt, .slice a2 n2 c2 e2]] h fun v h' => v = .bool (Zky cs ((ct, tt), ns)) ∧ Zbe h.length h h' := by
  have hl : cs.length = n := by have := r.1; rw [Zbk Zek] at this; omega
  have hl2 : ns.length = n2 := by have := r2.1; rw [Zbk Zek] at this; omega
  apply Zce.call
  simp only [Zaz]
  generalize hh0 : h ++ [Zcj.cells Zam [.slice a n c e, .slice a1 n1 c1 e1] false] = h0
  generalize hh1 : h0 ++ [Zcj.cells Zal [.str ct, .str tt, .slice a2 n2 c2 e2] false] = h1
  have s0 : Zbe h.length h h0 := by rw [← hh0]; exact Zas
  have s01 : Zbe h0.length h0 h1 := by rw [← hh1]; exact Zas
  have s1 : Zbe h.length h h1 := s0.trans (s01.mono s0.le)
  have hl0 : h0.length = h.length + 1 := by rw [← hh0]; simp
  have hl1 : h1.length = h.length + 2 := by rw [← hh1]; simp [hl0]
  have w1 : h1[h.length]? = some (.cells Zam [.slice a n c e, .slice a1 n1 c1 e1] false) := by rw [← hh1, Zzp (by omega), ← hh0]; simp
  have i1 : h1[h0.length]? = some (.cells Zal [.str ct, .str tt, .slice a2 n2 c2 e2] false) := by rw [← hh1]; simp
  rw [Zdt w1 (by simp)]
  simp only [List.drop_zero, List.take_succ_cons, List.take_zero, Zau, Zaf, Zah, Zaq]
  refine (Zru (r.same' s1) hc hn hs).mono ?_
  rintro v h2 ⟨rfl, s2⟩
  have S2 : Zbe h.length h h2 := s1.trans (s2.mono (by omega))
  have w2 : h2[h.length]? = some (.cells Zam [.slice a n c e, .slice a1 n1 c1 e1] false) := by rw [s2.eq _ (by omega)]; exact w1
  have i2 : h2[h0.length]? = some (.cells Zal [.str ct, .str tt, .slice a2 n2 c2 e2] false) := by rw [s2.eq _ (by omega)]; exact i1
  simp only [Zai]
  refine Zbv (fun hb => ⟨by unfold Zky; rw [hb]; rfl, S2⟩) (fun b1 => ?_)
  simp only [Nat.add_zero, Nat.zero_add, Zak w2, Zak i2, List.getElem?_cons_succ, List.getElem?_cons_zero, Zah, Zag]
  refine (Zst (r.same' S2) (by omega)).mono ?_
  rintro v h3 ⟨rfl, s3⟩
  have hle2 := s2.le
  have S3 : Zbe h.length h h3 := S2.trans (s3.mono S2.le)
  have i3 : h3[h0.length]? = some (.cells Zal [.str ct, .str tt, .slice a2 n2 c2 e2] false) := by rw [s3.eq _ (by omega)]; exact i2
  have w3 : h3[h.length]? = some (.cells Zam [.slice a n c e, .slice a1 n1 c1 e1] false) := by rw [s3.eq _ (by omega)]; exact w2
  simp only [Zai]
  refine Zbv (fun hb => ⟨by unfold Zky; rw [b1, hb]; rfl, S3⟩) (fun b2 => ?_)
  simp only [Zak i3, List.getElem?_cons_succ, List.getElem?_cons_zero, Zag]
  refine (Zjq tt h3).mono ?_
  rintro v h4 ⟨rfl, s4⟩
  have hle3 := s3.le
  have S4 : Zbe h.length h h4 := S3.trans (s4.mono S3.le)
  have i4 : h4[h0.length]? = some (.cells Zal [.str ct, .str tt, .slice a2 n2 c2 e2] false) := by rw [s4.eq _ (by omega)]; exact i3
  have w4 : h4[h.length]? = some (.cells Zam [.slice a n c e, .slice a1 n1 c1 e1] false) := by rw [s4.eq _ (by omega)]; exact w3
  simp only [Zai]
  refine Zbv (fun hb => ⟨by unfold Zky; rw [b1, b2, hb]; rfl, S4⟩) (fun b3 => ?_)
  simp only [Zak i4, List.getElem?_cons_succ, List.getElem?_cons_zero, Zag]
  refine Zap (fun hb => ⟨by unfold Zky; rw [b1, b2, b3]; simp [show ¬ tt.length ≤ 20 by omega], S4⟩) (fun b4 => ?_)
  refine (Zxb tt).mono ?_
  rintro v h5 ⟨rfl, rfl⟩
  simp only [Zai]
  refine Zen (fun hb => ⟨by unfold Zky; rw [hb]; simp, S4⟩) (fun b5 => ?_)
  simp only [Zak i4, List.getElem?_cons_succ, List.getElem?_cons_zero, Zah]
  refine Zap (fun hb => ⟨by unfold Zky; simp [show ¬ ns.length ≤ 3 by omega], S4⟩) (fun b6 => ?_)
  rw [Ybs b1 b2 b3 (by omega) b5 (by omega)]
  apply Zce.J3i
  simp only [Nat.zero_add, Zak i4, List.getElem?_cons_succ, List.getElem?_cons_zero, Zah]
  have hle4 := s4.le
  refine Zce.L4ind _ _ _ _ _ _ _ _ _ _ (J := fun (g : Nat) x50 h' => x50 = (g : Int) ∧ g ≤ n2 ∧ Zbe h5.length h5 h' ∧ (ns.take g).all (Zih cs tt) = true) (fun g => n2 - g) ?_ 0 _ _ ⟨rfl, by omega, Zbe.refl _ _, rfl⟩
  rintro g x50 h' ⟨rfl, hg, hS, hk⟩ R hR
  have SS : Zbe h.length h h' := S4.trans (hS.mono S4.le)
  unfold Zce.L4t
  refine Zap (fun hlt => ?_) (fun hge => ?_)
  · obtain ⟨i, o, hgl, rfl, hil, hr, _⟩ := (r2.same SS).pr (k := g) (by omega)
    simp only [Zax, Int.toNat_natCast, hr, Zau, Zaf, Zaq, Zag, Zaz]
    rw [Zfi]
    have hlh := hS.le
    generalize hq : h' ++ [Zcj.cells Zar [.str ns[g].1, .str ns[g].2] false] = hq'
    have sq : Zbe h'.length h' hq' := by rw [← hq]; exact Zas
    have hql : hq'.length = h'.length + 1 := by rw [← hq]; simp
    have nq : hq'[h'.length]? = some (.cells Zar [.str ns[g].1, .str ns[g].2] false) := by rw [← hq]; simp
    have wq : hq'[h.length]? = some (.cells Zam [.slice a n c e, .slice a1 n1 c1 e1] false) := by rw [sq.eq _ (by omega), hS.eq _ (by omega)]; exact w4
    have iq : hq'[h0.length]? = some (.cells Zal [.str ct, .str tt, .slice (some (i, o)) n2 c2 e2] false) := by rw [sq.eq _ (by omega), hS.eq _ (by omega)]; exact i4
    simp only [Zav, Nat.add_zero, Nat.zero_add, Zak wq, Zak nq, List.getElem?_cons_succ, List.getElem?_cons_zero, Zah, Zag]
    have Sq : Zbe h.length h hq' := SS.trans (sq.mono SS.le)
    refine ⟨by omega, (Zst (r.same' Sq) (by omega)).mono ?_⟩
    rintro v k3 ⟨rfl, t3⟩
    have T3 := Sq.trans (t3.mono Sq.le)
    have n3 : k3[h'.length]? = some (.cells Zar [.str ns[g].1, .str ns[g].2] false) := by rw [t3.eq _ (by omega)]; exact nq
    simp only [Zai]
    have fail : ∀ hx, Zbe h.length h hx → Zih cs tt ns[g] = false → (Zan.bool false = Zan.bool (ns.all (Zih cs tt)) ∧ Zbe h.length h hx) := fun hx hs hf => ⟨by rw [Zpk hgl hf], hs⟩
    refine Zbv (fun hb => fail _ T3 (by unfold Zih; rw [hb]; rfl)) (fun m1 => ?_)
    simp only [Zak n3, List.getElem?_cons_succ, List.getElem?_cons_zero, Zag]
    refine (Zjq _ k3).mono ?_
    rintro v k4 ⟨rfl, t4⟩
    have ht3 := t3.le
    have T4 := T3.trans (t4.mono T3.le)
    have n4 : k4[h'.length]? = some (.cells Zar [.str ns[g].1, .str ns[g].2] false) := by rw [t4.eq _ (by omega)]; exact n3
    simp only [Zai]
    refine Zbv (fun hb => fail _ T4 (by unfold Zih; rw [m1, hb]; rfl)) (fun m2 => ?_)
    simp only [Zak n4, List.getElem?_cons_succ, List.getElem?_cons_zero, Zag]
    refine Zap (fun hb => fail _ T4 (by unfold Zih; simp [show ¬ ns[g].2.length ≤ 20 by omega])) (fun m3 => ?_)
    apply Zce.J8i
    simp only [Nat.zero_add, Zak n4, List.getElem?_cons_succ, List.getElem?_cons_zero, Zag]
    refine (Ylg _ k4).mono ?_
    rintro v k5 ⟨t5, av, nv, cv, ev, rfl, hrow⟩
    simp only [Zah]
    have ht4 := t4.le
    have ht5 := t5.le
    have T5 := T4.trans (t5.mono T4.le)
    have hvl : (Zpn ns[g].2).length = nv := by have := hrow.1; simpa using this
    have hv6 : (Zpn ns[g].2).length ≤ 6 := List.length_filter_le _ _
    have hni : Zih cs tt ns[g] = (Zpn ns[g].2).all fun v => decide (v ∈ tt) := by unfold Zih; rw [m1, m2]; simp [show ns[g].2.length ≤ 20 by omega]
    have i5 : k5[h0.length]? = some (.cells Zal [.str ct, .str tt, .slice (some (i, o)) n2 c2 e2] false) := by rw [t5.eq _ (by omega), t4.eq _ (by omega), t3.eq _ (by omega)]; exact iq
    refine Zce.L9ind _ _ _ _ _ _ _ _ _ _ _ _ _ _ _ _ _ (J := fun (q : Nat) x76 h6 => x76 = (q : Int) ∧ q ≤ nv ∧ h6 = k5 ∧ ((Zpn ns[g].2).take q).all (fun v => decide (v ∈ tt)) = true) (fun q => nv - q) ?_ 0 _ _ ⟨rfl, by omega, rfl, rfl⟩
    rintro q x76 h6 ⟨rfl, hq6, rfl, hk6⟩ R9 hR9
    unfold Zce.L9t
    refine Zap (fun hlt6 => ?_) (fun hge6 => ?_)
    · obtain ⟨iv, ov, rfl, _, hcv⟩ := hrow.at (k := q) (by omega)
      rw [Ybt, List.getElem?_map, List.getElem?_eq_getElem (show q < (Zpn ns[g].2).length by omega)] at hcv
      simp only [Option.map_some] at hcv
      simp only [Zax, Int.toNat_natCast, Nat.mul_one, hcv, Zag, Nat.add_zero, Nat.zero_add, Zak i5, List.getElem?_cons_succ, List.getElem?_cons_zero, one]
      refine ⟨by omega, Zle.mono ?_⟩
      rintro v k7 ⟨rfl, rfl⟩
      simp only [Zai]
      refine Zbv (fun hb => fail _ T5 (by rw [hni]; exact Zpk (by omega) hb)) (fun d1 => ?_)
      rw [Zbs (by omega)]
      exact hR9 (q + 1) _ _ (by omega) ⟨rfl, by omega, rfl, Zfq (by omega) hk6 d1⟩
    · apply Zce.A9x2i
      apply Zce.J14i
      have : q = nv := by omega
      subst this
      rw [List.take_of_length_le (by omega)] at hk6
      rw [Zbs (by omega)]
      refine hR (g + 1) _ _ (by omega) ⟨rfl, by omega, ?_, Zfq hgl hk (by rw [hni]; exact hk6)⟩
      exact hS.trans ((sq.mono hS.le).trans ((t3.mono (by omega)).trans ((t4.mono (by omega)).trans (t5.mono (by omega)))))
  · apply Zce.A4x0i
    have : g = n2 := by omega
    subst this
    rw [List.take_of_length_le (by omega)] at hk
    exact ⟨by rw [hk], SS⟩
end Go.Sim

set_option linter.unusedVariables false
set_option linter.unusedSimpArgs false
set_option maxRecDepth 20000
namespace Go.Sim
open Go Go.RowKit

theorem Zzy (x t : List Nat) : ((Zpn x).all fun c => decide (c ∈ Zpn t)) = (Zpn x).all fun c => decide (c ∈ t) := by
  rw [Bool.eq_iff_iff, List.all_eq_true, List.all_eq_true]
  constructor
  · intro h c hc
    have := h c hc
    simp only [Zpn, decide_eq_true_eq, List.mem_filter] at this ⊢
    exact this.2
  · intro h c hc
    have h1 := h c hc
    have hv : c ∈ Zee := (List.mem_filter.1 hc).1
    simp only [Zpn, decide_eq_true_eq, List.mem_filter] at h1 ⊢
    exact ⟨hv, h1⟩
theorem Zri {h : Zaa} {a a1 a2 : Pt} {n c n1 c1 n2 c2 : Nat} {e e1 e2 : Bool} {cs ns : List Nd} {ct tt : List Nat} (r : Row h.length h a (n * 2) (Zfa eP cs)) (hc : n ≤ c) (hn : n ≤ 1048576) (hs : ∀ p ∈ cs, p.2.length ≤ 1048576) (hb256 : ∀ p ∈ cs, ∀ b ∈ p.1, b < 256)
    (r2 : Row h.length h a2 (n2 * 2) (Zfa eP ns)) (hn2 : n2 ≤ 1048576) (hns : ∀ p ∈ ns, p.2.length ≤ 1048576) (htt : tt.length ≤ 1048576) :
    Zad pg Zhb [.agg [.slice a n c e, .slice a1 n1 c1 e1], .agg [.str ct, .str tt, .slice a2 n2 c2 e2]] h fun v h' => v = .bool (Zky cs ((ct, tt), ns)) ∧ Zbe h.length h h' := by
  have hl : cs.length = n := by have := r.1; rw [Zbk Zek] at this; omega
  have hl2 : ns.length = n2 := by have := r2.1; rw [Zbk Zek] at this; omega
  apply Zdh.call
  simp only [Zaz]
  generalize hh0 : h ++ [Zcj.cells Zam [.slice a n c e, .slice a1 n1 c1 e1] false] = h0
  generalize hh1 : h0 ++ [Zcj.cells Zal [.str ct, .str tt, .slice a2 n2 c2 e2] false] = h1
  have s0 : Zbe h.length h h0 := by rw [← hh0]; exact Zas
  have s01 : Zbe h0.length h0 h1 := by rw [← hh1]; exact Zas
  have s1 : Zbe h.length h h1 := s0.trans (s01.mono s0.le)
  have hl0 : h0.length = h.length + 1 := by rw [← hh0]; simp
  have hl1 : h1.length = h.length + 2 := by rw [← hh1]; simp [hl0]
  have w1 : h1[h.length]? = some (.cells Zam [.slice a n c e, .slice a1 n1 c1 e1] false) := by rw [← hh1, Zzp (by omega), ← hh0]; simp
  have i1 : h1[h0.length]? = some (.cells Zal [.str ct, .str tt, .slice a2 n2 c2 e2] false) := by rw [← hh1]; simp
  simp only [Nat.add_zero, Zak w1, List.getElem?_cons_zero, Zah]
  refine (Zsd (r.same' s1) hc hn hs hb256).mono ?_
  rintro v h2 ⟨rfl, s2⟩
  have S2 : Zbe h.length h h2 := s1.trans (s2.mono (by omega))
  have w2 : h2[h.length]? = some (.cells Zam [.slice a n c e, .slice a1 n1 c1 e1] false) := by rw [s2.eq _ (by omega)]; exact w1
  have i2 : h2[h0.length]? = some (.cells Zal [.str ct, .str tt, .slice a2 n2 c2 e2] false) := by rw [s2.eq _ (by omega)]; exact i1
  simp only [Zai]
  refine Zbv (fun hb => ⟨by unfold Zky; rw [hb]; rfl, S2⟩) (fun b1 => ?_)
  rw [Zdt w2 (by simp)]
  simp only [List.drop_zero, List.take_succ_cons, List.take_zero, Zau, Zaf, Zaq, Nat.zero_add, Zak i2, List.getElem?_cons_succ, List.getElem?_cons_zero, Zah, Zag]
  refine (Zon (r.same' S2) (by omega)).mono ?_
  rintro v h3 ⟨rfl, s3⟩
  have hle2 := s2.le
  have S3 : Zbe h.length h h3 := S2.trans (s3.mono S2.le)
  have i3 : h3[h0.length]? = some (.cells Zal [.str ct, .str tt, .slice a2 n2 c2 e2] false) := by rw [s3.eq _ (by omega)]; exact i2
  have w3 : h3[h.length]? = some (.cells Zam [.slice a n c e, .slice a1 n1 c1 e1] false) := by rw [s3.eq _ (by omega)]; exact w2
  simp only [Zao, Ztw]
  refine Zbv (fun hb => ⟨by unfold Zky; rw [b1, hb]; rfl, S3⟩) (fun b2 => ?_)
  simp only [Zak i3, List.getElem?_cons_succ, List.getElem?_cons_zero, Zag]
  refine (Zia tt (by omega) h3).mono ?_
  rintro v h4 ⟨rfl, s4⟩
  have hle3 := s3.le
  have S4 : Zbe h.length h h4 := S3.trans (s4.mono S3.le)
  have i4 : h4[h0.length]? = some (.cells Zal [.str ct, .str tt, .slice a2 n2 c2 e2] false) := by rw [s4.eq _ (by omega)]; exact i3
  have w4 : h4[h.length]? = some (.cells Zam [.slice a n c e, .slice a1 n1 c1 e1] false) := by rw [s4.eq _ (by omega)]; exact w3
  simp only [Zai]
  refine Zbv (fun hb => ⟨by unfold Zky; rw [b1, b2, hb]; rfl, S4⟩) (fun b3 => ?_)
  simp only [Zak i4, List.getElem?_cons_succ, List.getElem?_cons_zero, Zag]
  refine Zap (fun hb => ⟨by unfold Zky; rw [b1, b2, b3]; simp [show ¬ tt.length ≤ 20 by omega], S4⟩) (fun b4 => ?_)
  have hvh := Ynn b3
  have hne := Ylj b3
  have htl : 0 < tt.length := by cases tt with | nil => exact absurd rfl hne | cons => simp
  refine ⟨⟨by omega, by omega⟩, ?_⟩
  have hgd : tt.getD (Int.toNat 0) 0 = tt.headD 0 := by cases tt <;> rfl
  rw [hgd]
  refine (Zmr _).mono ?_
  rintro v h5 ⟨rfl, rfl⟩
  simp only [Zai, ← hvh]
  refine Zen (fun hb => ⟨by unfold Zky; rw [hb]; simp, S4⟩) (fun b5 => ?_)
  simp only [Zak i4, List.getElem?_cons_succ, List.getElem?_cons_zero, Zah]
  refine Zap (fun hb => ⟨by unfold Zky; simp [show ¬ ns.length ≤ 3 by omega], S4⟩) (fun b6 => ?_)
  rw [Ybs b1 b2 b3 (by omega) b5 (by omega)]
  apply Zdh.J3i
  simp only [Nat.zero_add, Zak i4, List.getElem?_cons_succ, List.getElem?_cons_zero, Zah]
  have hle4 := s4.le
  refine Zdh.L4ind _ _ _ _ _ _ _ _ _ _ (J := fun (g : Nat) x50 h' => x50 = (g : Int) ∧ g ≤ n2 ∧ Zbe h5.length h5 h' ∧ (ns.take g).all (Zih cs tt) = true) (fun g => n2 - g) ?_ 0 _ _ ⟨rfl, by omega, Zbe.refl _ _, rfl⟩
  rintro g x50 h' ⟨rfl, hg, hS, hk⟩ R hR
  have SS : Zbe h.length h h' := S4.trans (hS.mono S4.le)
  unfold Zdh.L4t
  refine Zap (fun hlt => ?_) (fun hge => ?_)
  · obtain ⟨i, o, hgl, rfl, hil, hr, _⟩ := (r2.same SS).pr (k := g) (by omega)
    simp only [Zax, Int.toNat_natCast, hr, Zau, Zaf, Zaq, Zag, Zaz]
    rw [Zfi]
    have hlh := hS.le
    generalize hq : h' ++ [Zcj.cells Zar [.str ns[g].1, .str ns[g].2] false] = hq'
    have sq : Zbe h'.length h' hq' := by rw [← hq]; exact Zas
    have hql : hq'.length = h'.length + 1 := by rw [← hq]; simp
    have nq : hq'[h'.length]? = some (.cells Zar [.str ns[g].1, .str ns[g].2] false) := by rw [← hq]; simp
    have wq : hq'[h.length]? = some (.cells Zam [.slice a n c e, .slice a1 n1 c1 e1] false) := by rw [sq.eq _ (by omega), hS.eq _ (by omega)]; exact w4
    have iq : hq'[h0.length]? = some (.cells Zal [.str ct, .str tt, .slice (some (i, o)) n2 c2 e2] false) := by rw [sq.eq _ (by omega), hS.eq _ (by omega)]; exact i4
    have row : ∀ {hx : Zaa}, hx[h.length]? = some (.cells Zam [.slice a n c e, .slice a1 n1 c1 e1] false) → Zbp hx (.ptr (some (h.length, 0))) 2 = some [.slice a n c e, .slice a1 n1 c1 e1] := fun w => by rw [Zdt w (by simp)]; rfl
    simp only [Zav, Nat.add_zero, Nat.zero_add, row wq, Zak nq, List.getElem?_cons_succ, List.getElem?_cons_zero, Zau, Zaf, Zaq, Zah, Zag, true_and]
    have Sq : Zbe h.length h hq' := SS.trans (sq.mono SS.le)
    refine ⟨by omega, (Zon (r.same' Sq) (by omega)).mono ?_⟩
    rintro v k3 ⟨rfl, t3⟩
    have T3 := Sq.trans (t3.mono Sq.le)
    have n3 : k3[h'.length]? = some (.cells Zar [.str ns[g].1, .str ns[g].2] false) := by rw [t3.eq _ (by omega)]; exact nq
    have w3' : k3[h.length]? = some (.cells Zam [.slice a n c e, .slice a1 n1 c1 e1] false) := by rw [t3.eq _ (by omega)]; exact wq
    have i3' : k3[h0.length]? = some (.cells Zal [.str ct, .str tt, .slice (some (i, o)) n2 c2 e2] false) := by rw [t3.eq _ (by omega)]; exact iq
    have ht3 := t3.le
    simp only [Zao, Ztw, row w3', Zak n3, List.getElem?_cons_succ, List.getElem?_cons_zero, Zag, true_and]
    have fail : ∀ hx, Zbe h.length h hx → Zih cs tt ns[g] = false → (Zan.bool false = Zan.bool (ns.all (Zih cs tt)) ∧ Zbe h.length h hx) := fun hx hs hf => ⟨by rw [Zpk hgl hf], hs⟩
    refine Zbv (fun hb => fail _ T3 (by unfold Zih; rw [hb]; rfl)) (fun m1 => ?_)
    have hnl := hns ns[g] (List.getElem_mem hgl)
    refine (Zia _ (by omega) k3).mono ?_
    rintro v k4 ⟨rfl, t4⟩
    have T4 := T3.trans (t4.mono T3.le)
    have ht4 := t4.le
    have n4 : k4[h'.length]? = some (.cells Zar [.str ns[g].1, .str ns[g].2] false) := by rw [t4.eq _ (by omega)]; exact n3
    have w4' : k4[h.length]? = some (.cells Zam [.slice a n c e, .slice a1 n1 c1 e1] false) := by rw [t4.eq _ (by omega)]; exact w3'
    have i4' : k4[h0.length]? = some (.cells Zal [.str ct, .str tt, .slice (some (i, o)) n2 c2 e2] false) := by rw [t4.eq _ (by omega)]; exact i3'
    simp only [Zai, row w4', Zak n4, Zak i4', List.getElem?_cons_succ, List.getElem?_cons_zero, Zag, true_and]
    refine Zbv (fun hb => fail _ T4 (by unfold Zih; rw [m1, hb]; rfl)) (fun m2 => ?_)
    refine Zap (fun hb => fail _ T4 (by unfold Zih; simp [show ¬ ns[g].2.length ≤ 20 by omega])) (fun m3 => ?_)
    refine (Zvv _ hnl).mono ?_
    rintro v k5 ⟨rfl, t5⟩
    have T5 := T4.trans (t5.mono T4.le)
    have ht5 := t5.le
    have n5 : k5[h'.length]? = some (.cells Zar [.str ns[g].1, .str ns[g].2] false) := by rw [t5.eq _ (by omega)]; exact n4
    have w5' : k5[h.length]? = some (.cells Zam [.slice a n c e, .slice a1 n1 c1 e1] false) := by rw [t5.eq _ (by omega)]; exact w4'
    have i5' : k5[h0.length]? = some (.cells Zal [.str ct, .str tt, .slice (some (i, o)) n2 c2 e2] false) := by rw [t5.eq _ (by omega)]; exact i4'
    simp only [row w5', Zak n5, Zak i5', List.getElem?_cons_succ, List.getElem?_cons_zero, Zag, true_and]
    refine (Zvv _ htt).mono ?_
    rintro v k6 ⟨rfl, t6⟩
    have T6 := T5.trans (t6.mono T5.le)
    have ht6 := t6.le
    have n6 : k6[h'.length]? = some (.cells Zar [.str ns[g].1, .str ns[g].2] false) := by rw [t6.eq _ (by omega)]; exact n5
    have w6' : k6[h.length]? = some (.cells Zam [.slice a n c e, .slice a1 n1 c1 e1] false) := by rw [t6.eq _ (by omega)]; exact w5'
    have i6' : k6[h0.length]? = some (.cells Zal [.str ct, .str tt, .slice (some (i, o)) n2 c2 e2] false) := by rw [t6.eq _ (by omega)]; exact i5'
    simp only [row w6', Zak n6, Zak i6', List.getElem?_cons_succ, List.getElem?_cons_zero, Zag, true_and]
    rw [if_pos m2, if_pos b3]
    have hvb : ∀ s, (Zpn s).length ≤ 6 := fun s => List.length_filter_le _ _
    have hv1 := hvb ns[g].2
    have hv2 := hvb tt
    refine (Yex _ _ (by omega) (by omega)).mono ?_
    rintro v k7 ⟨rfl, rfl⟩
    have hni : Zih cs tt ns[g] = (Zpn ns[g].2).all fun v => decide (v ∈ tt) := by unfold Zih; rw [m1, m2]; simp [show ns[g].2.length ≤ 20 by omega]
    simp only [Zai, row w6', Zak n6, Zak i6', List.getElem?_cons_succ, List.getElem?_cons_zero, Zag, true_and, Zzy, ← hni]
    refine Zbv (fun hb => fail _ T6 hb) (fun m4 => ?_)
    apply Zdh.J8i
    rw [Zbs (by omega)]
    refine hR (g + 1) _ _ (by omega) ⟨rfl, by omega, ?_, Zfq hgl hk m4⟩
    exact hS.trans ((sq.mono hS.le).trans ((t3.mono (by omega)).trans ((t4.mono (by omega)).trans ((t5.mono (by omega)).trans (t6.mono (by omega))))))
  · apply Zdh.A4x0i
    have : g = n2 := by omega
    subst this
    rw [List.take_of_length_le (by omega)] at hk
    exact ⟨by rw [hk], SS⟩
end Go.Sim

set_option linter.unusedVariables false
set_option linter.unusedSimpArgs false
set_option maxRecDepth 20000
namespace Go.Sim
open Go Go.RowKit

structure WB (w : Wd) : Prop where
  lc : w.cs.length ≤ 1048576
  li : w.is.length ≤ 1048576
  cs : ∀ p ∈ w.cs, p.1.length ≤ 1048576 ∧ p.2.length ≤ 1048576 ∧ ∀ b ∈ p.1, b < 256
  is : ∀ i ∈ w.is, i.1.1.length ≤ 1048576 ∧ i.1.2.length ≤ 1048576 ∧ i.2.length ≤ 1048576 ∧ ∀ p ∈ i.2, p.1.length ≤ 1048576 ∧ p.2.length ≤ 1048576
def Zsn (a0 : Pt) (n0 c0 : Nat) (e0 : Bool) (a1 : Pt) (n1 c1 : Nat) (e1 : Bool) : Zcj := .cells Zam [.slice a0 n0 c0 e0, .slice a1 n1 c1 e1] false
theorem Ybw {h : Zaa} {j : Nat} {a0 a1 : Pt} {n0 c0 n1 c1 : Nat} {e0 e1 : Bool} (hj : h[j]? = some (Zsn a0 n0 c0 e0 a1 n1 c1 e1)) : Zbp h (.ptr (some (j, 0))) 2 = some [.slice a0 n0 c0 e0, .slice a1 n1 c1 e1] := by
  rw [Zdt (show h[j]? = some (.cells Zam [.slice a0 n0 c0 e0, .slice a1 n1 c1 e1] false) from hj) (by simp)]; rfl
theorem Zxz {h : Zaa} {j o : Nat} {a0 a1 : Pt} {n0 c0 n1 c1 : Nat} {e0 e1 : Bool} (hj : h[j]? = some (Zsn a0 n0 c0 e0 a1 n1 c1 e1)) : Zae h (.ptr (some (j, o))) = ([.slice a0 n0 c0 e0, .slice a1 n1 c1 e1] : List Zan)[o]? := Zak (show h[j]? = some (.cells Zam [.slice a0 n0 c0 e0, .slice a1 n1 c1 e1] false) from hj)
theorem Zbe.get {b : Nat} {h h' : Zaa} {j : Nat} {x : Zcj} (s : Zbe b h h') (hj : h[j]? = some x) (hb : j < b) : h'[j]? = some x := by rw [s.eq j hb]; exact hj
theorem Zbe.cat {h h1 h2 : Zaa} (a : Zbe h.length h h1) (b : Zbe h1.length h1 h2) : Zbe h.length h h2 := a.trans (b.mono a.le)

theorem Yip {h : Zaa} {t : TypeId} {x y : Zan} : Zbp (h ++ [.cells t [x, y] false]) (.ptr (some (h.length, 0))) 2 = some [x, y] := Zxh rfl
theorem Ymm {h : Zaa} {t : TypeId} {x y z : Zan} : Zbp (h ++ [.cells t [x, y, z] false]) (.ptr (some (h.length, 0))) 3 = some [x, y, z] := Zxh rfl
theorem Ybg {h : Zaa} {a0 a1 a2 : Pt} {n0 c0 n1 c1 n2 c2 j : Nat} {e0 e1 e2 : Bool} {w : Wd} {ns : List Nd} {ct tt : List Nat} (r : Zpe h a0 n0 c0 a1 n1 c1 w) (b : WB w) (hj : h[j]? = some (Zsn a0 n0 c0 e0 a1 n1 c1 e1))
    (r2 : Row h.length h a2 (n2 * 2) (Zfa eP ns)) (hn2 : n2 ≤ 1048576) (hns : ∀ p ∈ ns, p.2.length ≤ 1048576) (htt : tt.length ≤ 1048576) :
    Zad pg Zbu [.agg [.str ct, .str tt, .slice a2 n2 c2 e2], .ptr (some (j, 0))] h fun v h' => v = .bool (!Zky w.cs ((ct, tt), ns)) ∧ Zbe h.length h h' := by
  apply Ziv.call
  simp only [Zaz]
  have s1 : Zbe h.length h (h ++ [.cells Zal [.str ct, .str tt, .slice a2 n2 c2 e2] false]) := Zas
  rw [Ybw (s1.get hj (Own.lt hj)), Ymm]
  simp only [Zau, Zaf, Zaq, Zah, Zag]
  have hlc := b.lc
  have hl0 := r.len0
  refine (Zsj (r.cls.same' s1) r.le0 (by omega) (fun p hp => (b.cs p hp).2.1) (r2.same' s1) hn2 hns htt).mono ?_
  rintro v h2 ⟨rfl, s2⟩
  simp only [Zai]
  exact ⟨by trivial, s1.cat s2⟩
theorem Yau {h : Zaa} {a0 a1 : Pt} {n0 c0 n1 c1 j : Nat} {e0 e1 : Bool} {w : Wd} (r : Zpe h a0 n0 c0 a1 n1 c1 w) (b : WB w) (hj : h[j]? = some (Zsn a0 n0 c0 e0 a1 n1 c1 e1)) :
    Zad pg Zcn [.slice a1 n1 c1 e1, .fn Zbu [.ptr (some (j, 0))]] h fun v h' => (∃ z : Int, v = .int .i64 z ∧ decide (z ≥ 0) = !w.is.all (Zky w.cs)) ∧ Zbe h.length h h' := by
  have hl := r.len1
  have hli := b.li
  apply Zba.call
  refine Zba.L2ind _ _ _ _ _ _ _ (J := fun (g : Nat) x8 h' => x8 = (g : Int) ∧ g ≤ n1 ∧ Zbe h.length h h' ∧ (w.is.take g).all (Zky w.cs) = true) (fun g => n1 - g) ?_ 0 _ _ ⟨rfl, by omega, Zbe.refl _ _, rfl⟩
  rintro g x8 h' ⟨rfl, hg, hS, hk⟩ R hR
  unfold Zba.L2t
  refine Zap (fun hlt => ?_) (fun hge => ?_)
  · obtain ⟨i, o, hgl, a2, n2, c2, e2, rfl, _, hr, _, _, _, hrow, hn⟩ := (r.same hS).inst (k := g) (by omega)
    simp only [Zax, Int.toNat_natCast, hr, Zau, Zaf, Zaq, Zag, Zah]
    have hb := b.is _ (List.getElem_mem hgl)
    refine ⟨by omega, (Ybg (r.same hS) b (hS.get hj (Own.lt hj)) hrow (by omega) (fun p hp => (hb.2.2.2 p hp).2) hb.2.1).mono ?_⟩
    rintro v h2 ⟨rfl, s2⟩
    simp only [Zai]
    have hS2 := hS.cat s2
    refine Zbv (fun he => ?_) (fun he => ?_)
    · exact ⟨⟨_, rfl, by rw [Zpk hgl he]; simp⟩, hS2⟩
    · rw [Zbs (by omega)]
      exact hR (g + 1) _ _ (by omega) ⟨rfl, by omega, hS2, Zfq hgl hk he⟩
  · apply Zba.A2x0i
    have : g = n1 := by omega
    subst this
    rw [List.take_of_length_le (by omega)] at hk
    exact ⟨⟨_, rfl, by rw [hk]; rfl⟩, hS⟩
theorem Zwu {h : Zaa} {a0 a1 : Pt} {n0 c0 n1 c1 : Nat} {e0 e1 : Bool} {w : Wd} (r : Zpe h a0 n0 c0 a1 n1 c1 w) (b : WB w) :
    Zad pg Ziz [.agg [.slice a0 n0 c0 e0, .slice a1 n1 c1 e1]] h fun v h' => v = .bool (Zfy w) ∧ Zbe h.length h h' := by
  have hl0 := r.len0
  have hl1 := r.len1
  have hlc := b.lc
  apply Zmf.call
  simp only [Zaz]
  generalize hh0 : h ++ [Zcj.cells Zam [.slice a0 n0 c0 e0, .slice a1 n1 c1 e1] false] = h0
  have s0 : Zbe h.length h h0 := by rw [← hh0]; exact Zas
  have w0 : h0[h.length]? = some (Zsn a0 n0 c0 e0 a1 n1 c1 e1) := by rw [← hh0]; simp [Zsn]
  rw [Ybw w0]
  simp only [Zau, Zaf, Zaq, Zah]
  refine (Zru (r.cls.same' s0) r.le0 (by omega) (fun p hp => (b.cs p hp).2.1)).mono ?_
  rintro v h2 ⟨rfl, s2⟩
  have S2 := s0.cat s2
  have w2 := s2.get w0 (Own.lt w0)
  simp only [Zai]
  refine Zen (fun b1 => ?_) (fun b1 => ⟨by unfold Zfy; rw [b1]; rfl, S2⟩)
  simp only [Zxz w2, Nat.zero_add, List.getElem?_cons_succ, List.getElem?_cons_zero, Zah]
  refine Zap (fun b2 => ?_) (fun b2 => ⟨by unfold Zfy; rw [b1]; simp [show ¬ w.is.length ≤ 10 by omega], S2⟩)
  apply Zcd.call
  refine (Yau (r.same S2) b w2).mono ?_
  rintro v h3 ⟨⟨z, rfl, hz⟩, s3⟩
  simp only [Zao, Zai]
  refine ⟨?_, S2.cat s3⟩
  rw [hz, Bool.not_not]
  unfold Zfy
  rw [b1]; simp [show w.is.length ≤ 10 by omega]
theorem Zuu {h : Zaa} {a0 a1 : Pt} {n0 c0 n1 c1 : Nat} {e0 e1 : Bool} {w : Wd} (r : Zpe h a0 n0 c0 a1 n1 c1 w) (b : WB w) :
    Zad pg Zjb [.agg [.slice a0 n0 c0 e0, .slice a1 n1 c1 e1]] h fun v h' => v = .bool (Zfy w) ∧ Zbe h.length h h' := by
  have hl0 := r.len0
  have hl1 := r.len1
  have hlc := b.lc
  have hli := b.li
  apply Zfd.call
  simp only [Zaz]
  generalize hh0 : h ++ [Zcj.cells Zam [.slice a0 n0 c0 e0, .slice a1 n1 c1 e1] false] = h0
  have s0 : Zbe h.length h h0 := by rw [← hh0]; exact Zas
  have w0 : h0[h.length]? = some (Zsn a0 n0 c0 e0 a1 n1 c1 e1) := by rw [← hh0]; simp [Zsn]
  simp only [Zxz w0, Nat.zero_add, List.getElem?_cons_succ, List.getElem?_cons_zero, Zah]
  refine Zfd.L2ind _ _ _ _ _ _ _ _ (J := fun (g : Nat) x8 h' => x8 = (g : Int) ∧ g ≤ n1 ∧ Zbe h0.length h0 h' ∧ (w.is.take g).all (Zky w.cs) = true) (fun g => n1 - g) ?_ 0 _ _ ⟨rfl, by omega, Zbe.refl _ _, rfl⟩
  rintro g x8 h' ⟨rfl, hg, hS, hk⟩ R hR
  have SS := s0.cat hS
  have w1 := hS.get w0 (Own.lt w0)
  unfold Zfd.L2t
  refine Zap (fun hlt => ?_) (fun hge => ?_)
  · obtain ⟨i, o, hgl, a2, n2, c2, e2, rfl, _, hr, _, _, _, hrow, hn⟩ := (r.same SS).inst (k := g) (by omega)
    simp only [Zax, Int.toNat_natCast, hr, Zau, Zaf, Zaq, Zag, Zah, Zaz]
    rw [Yfl]
    generalize hq : h' ++ [Zcj.cells Zal [.str w.is[g].1.1, .str w.is[g].1.2, .slice a2 n2 c2 e2] false] = hq'
    have sq : Zbe h'.length h' hq' := by rw [← hq]; exact Zas
    simp only [Zav]
    rw [Ybw (sq.get w1 (Own.lt w1)), ← hq, Ymm, hq]
    simp only [Zau, Zaf, Zaq, Zag, Zah]
    have hb := b.is _ (List.getElem_mem hgl)
    have Sq := SS.cat sq
    refine ⟨by omega, (Zri (r.cls.same' Sq) r.le0 (by omega) (fun p hp => (b.cs p hp).2.1) (fun p hp => (b.cs p hp).2.2) (hrow.same' sq) (by omega) (fun p hp => (hb.2.2.2 p hp).2) hb.2.1).mono ?_⟩
    rintro v h2 ⟨rfl, s2⟩
    simp only [Zai]
    refine Zbv (fun he => ?_) (fun he => ?_)
    · exact ⟨by unfold Zfy; rw [Zpk hgl he]; simp, Sq.cat s2⟩
    · rw [Zbs (by omega)]
      exact hR (g + 1) _ _ (by omega) ⟨rfl, by omega, (hS.cat sq).cat s2, Zfq hgl hk he⟩
  · apply Zfd.A2x0i
    have : g = n1 := by omega
    subst this
    rw [List.take_of_length_le (by omega)] at hk
    simp only [Zxz w1, Nat.zero_add, List.getElem?_cons_zero, Zah]
    refine (Zsd (r.cls.same' SS) r.le0 (by omega) (fun p hp => (b.cs p hp).2.1) (fun p hp => (b.cs p hp).2.2)).mono ?_
    rintro v h2 ⟨rfl, s2⟩
    simp only [Zai]
    have w2 := s2.get w1 (Own.lt w1)
    refine Zen (fun b1 => ?_) (fun b1 => ⟨by unfold Zfy; rw [b1]; rfl, SS.cat s2⟩)
    simp only [Zxz w2, Nat.zero_add, List.getElem?_cons_succ, List.getElem?_cons_zero, Zah]
    refine ⟨?_, SS.cat s2⟩
    unfold Zfy
    rw [b1, hk]; congr 1; rw [Bool.eq_iff_iff]; simp; omega
theorem Yfm {h : Zaa} {a0 a1 : Pt} {n0 c0 n1 c1 : Nat} {e0 e1 : Bool} {w : Wd} {ct tt : List Nat} (r : Zpe h a0 n0 c0 a1 n1 c1 w) (b : WB w) :
    Zad pg Zmw [.agg [.slice a0 n0 c0 e0, .slice a1 n1 c1 e1], .agg [.str ct, .str tt]] h fun v h' => v = .bool (Zfz w (ct, tt)) ∧ Zbe h.length h h' := by
  have hl0 := r.len0
  have hlc := b.lc
  apply Zqj.call
  simp only [Zaz]
  generalize hh0 : h ++ [Zcj.cells Zam [.slice a0 n0 c0 e0, .slice a1 n1 c1 e1] false] = h0
  generalize hh1 : h0 ++ [Zcj.cells Zar [.str ct, .str tt] false] = h1
  have s0 : Zbe h.length h h0 := by rw [← hh0]; exact Zas
  have s1 : Zbe h0.length h0 h1 := by rw [← hh1]; exact Zas
  have w0 : h0[h.length]? = some (Zsn a0 n0 c0 e0 a1 n1 c1 e1) := by rw [← hh0]; simp [Zsn]
  have w1 := s1.get w0 (Own.lt w0)
  have i1 : h1[h0.length]? = some (.cells Zar [.str ct, .str tt] false) := by rw [← hh1]; simp
  simp only [Zxz w1, Zak i1, Nat.zero_add, List.getElem?_cons_zero, List.getElem?_cons_succ, Zah, Zag]
  refine (Zst (r.cls.same' (s0.cat s1)) (by omega)).mono ?_
  rintro v h2 ⟨rfl, s2⟩
  simp only [Zai]
  have i2 := s2.get i1 (Own.lt i1)
  refine Zen (fun b1 => ?_) (fun b1 => ⟨by unfold Zfz; rw [b1]; rfl, (s0.cat s1).cat s2⟩)
  simp only [Zak i2, Nat.zero_add, List.getElem?_cons_zero, List.getElem?_cons_succ, Zah, Zag]
  refine (Zjq tt h2).mono ?_
  rintro v h3 ⟨rfl, s3⟩
  simp only [Zai]
  exact ⟨by unfold Zfz; rw [b1]; rfl, ((s0.cat s1).cat s2).cat s3⟩
theorem Yfv (cs : List Nd) (c : List Nat) : decide (Ybf cs c ≥ 0) = Zgc cs c := by
  unfold Ybf; cases h : Zgc cs c <;> simp
theorem Yhp {h : Zaa} {a0 a1 : Pt} {n0 c0 n1 c1 : Nat} {e0 e1 : Bool} {w : Wd} {ct tt : List Nat} (r : Zpe h a0 n0 c0 a1 n1 c1 w) (b : WB w) (ht : tt.length ≤ 1048576) :
    Zad pg Znc [.agg [.slice a0 n0 c0 e0, .slice a1 n1 c1 e1], .agg [.str ct, .str tt]] h fun v h' => v = .bool (Zfz w (ct, tt)) ∧ Zbe h.length h h' := by
  have hl0 := r.len0
  have hlc := b.lc
  apply Zql.call
  simp only [Zaz]
  generalize hh0 : h ++ [Zcj.cells Zam [.slice a0 n0 c0 e0, .slice a1 n1 c1 e1] false] = h0
  generalize hh1 : h0 ++ [Zcj.cells Zar [.str ct, .str tt] false] = h1
  have s0 : Zbe h.length h h0 := by rw [← hh0]; exact Zas
  have s1 : Zbe h0.length h0 h1 := by rw [← hh1]; exact Zas
  have w0 : h0[h.length]? = some (Zsn a0 n0 c0 e0 a1 n1 c1 e1) := by rw [← hh0]; simp [Zsn]
  have w1 := s1.get w0 (Own.lt w0)
  have i1 : h1[h0.length]? = some (.cells Zar [.str ct, .str tt] false) := by rw [← hh1]; simp
  rw [Ybw w1]
  simp only [Zau, Zaf, Zaq, Zak i1, Nat.zero_add, List.getElem?_cons_zero, List.getElem?_cons_succ, Zah, Zag]
  refine (Zon (r.cls.same' (s0.cat s1)) (by omega)).mono ?_
  rintro v h2 ⟨rfl, s2⟩
  simp only [Zao, Yfv]
  have i2 := s2.get i1 (Own.lt i1)
  refine Zen (fun b1 => ?_) (fun b1 => ⟨by unfold Zfz; rw [b1]; rfl, (s0.cat s1).cat s2⟩)
  simp only [Zak i2, Nat.zero_add, List.getElem?_cons_zero, List.getElem?_cons_succ, Zah, Zag]
  refine (Zia tt (by omega) h2).mono ?_
  rintro v h3 ⟨rfl, s3⟩
  simp only [Zai]
  exact ⟨by unfold Zfz; rw [b1]; rfl, ((s0.cat s1).cat s2).cat s3⟩
theorem Zyx {h : Zaa} {a0 a1 : Pt} {n0 c0 n1 c1 : Nat} {e0 e1 : Bool} {w : Wd} {ct tt : List Nat} (r : Zpe h a0 n0 c0 a1 n1 c1 w) (b : WB w) (ht : tt.length ≤ 1048576) :
    Zad pg Zjt [.agg [.slice a0 n0 c0 e0, .slice a1 n1 c1 e1], .agg [.str ct, .str tt]] h fun v h' => v = .bool (Zfy w && Zfz w (ct, tt)) ∧ Zbe h.length h h' := by
  apply Znj.call
  simp only [Zaz]
  generalize hh0 : h ++ [Zcj.cells Zam [.slice a0 n0 c0 e0, .slice a1 n1 c1 e1] false] = h0
  generalize hh1 : h0 ++ [Zcj.cells Zar [.str ct, .str tt] false] = h1
  have s0 : Zbe h.length h h0 := by rw [← hh0]; exact Zas
  have s1 : Zbe h0.length h0 h1 := by rw [← hh1]; exact Zas
  have w0 : h0[h.length]? = some (Zsn a0 n0 c0 e0 a1 n1 c1 e1) := by rw [← hh0]; simp [Zsn]
  have w1 := s1.get w0 (Own.lt w0)
  have i1 : h1[h0.length]? = some (.cells Zar [.str ct, .str tt] false) := by rw [← hh1]; simp
  rw [Ybw w1]
  simp only [Zau, Zaf, Zaq, Zah]
  refine (Zuu (r.same (s0.cat s1)) b).mono ?_
  rintro v h2 ⟨rfl, s2⟩
  simp only [Zai]
  have i2 := s2.get i1 (Own.lt i1)
  have w2 := s2.get w1 (Own.lt w1)
  refine Zen (fun b1 => ?_) (fun b1 => ⟨by rw [b1]; rfl, (s0.cat s1).cat s2⟩)
  rw [Ybw w2, Zdt i2 (by simp)]
  simp only [List.drop_zero, List.take_succ_cons, List.take_zero, Zau, Zaf, Zaq, Zah, Zag]
  refine (Yhp (r.same ((s0.cat s1).cat s2)) b ht).mono ?_
  rintro v h3 ⟨rfl, s3⟩
  simp only [Zai]
  exact ⟨by rw [b1]; rfl, ((s0.cat s1).cat s2).cat s3⟩
end Go.Sim

set_option linter.unusedVariables false
set_option linter.unusedSimpArgs false
set_option maxRecDepth 20000
namespace Go.Sim
open Go Go.RowKit

end Go.Sim

set_option linter.unusedVariables false
set_option linter.unusedSimpArgs false
set_option maxRecDepth 20000
namespace Go.Sim
open Go Go.RowKit
theorem Ydq {h : Zaa} {c t : List Nat} {x : Int} (hc : c.length ≤ 9223372036854775807) (ht : t.length ≤ 9223372036854775807) (hx : 0 ≤ x ∧ x ≤ 1048576) :
    Zad pg Zlg [.agg [.str c, .str t], .int .i64 x] h fun v h' => ∃ y, v = .int .i64 y ∧ Zbe h.length h h' ∧ (0 ≤ y → (c.length : Int) + t.length + y = x) := by
  apply Zox.call
  simp only [Zaz]
  have s1 : Zbe h.length h (h ++ [.cells Znt [.str c, .str t] false]) := Zbe.app (Nat.le_refl _) _
  simp [Zae]
  rw [IntWalk.i64_in _ (by omega)]
  refine Zap (fun hlt => s1) (fun hge => ?_)
  rw [IntWalk.i64_in _ (by omega)]
  exact Zap (fun hlt => s1) (fun hge => ⟨s1, by omega⟩)
theorem Ydr {h : Zaa} {c t c' t' : List Nat} :
    Zad pg Zlk [.agg [.str c, .str t], .agg [.str c', .str t']] h fun v h' => v = .bool (decide (c = c') && decide (t = t')) ∧ Zbe h.length h h' := by
  apply Zpc.call
  simp only [Zaz]
  simp [Zae]
  by_cases e1 : c = c' <;> by_cases e2 : t = t' <;> simp [e1, e2] <;> exact Zbe.app (Nat.le_refl _) _
theorem Ydv {h : Zaa} {c t : List Nat} :
    Zad pg Zlp [.agg [.str c, .str t]] h fun v h' => v = .agg [.str c, .str t] ∧ Zbe h.length h h' := by
  apply Zoy.call
  simp only [Zaz]
  simp [Zae, Zbd, Zbp, putRow, List.getElem?_append, List.getElem?_set]
  exact Zbe.app (Nat.le_refl _) _

theorem Zxj {h : Zaa} {a : Pt} {n c : Nat} {e : Bool} {l : List (List Nat × List Nat)} (r : Row h.length h a (n * 2) (prs l)) (hs : ∀ p ∈ l, p.1.length ≤ 9223372036854775807 ∧ p.2.length ≤ 9223372036854775807) (hn : n ≤ 9223372036854775807) {left : Int} (hl : 0 ≤ left ∧ left ≤ 1048576) :
    Zad pg Zkt [.slice a n c e, .int .i64 left] h fun v h' => ∃ x, v = .int .i64 x ∧ Zbe h.length h h' ∧ (0 ≤ x → (n : Int) + Zzf l + x = left) := by
  have hll : l.length = n := by have := r.1; rw [Zfx] at this; omega
  apply Zgf.call
  rw [IntWalk.i64_in _ (by omega)]
  refine Zap (fun hlt => ?_) (fun hge => ?_)
  · exact ⟨_, rfl, Zbe.refl _ _, by omega⟩
  · refine Zgf.L5ind _ _ _ _ _ (J := fun (g : Nat) x1 x5 h' => x5 = (g : Int) ∧ Zbe h.length h h' ∧ g ≤ n ∧ 0 ≤ x1 ∧ x1 + n + Zzf (l.take g) = left) (fun g => n - g) ?_ 0 _ 0 h ⟨rfl, Zbe.refl _ _, by omega, by omega, by simp [Zzf]⟩
    rintro g x1 x5 h' ⟨rfl, hS, hg, h0, ht⟩ R hR
    unfold Zgf.L5t
    refine Zap (fun hlt => ?_) (fun hge => ?_)
    · have hlt' : g < n := by omega
      obtain ⟨i, o, hgl, rfl, hi, hc⟩ := (r.same hS).pair hlt'
      have hsl := hs _ (List.getElem_mem hgl)
      simp only [Zax, Int.toNat_natCast, hc, Zau, Zaf, Zaq, Zag]
      refine ⟨by omega, (Ydq hsl.1 hsl.2 (by omega)).mono fun v h1 ⟨y, hv, hs1, hy⟩ => ?_⟩
      subst hv
      simp only [Zao]
      have hS1 := hS.trans (hs1.mono hS.le)
      refine Zap (fun hneg => ⟨_, rfl, hS1, by omega⟩) (fun hneg => ?_)
      rw [Zma hlt' (by omega)]
      have hyy := hy (by omega)
      refine hR (g + 1) _ _ _ (by omega) ⟨rfl, hS1, by omega, by omega, ?_⟩
      rw [Zti hgl]; omega
    · have : g = n := by omega
      subst this
      rw [List.take_of_length_le (by omega)] at ht
      exact Zgf.A5x0i _ _ _ ⟨_, rfl, hS, by omega⟩
theorem Zyc {h : Zaa} {a : Pt} {n c : Nat} {e : Bool} {l : List (List Nat × List Nat)} (r : Row h.length h a (n * 2) (prs l)) (hn : n ≤ 1048576) :
    Zad pg Zkp [.slice a n c e] h fun v h' => ∃ a' c' e', v = .slice a' n c' e' ∧ Zbe h.length h h' ∧ Zej Zbr eP h.length h' a' n l ∧ n ≤ c' := by
  have hll : l.length = n := by have := r.1; rw [Zfx] at this; omega
  apply Zgo.call
  refine ⟨rfl, rfl, by omega, ?_⟩
  simp only [Zaz, Int.toNat_natCast, Ycd]
  refine Zgo.L3ind _ _ _ _ _ _ _ _ _ (J := fun (g : Nat) x4 h' => x4 = (g : Int) ∧ g ≤ n ∧ Zbe h.length h h' ∧ h'[h.length]? = some (.cells Zbr (prs (l.take g ++ List.replicate (n - g) ([], []))) false)) (fun g => n - g) ?_ 0 0 _ ⟨rfl, by omega, Zbe.app (Nat.le_refl _) _, by simp⟩
  rintro g x4 h' ⟨rfl, hg, hs, hi⟩ R hR
  unfold Zgo.L3t
  refine Zap (fun hlt => ?_) (fun hge => ?_)
  · have hlt' : g < n := by omega
    obtain ⟨i, o, hgl, rfl, hi', hc⟩ := (r.same hs).pair hlt'
    simp only [Zax, Int.toNat_natCast, hc, Zau, Zaf, Zaq, Zag]
    refine ⟨by omega, Ydv.mono fun v h1 ⟨hv, hs1⟩ => ?_⟩
    subst hv
    have hi1 : h1[h.length]? = some (.cells Zbr (prs (l.take g ++ List.replicate (n - g) ([], []))) false) := by rw [hs1.eq _ (Own.lt hi)]; exact hi
    simp only [Zde, Zaf, Zaq, Zag, Nat.zero_add]
    have hmin : min g l.length = g := Nat.min_eq_left (by omega)
    rw [Zxm hi1 (by simp; omega)]
    simp only [Zav]
    rw [Zma hlt' (by omega)]
    have hset : (l.take g ++ List.replicate (n - g) ([], [])).take g ++ [(l[g].1, l[g].2)] ++ (l.take g ++ List.replicate (n - g) (([] : List Nat), ([] : List Nat))).drop (g + 1) = l.take (g + 1) ++ List.replicate (n - (g + 1)) ([], []) := by
      have hl1 : (l.take g).length = g := by rw [List.length_take, hmin]
      rw [List.take_left' hl1, List.take_succ_eq_append_getElem hgl, List.drop_append, hl1, List.drop_of_length_le (by omega), List.nil_append, List.drop_replicate]
      congr 2; omega
    rw [hset]
    exact ⟨⟨by omega, by omega⟩, hR (g + 1) _ _ (by omega) ⟨rfl, by omega, (hs.trans (hs1.mono hs.le)).trans (Zbe.set (Nat.le_refl _) _), Zlz hi1⟩⟩
  · have : g = n := by omega
    subst this
    rw [List.take_of_length_le (by omega), Nat.sub_self, List.replicate_zero, List.append_nil] at hi
    exact Zgo.A3x0i _ _ _ _ _ _ ⟨_, _, _, rfl, hs, ⟨hll, .inr ⟨h.length, rfl, Nat.le_refl _, hi⟩⟩, by simp⟩
theorem Zxq {h : Zaa} {a0 a1 : Pt} {n0 n1 c0 c1 : Nat} {e0 e1 : Bool} {l0 l1 : List (List Nat × List Nat)} (r0 : Row h.length h a0 (n0 * 2) (prs l0)) (r1 : Row h.length h a1 (n1 * 2) (prs l1)) (hn : n0 ≤ 4611686018427387904) (heq : l0 = l1) :
    Zad pg Zkm [.slice a0 n0 c0 e0, .slice a1 n1 c1 e1] h fun v h' => v = .bool true ∧ Zbe h.length h h' := by
  subst heq
  have hl0 : l0.length = n0 := by have := r0.1; rw [Zfx] at this; omega
  have hl1 : l0.length = n1 := by have := r1.1; rw [Zfx] at this; omega
  have : n1 = n0 := by omega
  subst this
  apply Zgg.call
  simp only [beq_self_eq_true, Bool.not_true, Zay]
  refine Zgg.L4ind _ _ _ _ _ _ _ _ _ (J := fun (k : Nat) x5 h' => Zbe h.length h h' ∧ x5 = (k : Int) ∧ k ≤ n1) (fun k => n1 - k) ?_ 0 0 h ⟨Zbe.refl _ _, rfl, by omega⟩
  rintro k x5 h' ⟨hs, rfl, hk⟩ R hR
  unfold Zgg.L4t
  refine Zap (fun hlt => ?_) (fun hge => Zgg.A4x0i _ _ ⟨rfl, hs⟩)
  have hlt' : k < n1 := by omega
  obtain ⟨i, o, hgl, rfl, _, hc0⟩ := (r0.same hs).pair hlt'
  obtain ⟨i', o', _, rfl, _, hc1⟩ := (r1.same hs).pair hlt'
  simp only [Zax, Int.toNat_natCast, hc0, hc1, Zau, Zaf, Zaq, Zag, true_and]
  refine ⟨⟨by omega, by omega⟩, ⟨by omega, by omega⟩, Ydr.mono fun v h1 ⟨hv, hs1⟩ => ?_⟩
  subst hv
  simp only [Zai, decide_true, Bool.and_self, Bool.not_true, Zay]
  rw [Zma hlt' (by omega)]
  exact hR (k + 1) _ _ (by omega) ⟨hs.trans (hs1.mono hs.le), rfl, by omega⟩

theorem Yaf {h : Zaa} {a : Pt} {n c : Nat} {e : Bool} {l : List (List Nat × List Nat)} (r : Row h.length h a (n * 2) (prs l)) (hn : n ≤ 1048576) :
    Zad pg Zlf [.slice a n c e] h fun v h' => ∃ a' c' e', v = .slice a' n c' e' ∧ Zbe h.length h h' ∧ Zej Zar eP h.length h' a' n l ∧ n ≤ c' ∧ a' ≠ none := by
  have hll : l.length = n := by have := r.1; rw [Zfx] at this; omega
  apply Zhd.call
  refine ⟨rfl, rfl, by omega, ?_⟩
  simp only [Zaz, Int.toNat_natCast, Ycd]
  refine Zhd.L3ind _ _ _ _ _ _ _ _ _ (J := fun (g : Nat) x4 h' => x4 = (g : Int) ∧ g ≤ n ∧ Zbe h.length h h' ∧ h'[h.length]? = some (.cells Zar (prs (l.take g ++ List.replicate (n - g) ([], []))) false)) (fun g => n - g) ?_ 0 0 _ ⟨rfl, by omega, Zbe.app (Nat.le_refl _) _, by simp⟩
  rintro g x4 h' ⟨rfl, hg, hs, hi⟩ R hR
  unfold Zhd.L3t
  refine Zap (fun hlt => ?_) (fun hge => ?_)
  · have hlt' : g < n := by omega
    obtain ⟨i, o, hgl, rfl, hi', hc⟩ := (r.same hs).pair hlt'
    simp only [Zax, Int.toNat_natCast, hc, Zau, Zaf, Zaq, Zag]
    refine ⟨by omega, Zqc.mono fun v h1 ⟨hv, hs1⟩ => ?_⟩
    subst hv
    have hi1 : h1[h.length]? = some (.cells Zar (prs (l.take g ++ List.replicate (n - g) ([], []))) false) := by rw [hs1.eq _ (Own.lt hi)]; exact hi
    simp only [Zde, Zaf, Zaq, Zag, Nat.zero_add]
    have hmin : min g l.length = g := Nat.min_eq_left (by omega)
    rw [Zxm hi1 (by simp; omega)]
    simp only [Zav]
    rw [Zma hlt' (by omega)]
    have hset : (l.take g ++ List.replicate (n - g) ([], [])).take g ++ [(l[g].1, l[g].2)] ++ (l.take g ++ List.replicate (n - g) (([] : List Nat), ([] : List Nat))).drop (g + 1) = l.take (g + 1) ++ List.replicate (n - (g + 1)) ([], []) := by
      have hl1 : (l.take g).length = g := by rw [List.length_take, hmin]
      rw [List.take_left' hl1, List.take_succ_eq_append_getElem hgl, List.drop_append, hl1, List.drop_of_length_le (by omega), List.nil_append, List.drop_replicate]
      congr 2; omega
    rw [hset]
    exact ⟨⟨by omega, by omega⟩, hR (g + 1) _ _ (by omega) ⟨rfl, by omega, (hs.trans (hs1.mono hs.le)).trans (Zbe.set (Nat.le_refl _) _), Zlz hi1⟩⟩
  · have : g = n := by omega
    subst this
    rw [List.take_of_length_le (by omega), Nat.sub_self, List.replicate_zero, List.append_nil] at hi
    exact Zhd.A3x0i _ _ _ _ _ _ ⟨_, _, _, rfl, hs, ⟨hll, .inr ⟨h.length, rfl, Nat.le_refl _, hi⟩⟩, by simp, by simp⟩
end Go.Sim
