/- A part of the proof of a statement of this seat: see the text that holds the theorem. No condition. -/
import Derived.Test.YtlljbdepamknoaaGreatDoorPTCTy
import Derived.Test.YtlljbdepamknoaaGreatDoorCVars
import Derived.Test.YtlljbdepamknoaaGreatDoorCTy
import Derived.Test.YtlljbdepamknoaaGreatDoorPTCWVar
import Derived.Test.YtlljbdepamknoaaGreatDoorPTCWLaw
set_option linter.unusedVariables false
set_option linter.unusedSimpArgs false
set_option linter.all false
set_option linter.unusedVariables false
set_option linter.unusedSimpArgs false
set_option maxRecDepth 20000
namespace Go.Sim
open Go Go.RowKit

theorem Zez {h : Zaa} {t : TypeId} {cs : List Zaq} {o : Nat} : Zae (h ++ [.cells t cs false]) (.ptr (some (h.length, o))) = cs[o]? := Zak (t := t) (cs := cs) (ro := false) (by simp)
theorem Yby {h : Zaa} {t : TypeId} {cs : List Zaq} {n : Nat} (hn : cs.length = n) : Zaw (h ++ [.cells t cs false]) (.ptr (some (h.length, 0))) n = some cs := by
  rw [Zds (show (h ++ [Zcg.cells t cs false])[h.length]? = some (.cells t cs false) by simp) (by omega)]; simp [← hn]
theorem Zam {h : Zaa} {x : Zcg} : Zbd h.length h (h ++ [x]) := Zbd.app (Nat.le_refl _) _
theorem Zqq {h : Zaa} {t : TypeId} {cs vs : List Zaq} (hl : cs.length = vs.length) : Zbc (h ++ [.cells t cs false]) (.ptr (some (h.length, 0))) vs = some (h ++ [.cells t vs false]) := by
  rw [Zbv (show (h ++ [Zcg.cells t cs false])[h.length]? = some (.cells t cs false) by simp) (by omega)]
  simp [putRow, hl]
theorem Zhm {h : Zaa} {t : TypeId} {x y a b : Zaq} : Zbc (h ++ [.cells t [x, y] false]) (.ptr (some (h.length, 0))) [a, b] = some (h ++ [.cells t [a, b] false]) := Zqq rfl
theorem Yrq {h : Zaa} {t : TypeId} {x y z a b c : Zaq} : Zbc (h ++ [.cells t [x, y, z] false]) (.ptr (some (h.length, 0))) [a, b, c] = some (h ++ [.cells t [a, b, c] false]) := Zqq rfl
theorem Row.sl {b : Nat} {h : Zaa} {a : Pt} {n k : Nat} {l : List Nd} (r : Row b h a (n * 2) (Zeg eP l)) (hk : k ≤ n) (hl : l.length = n) : Row b h a (k * 2) (Zeg eP (l.take k)) := by
  obtain ⟨h1, h2⟩ := r
  have e : (Zeg eP (l.take k)).length = k * 2 := by rw [Zbb Zdd, List.length_take, Nat.min_eq_left (by omega)]
  refine ⟨e, ?_⟩
  rcases h2 with h0 | ⟨i, o, t, all, ro, ha, hb, hi, hle, hcs⟩
  · exact .inl (by omega)
  · refine .inr ⟨i, o, t, all, ro, ha, hb, hi, by omega, ?_⟩
    rw [← Yka Zdd, hcs, List.take_take, Nat.min_eq_left (by omega)]
theorem Yfx {b : Nat} {h : Zaa} {a : Pt} {n c k : Nat} {e : Bool} {l : List Nd} {K : Zaq → Prop} (r : Row b h a (n * 2) (Zeg eP l)) (hl : l.length = n) (hk : k ≤ n) (hc : n ≤ c) {z : Int} (hz : z = k)
    (hK : ∀ a' c' e', Row b h a' (k * 2) (Zeg eP (l.take k)) → k ≤ c' → K (.slice a' k c' e')) : Zjr a n c e 2 none (some (.int .i64 z)) none K := by
  subst hz
  simp only [Zjr, Zld]
  refine ⟨by omega, ?_⟩
  split
  · have h0 : n = 0 := by
      obtain ⟨h1, h2⟩ := r
      rcases h2 with h2 | ⟨i, o, t, all, ro, ha, _⟩
      · omega
      · cases ha
    have hk0 : k = 0 := by omega
    subst hk0
    exact ⟨⟨by trivial, by simp, .inl (by trivial)⟩, hK _ _ _ (by simpa using Row.nil) (by omega)⟩
  · rename_i i o
    refine ⟨fun hlt => ?_, fun hlt => ?_⟩
    · have e2 : ((k : Int) - 0).toNat = k := by omega
      have e3 : o + Int.toNat 0 * 2 = o := by simp
      have e4 : ((c : Int) - 0).toNat = c := by omega
      rw [e2, e3, e4]
      exact hK _ _ _ (r.sl hk hl) (by omega)
    · have hk0 : k = 0 := by omega
      subst hk0
      exact hK _ _ _ (by simpa using Row.nil) (by omega)

theorem Yeu {h : Zaa} {x : Nd} {j : Nat} {c : List Nat} (hj : Zae h (.ptr (some (j, 0))) = some (.str c)) (hjl : j < h.length) :
    Zag pg Zcx [.agg [.str x.1, .str x.2], .ptr (some (j, 0))] h fun v h' => v = .bool (decide (x.1 = c)) ∧ Zbd h.length h h' := by
  apply Zog.call
  simp only [Zax, Zez, List.getElem?_cons_zero, Zai]
  have := (Zam (h := h) (x := .cells Zbz [.str x.1, .str x.2] false)).cell hjl hj
  rw [this]
  exact ⟨rfl, Zam⟩
theorem Yel {h : Zaa} {a : Pt} {n c : Nat} {e : Bool} {cs : List Nd} {j : Nat} {s : List Nat} (r : Row h.length h a (n * 2) (Zeg eP cs)) (hn : n ≤ 4611686018427387904) (hj : Zae h (.ptr (some (j, 0))) = some (.str s)) (hjl : j < h.length) :
    Zag pg Zdk [.slice a n c e, .fn Zcx [.ptr (some (j, 0))]] h fun v h' => (∃ z : Int, v = .int .i64 z ∧ decide (z ≥ 0) = Zhe cs s) ∧ Zbd h.length h h' := by
  have hl : cs.length = n := by have := r.1; rw [Zbb Zdd] at this; omega
  apply Zbk.call
  refine Zbk.L2ind _ _ _ _ _ _ _ (J := fun (g : Nat) x8 h' => x8 = (g : Int) ∧ g ≤ n ∧ Zbd h.length h h' ∧ Zhe (cs.take g) s = false) (fun g => n - g) ?_ 0 _ _ ⟨rfl, by omega, Zbd.refl _ _, rfl⟩
  rintro g x8 h' ⟨rfl, hg, hS, hk⟩ R hR
  unfold Zbk.L2t
  refine Zar (fun hlt => ?_) (fun hge => ?_)
  · obtain ⟨i, o, hgl, rfl, _, hr, _⟩ := (r.same hS).pr (k := g) (by omega)
    simp only [Zau, Int.toNat_natCast, hr, Zas, Zah, Zan, Zai]
    refine ⟨by omega, (Yeu (x := cs[g]) (hS.cell hjl hj) (by have := hS.le; omega)).mono ?_⟩
    rintro v h2 ⟨rfl, s2⟩
    simp only [Zap]
    have hS2 := hS.trans (s2.mono hS.le)
    refine Zar (fun he => ?_) (fun he => ?_)
    · refine ⟨⟨_, rfl, ?_⟩, hS2⟩
      have : Zhe cs s = true := by unfold Zhe; rw [List.any_eq_true]; exact ⟨_, List.getElem_mem hgl, by simpa using he⟩
      rw [this]; simp
    · rw [Zbt (by omega)]
      exact hR (g + 1) _ _ (by omega) ⟨rfl, by omega, hS2, by rw [Zwv hgl, hk]; simp [he]⟩
  · apply Zbk.A2x0i
    have : g = n := by omega
    subst this
    rw [List.take_of_length_le (by omega)] at hk
    exact ⟨⟨_, rfl, by rw [hk]; rfl⟩, hS⟩
theorem Zvd {h : Zaa} {a : Pt} {n c : Nat} {e : Bool} {cs : List Nd} {s : List Nat} (r : Row h.length h a (n * 2) (Zeg eP cs)) (hn : n ≤ 4611686018427387904) :
    Zag pg Zje [.slice a n c e, .str s] h fun v h' => v = .bool (Zhe cs s) ∧ Zbd h.length h h' := by
  apply Zun.call
  simp only [Zax]
  apply Zdc.call
  have s1 : Zbd h.length h (h ++ [.cells Zdm [.str s] false]) := Zam
  refine (Yel (r.same' s1) hn (s := s) (by rw [Zez]; rfl) (by simp)).mono ?_
  rintro v h2 ⟨⟨z, rfl, hz⟩, s2⟩
  simp only [Zav, Zap]
  exact ⟨by rw [hz], s1.trans (s2.mono s1.le)⟩
theorem Zqo {h : Zaa} {a a1 : Pt} {n c n1 c1 : Nat} {e e1 : Bool} {cs : List Nd} {s : List Nat} (r : Row h.length h a (n * 2) (Zeg eP cs)) (hn : n ≤ 4611686018427387904) :
    Zag pg Zha [.agg [.slice a n c e, .slice a1 n1 c1 e1], .str s] h fun v h' => v = .int .i64 (Yej cs s) ∧ Zbd h.length h h' := by
  have hl : cs.length = n := by have := r.1; rw [Zbb Zdd] at this; omega
  apply Zio.call
  simp only [Zax, Zez, Nat.add_zero, List.getElem?_cons_zero, Zaj]
  have s1 : Zbd h.length h (h ++ [.cells Zal [.slice a n c e, .slice a1 n1 c1 e1] false]) := Zam
  refine Zio.L2ind _ _ _ _ _ _ _ (J := fun (g : Nat) x10 h' => x10 = (g : Int) ∧ g ≤ n ∧ Zbd h.length h h' ∧ Zhe (cs.take g) s = false) (fun g => n - g) ?_ 0 _ _ ⟨rfl, by omega, s1, rfl⟩
  rintro g x8 h' ⟨rfl, hg, hS, hk⟩ R hR
  unfold Zio.L2t
  refine Zar (fun hlt => ?_) (fun hge => ?_)
  · obtain ⟨i, o, hgl, rfl, _, hr, _⟩ := (r.same hS).pr (k := g) (by omega)
    simp only [Zau, Int.toNat_natCast, hr, Zas, Zah, Zan, Zai, Zax]
    rw [Zhm]
    simp only [Zba, Zez, Nat.add_zero, List.getElem?_cons_zero, Zai]
    refine ⟨by omega, ?_⟩
    have hS2 : Zbd h.length h (h' ++ [.cells Zbz [.str cs[g].1, .str cs[g].2] false]) := hS.trans (Zbd.app hS.le _)
    refine Zar (fun he => ?_) (fun he => ?_)
    · refine ⟨?_, hS2⟩
      have hkn : Zhe cs s = true := by unfold Zhe; rw [List.any_eq_true]; exact ⟨_, List.getElem_mem hgl, by simpa using he⟩
      unfold Yej
      rw [hkn, if_pos rfl]
      congr 2
      symm
      rw [List.findIdx_eq hgl]
      refine ⟨by simpa using he, fun j hj => ?_⟩
      unfold Zhe at hk
      rw [List.any_eq_false] at hk
      have := hk cs[j] (List.mem_take_iff_getElem.2 ⟨j, by omega, rfl⟩)
      simpa using this
    · rw [Zbt (by omega)]
      exact hR (g + 1) _ _ (by omega) ⟨rfl, by omega, hS2, by rw [Zwv hgl, hk]; simp [he]⟩
  · apply Zio.A2x0i
    have : g = n := by omega
    subst this
    rw [List.take_of_length_le (by omega)] at hk
    exact ⟨by unfold Yej; rw [hk]; rfl, hS⟩

theorem Yks {s : List Nat} {g : Nat} {z : Int} (hg : g < s.length) (hz : z = ((g + 1 : Nat) : Int)) : sub s (g : Int) z = [s[g]] := by
  subst hz
  simp only [sub, Int.toNat_natCast]
  rw [List.take_succ_eq_append_getElem hg, List.drop_append_of_le_length (by simp; omega), List.drop_of_length_le (by rw [List.length_take]; exact Nat.min_le_left _ _), List.nil_append]
theorem Zsg {g : Nat} (hg : 0 < g) (hn : g ≤ 9223372036854775807) : IntKind.wrap .i64 ((g : Int) - 1) = ((g - 1 : Nat) : Int) := by rw [IntWalk.i64_in _ (by omega)]; omega
theorem Yfn {cs : List Nd} {s : List Nat} {g : Nat} (hg : g < s.length) : Zxo cs s g = (Zhe cs [s[g]] && (g == 0 || decide (s.getD (g - 1) 0 < s[g]))) := by unfold Zxo; rw [Zfi hg]
theorem Yfs {cs : List Nd} {g : Nat} (hg : g < cs.length) : Zxw cs g = (Zuu cs[g].1 && (g == 0 || Zec (cs.getD (g - 1) ([], [])).1 cs[g].1) && Yce (cs.take g) cs[g].2) := by unfold Zxw; rw [Zfi hg]
theorem Zkp {cs : List Nd} {g : Nat} (hg : g < cs.length) (h : Zxw cs g = false) : Zki cs = false := by unfold Zki; rw [Zkg hg h]; rfl
theorem Zug {h : Zaa} {a a1 : Pt} {n c n1 c1 : Nat} {e e1 : Bool} {cs : List Nd} (r : Row h.length h a (n * 2) (Zeg eP cs)) (hc : n ≤ c) (hn : n ≤ 1048576) (hs : ∀ p ∈ cs, p.2.length ≤ 1048576) :
    Zag pg Ziy [.agg [.slice a n c e, .slice a1 n1 c1 e1]] h fun v h' => v = .bool (Zki cs) ∧ Zbd h.length h h' := by
  have hl : cs.length = n := by have := r.1; rw [Zbb Zdd] at this; omega
  apply Zcz.call
  simp only [Zax, Zez, Nat.add_zero, List.getElem?_cons_zero, Zaj]
  have s1 : Zbd h.length h (h ++ [.cells Zal [.slice a n c e, .slice a1 n1 c1 e1] false]) := Zam
  have hw : (h ++ [Zcg.cells Zal [.slice a n c e, .slice a1 n1 c1 e1] false])[h.length]? = some (.cells Zal [.slice a n c e, .slice a1 n1 c1 e1] false) := by simp
  refine Zcz.L2ind _ _ _ _ _ _ _ _ (J := fun (g : Nat) x9 h' => x9 = (g : Int) ∧ g ≤ n ∧ Zbd h.length h h' ∧ h'[h.length]? = some (.cells Zal [.slice a n c e, .slice a1 n1 c1 e1] false) ∧ (List.range g).all (Zxw cs) = true) (fun g => n - g) ?_ 0 _ _ ⟨rfl, by omega, s1, hw, rfl⟩
  rintro g x9 h' ⟨rfl, hg, hS, hW, hk⟩ R hR
  unfold Zcz.L2t
  refine Zar (fun hlt => ?_) (fun hge => ?_)
  · obtain ⟨i, o, hgl, rfl, hil, hr, _⟩ := (r.same hS).pr (k := g) (by omega)
    simp only [Zau, Int.toNat_natCast, hr, Zas, Zah, Zan, Zai, Zax]
    rw [Zhm]
    simp only [Zba, Zez, Nat.add_zero, List.getElem?_cons_zero, Zai]
    have hS2 : Zbd h.length h (h' ++ [.cells Zbz [.str cs[g].1, .str cs[g].2] false]) := hS.trans (Zbd.app hS.le _)
    refine ⟨by omega, (Yiq _).mono ?_⟩
    rintro v h2 ⟨rfl, rfl⟩
    simp only [Zap, true_and]
    have hcl := Yfs hgl
    have hle := hS2.le
    have hWl := Own.lt hW
    have hW2 : (h' ++ [.cells Zbz [.str cs[g].1, .str cs[g].2] false])[h.length]? = some (.cells Zal [.slice (some (i, o)) n c e, .slice a1 n1 c1 e1] false) := Zot hW
    have hcell : ∀ o', Zae (h' ++ [.cells Zbz [.str cs[g].1, .str cs[g].2] false]) (.ptr (some (h'.length, o'))) = ([.str cs[g].1, .str cs[g].2] : List Zaq)[o']? := fun o' => Zez
    -- the classes above
    have key : (Zuu cs[g].1 && (g == 0 || Zec (cs.getD (g - 1) ([], [])).1 cs[g].1)) = true → Zcz.J6 (fun v h' => v = .bool (Zki cs) ∧ Zbd h.length h h') R h'.length 0 h.length 0 (g : Int) (some (i, o)) n c e (n : Int) (g : Int) (h' ++ [.cells Zbz [.str cs[g].1, .str cs[g].2] false]) := by
      intro hpre
      rw [hpre, Bool.true_and] at hcl
      apply Zcz.J6i
      rw [hcell]
      simp only [Nat.zero_add, List.getElem?_cons_succ, List.getElem?_cons_zero, Zai]
      have hsl := hs cs[g] (List.getElem_mem hgl)
      refine Zcz.L7ind _ _ _ _ _ _ _ _ _ _ _ _ _ _ (J := fun (q : Nat) x37 h3 => x37 = (q : Int) ∧ q ≤ cs[g].2.length ∧ Zbd h.length h h3 ∧ h3[h.length]? = some (.cells Zal [.slice (some (i, o)) n c e, .slice a1 n1 c1 e1] false) ∧ h3[h'.length]? = some (.cells Zbz [.str cs[g].1, .str cs[g].2] false) ∧ (List.range q).all (Zxo (cs.take g) cs[g].2) = true) (fun q => cs[g].2.length - q) ?_ 0 _ _ ⟨rfl, by omega, hS2, hW2, by simp, rfl⟩
      rintro q x37 h3 ⟨rfl, hq, hS3, hW3, hI3, hk3⟩ R7 hR7
      unfold Zcz.L7t
      refine Zar (fun hlt3 => ?_) (fun hge3 => ?_)
      · have hq' : q < cs[g].2.length := by omega
        simp only [Nat.add_zero, Nat.zero_add, Zak hW3, Zak hI3, List.getElem?_cons_succ, List.getElem?_cons_zero, Zaj, Zai, true_and]
        refine Yfx (r.same hS3) hl (k := g) (by omega) hc rfl (fun a' c' e' hrow hc' => ?_)
        simp only [Zaj]
        rw [Zbt (by omega), Yks hq' rfl]
        refine ⟨⟨by omega, by omega, by omega⟩, (Zvd (hrow.mono hS3.le) (by omega)).mono ?_⟩
        rintro v h4 ⟨rfl, s4⟩
        have hS4 := hS3.trans (s4.mono hS3.le)
        have hW4 : h4[h.length]? = some (.cells Zal [.slice (some (i, o)) n c e, .slice a1 n1 c1 e1] false) := by rw [s4.eq _ (Own.lt hW3)]; exact hW3
        have hI4 : h4[h'.length]? = some (.cells Zbz [.str cs[g].1, .str cs[g].2] false) := by rw [s4.eq _ (Own.lt hI3)]; exact hI3
        simp only [Zap, Zak hW3, Zak hW4, Zak hI4, Nat.add_zero, Nat.zero_add, List.getElem?_cons_succ, List.getElem?_cons_zero, Zai, true_and]
        have hsa := Yfn (cs := cs.take g) hq'
        have fail : Zxo (cs.take g) cs[g].2 q = false → (Zaq.bool false = Zaq.bool (Zki cs) ∧ Zbd h.length h h4) := fun hf => ⟨by rw [Zkp hgl (by rw [hcl]; unfold Yce; exact Zkg hq' hf)], hS4⟩
        have next : Zxo (cs.take g) cs[g].2 q = true → R7 h.length 0 (g : Int) h'.length 0 (some (i, o)) n c e (n : Int) (g : Int) (cs[g].2.length : Int) (IntKind.wrap .i64 ((q : Int) + 1)) h4 := fun ht => by
          rw [Zbt (by omega)]
          exact hR7 (q + 1) _ _ (by omega) ⟨rfl, by omega, hS4, hW4, hI4, Zhd hk3 ht⟩
        refine Zbp (fun hb => fail (by rw [hsa, hb]; rfl)) (fun hb => ?_)
        refine Zar (fun h0 => ?_) (fun h0 => ?_)
        · have h0' : 0 < q := by omega
          rw [Zsg h0' (by omega)]
          refine ⟨⟨by omega, by omega⟩, ⟨by omega, by omega⟩, ?_⟩
          simp only [Int.toNat_natCast]
          have hd1 : cs[g].2.getD q 0 = cs[g].2[q] := Zfi hq'
          have hq0 : (q == 0) = false := by simp; omega
          refine Zar (fun h1 => fail ?_) (fun h1 => Zcz.J11i _ _ _ _ _ _ _ _ _ _ _ _ _ _ _ _ _ (next ?_))
          · rw [hsa, hb, hq0, ← hd1]; simp only [Bool.true_and, Bool.false_or, decide_eq_false_iff_not]; omega
          · rw [hsa, hb, hq0, ← hd1]; simp only [Bool.true_and, Bool.false_or, decide_eq_true_eq]; omega
        · have : q = 0 := by omega
          subst this
          exact Zcz.J11i _ _ _ _ _ _ _ _ _ _ _ _ _ _ _ _ _ (next (by rw [hsa, hb]; rfl))
      · apply Zcz.A7x2i
        apply Zcz.J12i
        have : q = cs[g].2.length := by omega
        subst this
        rw [Zbt (by omega)]
        exact hR (g + 1) _ _ (by omega) ⟨rfl, by omega, hS3, hW3, Zhd hk (by rw [hcl]; exact hk3)⟩
    refine Zbp (fun hb => ⟨by rw [Zkp hgl (by rw [hcl, hb]; rfl)], hS2⟩) (fun hb => ?_)
    refine Zar (fun h0 => ?_) (fun h0 => ?_)
    · have h0' : 0 < g := by omega
      rw [Zak hW2]
      simp only [List.getElem?_cons_zero, Zaj]
      rw [Zsg h0' (by omega)]
      obtain ⟨i', o', hgl', heq, _, _, hc0, _⟩ := (r.same hS2).pr (k := g - 1) (by omega)
      cases heq
      simp only [Zau, Int.toNat_natCast, hc0, Zai, Nat.add_zero, Nat.zero_add, hcell, List.getElem?_cons_zero, true_and]
      refine ⟨by omega, ?_⟩
      have hg0 : (g == 0) = false := by simp; omega
      have hgd : cs.getD (g - 1) ([], []) = cs[g - 1] := Zfi hgl'
      refine Zbp (fun hb2 => ⟨by rw [Zkp hgl (by rw [hcl, hb, hg0, hgd, hb2]; rfl)], hS2⟩) (fun hb2 => key (by rw [hb, hg0, hgd, hb2]; rfl))
    · have : g = 0 := by omega
      subst this
      exact key (by rw [hb]; rfl)
  · apply Zcz.A2x0i
    have : g = n := by omega
    subst this
    have hok : Zki cs = decide (1 ≤ g ∧ g ≤ 4) := by unfold Zki; rw [hl, hk, Bool.true_and]
    simp only [Nat.add_zero, Zak hW, List.getElem?_cons_zero, Zaj]
    refine Zar (fun h1 => ?_) (fun h1 => ?_)
    · refine ⟨?_, hS⟩
      rw [hok]; congr 1; rw [Bool.eq_iff_iff]; simp; omega
    · refine ⟨?_, hS⟩
      rw [hok]; congr 1; symm; simp; omega
end Go.Sim

set_option linter.unusedVariables false
set_option linter.unusedSimpArgs false
set_option maxRecDepth 20000
namespace Go.Sim
open Go Go.RowKit
theorem Zuj {h : Zaa} {a : Pt} {n c : Nat} {e : Bool} {cs : List Nd} (r : Row h.length h a (n * 2) (Zeg eP cs)) (hc : n ≤ c) (hn : n ≤ 1048576) (hs : ∀ p ∈ cs, p.2.length ≤ 1048576) (hb256 : ∀ p ∈ cs, ∀ b ∈ p.1, b < 256) :
    Zag pg Ziv [.slice a n c e] h fun v h' => v = .bool (Zki cs) ∧ Zbd h.length h h' := by
  have hl : cs.length = n := by have := r.1; rw [Zbb Zdd] at this; omega
  apply Zcy.call
  refine Zcy.L2ind _ _ _ _ _ _ _ _ _ _ (J := fun (g : Nat) x9 h' => x9 = (g : Int) ∧ g ≤ n ∧ Zbd h.length h h' ∧ (List.range g).all (Zxw cs) = true) (fun g => n - g) ?_ 0 _ _ ⟨rfl, by omega, Zbd.refl _ _, rfl⟩
  rintro g x9 h' ⟨rfl, hg, hS, hk⟩ R hR
  unfold Zcy.L2t
  refine Zar (fun hlt => ?_) (fun hge => ?_)
  · obtain ⟨i, o, hgl, rfl, hil, hr, _⟩ := (r.same hS).pr (k := g) (by omega)
    simp only [Zau, Int.toNat_natCast, hr, Zas, Zah, Zan, Zai, Zax]
    rw [Zhm]
    simp only [Zba, Zez, Nat.add_zero, List.getElem?_cons_zero, Zai]
    have hS2 : Zbd h.length h (h' ++ [.cells Zbz [.str cs[g].1, .str cs[g].2] false]) := hS.trans (Zbd.app hS.le _)
    refine ⟨by omega, (Yck _ (hb256 _ (List.getElem_mem hgl))).mono ?_⟩
    rintro v h2 ⟨rfl, rfl⟩
    simp only [Zap, true_and]
    have hcl := Yfs hgl
    have hle := hS2.le
    have hcell : ∀ o', Zae (h' ++ [.cells Zbz [.str cs[g].1, .str cs[g].2] false]) (.ptr (some (h'.length, o'))) = ([.str cs[g].1, .str cs[g].2] : List Zaq)[o']? := fun o' => Zez
    -- the classes above
    have key : (Zuu cs[g].1 && (g == 0 || Zec (cs.getD (g - 1) ([], [])).1 cs[g].1)) = true → Zcy.J6 (fun v h' => v = .bool (Zki cs) ∧ Zbd h.length h h') R h'.length 0 (some (i, o)) n c e (g : Int) (some (i, o)) n c e (n : Int) (g : Int) (h' ++ [.cells Zbz [.str cs[g].1, .str cs[g].2] false]) := by
      intro hpre
      rw [hpre, Bool.true_and] at hcl
      apply Zcy.J6i
      rw [hcell]
      simp only [Nat.zero_add, List.getElem?_cons_succ, List.getElem?_cons_zero, Zai]
      have hsl := hs cs[g] (List.getElem_mem hgl)
      refine Zcy.L7ind _ _ _ _ _ _ _ _ _ _ _ _ _ _ _ _ (J := fun (q : Nat) x37 h3 => x37 = (q : Int) ∧ q ≤ cs[g].2.length ∧ Zbd h.length h h3 ∧ h3[h'.length]? = some (.cells Zbz [.str cs[g].1, .str cs[g].2] false) ∧ (List.range q).all (Zxo (cs.take g) cs[g].2) = true) (fun q => cs[g].2.length - q) ?_ 0 _ _ ⟨rfl, by omega, hS2, by simp, rfl⟩
      rintro q x37 h3 ⟨rfl, hq, hS3, hI3, hk3⟩ R7 hR7
      unfold Zcy.L7t
      refine Zar (fun hlt3 => ?_) (fun hge3 => ?_)
      · have hq' : q < cs[g].2.length := by omega
        simp only [Nat.add_zero, Nat.zero_add, Zak hI3, List.getElem?_cons_succ, List.getElem?_cons_zero, Zaj, Zai, true_and]
        refine Yfx (r.same hS3) hl (k := g) (by omega) hc rfl (fun a' c' e' hrow hc' => ?_)
        simp only [Zaj]
        rw [Zbt (by omega), Yks hq' rfl]
        refine ⟨⟨by omega, by omega, by omega⟩, (Zqo (hrow.mono hS3.le) (by omega)).mono ?_⟩
        rintro v h4 ⟨rfl, s4⟩
        have hS4 := hS3.trans (s4.mono hS3.le)
        have hI4 : h4[h'.length]? = some (.cells Zbz [.str cs[g].1, .str cs[g].2] false) := by rw [s4.eq _ (Own.lt hI3)]; exact hI3
        simp only [Zav, Zxa, Zak hI4, Nat.add_zero, Nat.zero_add, List.getElem?_cons_succ, List.getElem?_cons_zero, Zai, true_and]
        have hsa := Yfn (cs := cs.take g) hq'
        have fail : Zxo (cs.take g) cs[g].2 q = false → (Zaq.bool false = Zaq.bool (Zki cs) ∧ Zbd h.length h h4) := fun hf => ⟨by rw [Zkp hgl (by rw [hcl]; unfold Yce; exact Zkg hq' hf)], hS4⟩
        have next : Zxo (cs.take g) cs[g].2 q = true → R7 (some (i, o)) n c e (g : Int) h'.length 0 (some (i, o)) n c e (n : Int) (g : Int) (cs[g].2.length : Int) (IntKind.wrap .i64 ((q : Int) + 1)) h4 := fun ht => by
          rw [Zbt (by omega)]
          exact hR7 (q + 1) _ _ (by omega) ⟨rfl, by omega, hS4, hI4, Zhd hk3 ht⟩
        refine Zbp (fun hb => fail (by rw [hsa, hb]; rfl)) (fun hb => ?_)
        refine Zar (fun h0 => ?_) (fun h0 => ?_)
        · have h0' : 0 < q := by omega
          rw [Zsg h0' (by omega)]
          refine ⟨⟨by omega, by omega⟩, ⟨by omega, by omega⟩, ?_⟩
          simp only [Int.toNat_natCast]
          have hd1 : cs[g].2.getD q 0 = cs[g].2[q] := Zfi hq'
          have hq0 : (q == 0) = false := by simp; omega
          refine Zar (fun h1 => fail ?_) (fun h1 => Zcy.J11i _ _ _ _ _ _ _ _ _ _ _ _ _ _ _ _ _ _ _ (next ?_))
          · rw [hsa, hb, hq0, ← hd1]; simp only [Bool.true_and, Bool.false_or, decide_eq_false_iff_not]; omega
          · rw [hsa, hb, hq0, ← hd1]; simp only [Bool.true_and, Bool.false_or, decide_eq_true_eq]; omega
        · have : q = 0 := by omega
          subst this
          exact Zcy.J11i _ _ _ _ _ _ _ _ _ _ _ _ _ _ _ _ _ _ _ (next (by rw [hsa, hb]; rfl))
      · apply Zcy.A7x2i
        apply Zcy.J12i
        have : q = cs[g].2.length := by omega
        subst this
        rw [Zbt (by omega)]
        exact hR (g + 1) _ _ (by omega) ⟨rfl, by omega, hS3, Zhd hk (by rw [hcl]; exact hk3)⟩
    refine Zbp (fun hb => ⟨by rw [Zkp hgl (by rw [hcl, hb]; rfl)], hS2⟩) (fun hb => ?_)
    refine Zar (fun h0 => ?_) (fun h0 => ?_)
    · have h0' : 0 < g := by omega
      rw [Zsg h0' (by omega)]
      obtain ⟨i', o', hgl', heq, _, _, hc0, _⟩ := (r.same hS2).pr (k := g - 1) (by omega)
      cases heq
      simp only [Zau, Int.toNat_natCast, hc0, Zai, Nat.add_zero, Nat.zero_add, hcell, List.getElem?_cons_zero, true_and]
      refine ⟨by omega, ?_⟩
      have hg0 : (g == 0) = false := by simp; omega
      have hgd : cs.getD (g - 1) ([], []) = cs[g - 1] := Zfi hgl'
      refine Zbp (fun hb2 => ⟨by rw [Zkp hgl (by rw [hcl, hb, hg0, hgd, hb2]; rfl)], hS2⟩) (fun hb2 => key (by rw [hb, hg0, hgd, hb2]; rfl))
    · have : g = 0 := by omega
      subst this
      exact key (by rw [hb]; rfl)
  · apply Zcy.A2x0i
    have : g = n := by omega
    subst this
    have hok : Zki cs = decide (1 ≤ g ∧ g ≤ 4) := by unfold Zki; rw [hl, hk, Bool.true_and]
    refine Zzc.mono ?_
    rintro v h2 ⟨rfl, rfl⟩
    simp only [Zap]
    refine ⟨?_, hS⟩
    rw [hok]; congr 1; rw [Bool.eq_iff_iff]; simp; omega
end Go.Sim

set_option linter.unusedVariables false
set_option linter.unusedSimpArgs false
set_option maxRecDepth 20000
namespace Go.Sim
open Go Go.RowKit

theorem Yqh (c : Nat) : decide (c ∈ [120, 121, 122, 88, 89, 90]) = Zdj c := by rw [Bool.eq_iff_iff]; simp [Zdj, or_assoc]
theorem Zzh {h : Zaa} (s : List Nat) : Zag pg Zlh [.str s] h fun v h' => v = .bool (Zko s) ∧ h' = h := by
  apply Zuq.call
  match s with
  | [] => exact Zfq (fun h1 => by simp at h1) (fun h1 => ⟨rfl, rfl⟩)
  | [c] =>
    refine Zfq (fun h1 => ?_) (fun h1 => by simp at h1)
    refine Zmx.mono ?_
    rintro v h' ⟨rfl, rfl⟩
    simp only [Zap]
    exact ⟨by rw [Yqh]; rfl, by trivial⟩
  | c :: d :: r => exact Zfq (fun h1 => by simp at h1; omega) (fun h1 => ⟨rfl, rfl⟩)
theorem Zor {h : Zaa} (c : Nat) : Zag pg Zgh [.int .u8 (c : Int)] h fun v h' => v = .bool (Zdj c) ∧ h' = h := by
  apply Znr.call
  refine (Zzz _ c (by simp)).mono ?_
  rintro v h' ⟨rfl, rfl⟩
  simp only [Zav]
  exact ⟨by rw [Yqc], by trivial⟩
noncomputable def Ypd (s v : List Nat) : Int := if Zoj s && Zko v then (s.count (v.headD 0) : Nat) else -1
theorem Yaz {h : Zaa} (s v : List Nat) (hs : s.length ≤ 1048576) : Zag pg Zmh [.str s, .str v] h fun x h' => x = .int .i64 (Ypd s v) ∧ Zbd h.length h h' := by
  apply Zew.call
  refine (Zjk s (by omega) h).mono ?_
  rintro x h1 ⟨rfl, s1⟩
  simp only [Zap]
  refine Zbp (fun hb => ⟨by unfold Ypd; rw [hb]; rfl, s1⟩) (fun hb => ?_)
  match v with
  | [] => exact Zhw (fun _ => ⟨by unfold Ypd; rw [hb]; rfl, s1⟩) (fun h1 => by simp at h1)
  | c :: d :: r => exact Zhw (fun _ => ⟨by unfold Ypd; rw [hb]; rfl, s1⟩) (fun h1 => by simp at h1; omega)
  | [c] =>
    refine Zhw (fun h1 => by simp at h1) (fun _ => ?_)
    refine ⟨⟨by omega, by simp⟩, ?_⟩
    simp only [Int.toNat_zero, List.getD_cons_zero]
    refine (Zor c).mono ?_
    rintro x h2 ⟨rfl, rfl⟩
    simp only [Zap]
    refine Zbp (fun hv => ⟨by unfold Ypd; rw [hb, show Zko [c] = Zdj c from rfl, hv]; rfl, s1⟩) (fun hv => ?_)
    apply Zew.J3i
    refine Zew.L5ind _ _ _ _ (J := fun (g : Nat) x5 x23 h' => x23 = (g : Int) ∧ g ≤ s.length ∧ x5 = ((s.take g).count c : Nat) ∧ h' = h2) (fun g => s.length - g) ?_ 0 _ _ _ ⟨rfl, by omega, by simp, rfl⟩
    rintro g x5 x23 h' ⟨rfl, hg, rfl, rfl⟩ R hR
    unfold Zew.L5t
    refine Zar (fun hlt => ?_) (fun hge => ?_)
    · have hg' : g < s.length := by omega
      refine ⟨⟨by omega, by omega⟩, ⟨by omega, by simp⟩, ?_⟩
      simp only [Int.toNat_zero, List.getD_cons_zero, Int.toNat_natCast, Zfi hg']
      have hc := List.count_le_length (a := c) (l := s.take g)
      rw [List.length_take] at hc
      have htk : (s.take (g + 1)).count c = (s.take g).count c + if s[g] = c then 1 else 0 := by
        rw [List.take_succ_eq_append_getElem hg', List.count_append]; simp [List.count_cons]
      refine Zfq (fun he => ?_) (fun he => ?_)
      · apply Zew.J9i
        rw [Zbt (by omega), Zbt (by omega)]
        exact hR (g + 1) _ _ _ (by omega) ⟨rfl, by omega, by rw [htk, if_pos (by omega)], rfl⟩
      · apply Zew.J9i
        rw [Zbt (by omega)]
        exact hR (g + 1) _ _ _ (by omega) ⟨rfl, by omega, by rw [htk, if_neg (by omega)]; rfl, rfl⟩
    · apply Zew.A5x0i
      have : g = s.length := by omega
      subst this
      rw [List.take_length]
      refine ⟨?_, s1⟩
      unfold Ypd
      rw [hb, show Zko [c] = Zdj c from rfl, hv]; rfl
theorem Zyl {h : Zaa} (s : List Nat) (hs : s.length ≤ 1048576) : Zag pg Zlv [.str s] h fun v h' => v = .str (if Zoj s = true then Zry s else []) ∧ Zbd h.length h h' := by
  apply Zgs.call
  simp only [Zax]
  have hlist : (h ++ [Zcg.cells Zdm [.str [88], .str [89], .str [90], .str [120], .str [121], .str [122]] false])[h.length]? = some (.cells Zdm [.str [88], .str [89], .str [90], .str [120], .str [121], .str [122]] false) := by simp
  refine Zgs.L3ind _ _ _ _ _ _ _ (J := fun (g : Nat) x3 x8 h' => x8 = (g : Int) ∧ g ≤ 6 ∧ Zbd h.length h h' ∧ h'[h.length]? = some (.cells Zdm [.str [88], .str [89], .str [90], .str [120], .str [121], .str [122]] false) ∧ x3 = if Zoj s = true then (Zfn.take g).filter fun v => decide (v ∈ s) else []) (fun g => 6 - g) ?_ 0 _ _ _
    ⟨rfl, by omega, Zam, hlist, by simp⟩
  rintro g x3 x8 h' ⟨rfl, hg, hS, hl, rfl⟩ R hR
  unfold Zgs.L3t
  refine Zar (fun hlt => ?_) (fun hge => ?_)
  · have hlt' : g < 6 := by omega
    have hc : ∃ c, Zfn[g]? = some c ∧ Zdj c = true ∧ Zae h' (.ptr (some (h.length, 0 + (g : Int).toNat * 1))) = some (.str [c]) := by
      rw [Zak hl, Int.toNat_natCast]
      match g, hlt' with
      | 0, _ | 1, _ | 2, _ | 3, _ | 4, _ | 5, _ => exact ⟨_, rfl, rfl, rfl⟩
    obtain ⟨c, hc1, hcv, hc2⟩ := hc
    simp only [Zau, hc2, Zai]
    refine ⟨by omega, (Yaz s [c] hs).mono ?_⟩
    rintro v h2 ⟨rfl, s2⟩
    simp only [Zav]
    have htk : Zfn.take (g + 1) = Zfn.take g ++ [c] := by rw [List.take_succ, hc1]; rfl
    have hS2 := hS.trans (s2.mono hS.le)
    have hl2 : h2[h.length]? = some (.cells Zdm [.str [88], .str [89], .str [90], .str [120], .str [121], .str [122]] false) := by rw [s2.eq _ (Own.lt hl)]; exact hl
    have hcn : decide (Ypd s [c] > 0) = (Zoj s && decide (c ∈ s)) := by
      unfold Ypd
      rw [show Zko [c] = Zdj c from rfl, hcv]
      cases hb : Zoj s with
      | false => rfl
      | true =>
        simp only [Bool.and_self, if_true, Bool.true_and, List.headD_cons]
        rw [Bool.eq_iff_iff]; simp [List.count_pos_iff]
    have hbd : (if Zoj s = true then (Zfn.take g).filter fun v => decide (v ∈ s) else []).length ≤ 6 := by
      split
      · exact Nat.le_trans (List.length_filter_le _ _) (by simp; omega)
      · simp
    rw [hcn]
    refine Zdi (fun hb => ?_) (fun hb => ?_)
    · simp only [Bool.and_eq_true] at hb
      refine ⟨by simp only [List.length_cons, List.length_nil]; omega, ?_⟩
      apply Zgs.J7i
      rw [Zbt (by omega)]
      refine hR (g + 1) _ _ _ (by omega) ⟨rfl, by omega, hS2, hl2, ?_⟩
      rw [if_pos hb.1, if_pos hb.1, htk, List.filter_append]; simp [hb.2]
    · apply Zgs.J7i
      rw [Zbt (by omega)]
      refine hR (g + 1) _ _ _ (by omega) ⟨rfl, by omega, hS2, hl2, ?_⟩
      cases ht : Zoj s with
      | false => simp
      | true => rw [ht, Bool.true_and] at hb; rw [htk, List.filter_append]; simp; simpa using hb
  · apply Zgs.A3x0i
    have : g = 6 := by omega
    subst this
    exact ⟨rfl, hS⟩
theorem Yjk {h : Zaa} (x y : List Nat) (hx : x.length ≤ 1048576) (hy : y.length ≤ 1048576) : Zag pg Zmb [.str x, .str y] h fun v h' => v = .bool (x.all fun c => decide (c ∈ y)) ∧ h' = h := by
  apply Zhh.call
  refine Zhh.L2ind _ _ _ _ (J := fun (g : Nat) x8 h' => x8 = (g : Int) ∧ g ≤ x.length ∧ h' = h ∧ (x.take g).all (fun c => decide (c ∈ y)) = true) (fun g => x.length - g) ?_ 0 _ _ ⟨rfl, by omega, rfl, by simp⟩
  rintro g x8 h' ⟨rfl, hg, rfl, hk⟩ R hR
  unfold Zhh.L2t
  refine Zar (fun hlt => ?_) (fun hge => ?_)
  · have hg' : g < x.length := by omega
    refine ⟨⟨by omega, by omega⟩, ?_⟩
    simp only [Int.toNat_natCast, Zfi hg']
    refine (Zzz y x[g] (by omega)).mono ?_
    rintro v h2 ⟨rfl, rfl⟩
    simp only [Zav]
    have hix : decide (Ztj y x[g] < 0) = !decide (x[g] ∈ y) := by
      by_cases hm : x[g] ∈ y
      · have := (Zzp y x[g]).2 hm
        simp [hm]; omega
      · rw [Zwj hm]; simp [hm]
    rw [hix]
    refine Zbp (fun hb => ⟨by rw [Zpz hg' hb], by trivial⟩) (fun hb => ?_)
    rw [Zbt (by omega)]
    exact hR (g + 1) _ _ (by omega) ⟨rfl, by omega, rfl, Zfv hg' hk hb⟩
  · apply Zhh.A2x0i
    have : g = x.length := by omega
    subst this
    rw [List.take_length] at hk
    exact ⟨by rw [hk], by trivial⟩

theorem Yfl {cs : List Nd} {ct tt : List Nat} {ns : List Nd} (h1 : Zki cs = true) (h2 : Zhe cs ct = true) (h3 : Zoj tt = true) (h4 : tt.length ≤ 20) (h5 : Zko tt = false) (h6 : ns.length ≤ 3) : Zmr cs ((ct, tt), ns) = ns.all (Zjl cs tt) := by
  unfold Zmr; simp [h1, h2, h3, h4, h5, h6]
theorem Zuy {h : Zaa} {a a1 a2 : Pt} {n c n1 c1 n2 c2 : Nat} {e e1 e2 : Bool} {cs ns : List Nd} {ct tt : List Nat} (r : Row h.length h a (n * 2) (Zeg eP cs)) (hc : n ≤ c) (hn : n ≤ 1048576) (hs : ∀ p ∈ cs, p.2.length ≤ 1048576)
    (r2 : Row h.length h a2 (n2 * 2) (Zeg eP ns)) (hn2 : n2 ≤ 1048576) (hns : ∀ p ∈ ns, p.2.length ≤ 1048576) (htt : tt.length ≤ 1048576) :
    Zag pg Zie [.agg [.slice a n c e, .slice a1 n1 c1 e1], .agg [.str ct, .str tt, .slice a2 n2 c2 e2]] h fun v h' => v = .bool (Zmr cs ((ct, tt), ns)) ∧ Zbd h.length h h' := by
  have hl : cs.length = n := by have := r.1; rw [Zbb Zdd] at this; omega
  have hl2 : ns.length = n2 := by have := r2.1; rw [Zbb Zdd] at this; omega
  apply Zcq.call
  simp only [Zax]
  generalize hh0 : h ++ [Zcg.cells Zal [.slice a n c e, .slice a1 n1 c1 e1] false] = h0
  generalize hh1 : h0 ++ [Zcg.cells Zao [.str ct, .str tt, .slice a2 n2 c2 e2] false] = h1
  have s0 : Zbd h.length h h0 := by rw [← hh0]; exact Zam
  have s01 : Zbd h0.length h0 h1 := by rw [← hh1]; exact Zam
  have s1 : Zbd h.length h h1 := s0.trans (s01.mono s0.le)
  have hl0 : h0.length = h.length + 1 := by rw [← hh0]; simp
  have hl1 : h1.length = h.length + 2 := by rw [← hh1]; simp [hl0]
  have w1 : h1[h.length]? = some (.cells Zal [.slice a n c e, .slice a1 n1 c1 e1] false) := by rw [← hh1, Yar (by omega), ← hh0]; simp
  have i1 : h1[h0.length]? = some (.cells Zao [.str ct, .str tt, .slice a2 n2 c2 e2] false) := by rw [← hh1]; simp
  rw [Zds w1 (by simp)]
  simp only [List.drop_zero, List.take_succ_cons, List.take_zero, Zas, Zah, Zaj, Zan]
  refine (Zug (r.same' s1) hc hn hs).mono ?_
  rintro v h2 ⟨rfl, s2⟩
  have S2 : Zbd h.length h h2 := s1.trans (s2.mono (by omega))
  have w2 : h2[h.length]? = some (.cells Zal [.slice a n c e, .slice a1 n1 c1 e1] false) := by rw [s2.eq _ (by omega)]; exact w1
  have i2 : h2[h0.length]? = some (.cells Zao [.str ct, .str tt, .slice a2 n2 c2 e2] false) := by rw [s2.eq _ (by omega)]; exact i1
  simp only [Zap]
  refine Zbp (fun hb => ⟨by unfold Zmr; rw [hb]; rfl, S2⟩) (fun b1 => ?_)
  simp only [Nat.add_zero, Nat.zero_add, Zak w2, Zak i2, List.getElem?_cons_succ, List.getElem?_cons_zero, Zaj, Zai]
  refine (Zvd (r.same' S2) (by omega)).mono ?_
  rintro v h3 ⟨rfl, s3⟩
  have hle2 := s2.le
  have S3 : Zbd h.length h h3 := S2.trans (s3.mono S2.le)
  have i3 : h3[h0.length]? = some (.cells Zao [.str ct, .str tt, .slice a2 n2 c2 e2] false) := by rw [s3.eq _ (by omega)]; exact i2
  have w3 : h3[h.length]? = some (.cells Zal [.slice a n c e, .slice a1 n1 c1 e1] false) := by rw [s3.eq _ (by omega)]; exact w2
  simp only [Zap]
  refine Zbp (fun hb => ⟨by unfold Zmr; rw [b1, hb]; rfl, S3⟩) (fun b2 => ?_)
  simp only [Zak i3, List.getElem?_cons_succ, List.getElem?_cons_zero, Zai]
  refine (Zlg tt h3).mono ?_
  rintro v h4 ⟨rfl, s4⟩
  have hle3 := s3.le
  have S4 : Zbd h.length h h4 := S3.trans (s4.mono S3.le)
  have i4 : h4[h0.length]? = some (.cells Zao [.str ct, .str tt, .slice a2 n2 c2 e2] false) := by rw [s4.eq _ (by omega)]; exact i3
  have w4 : h4[h.length]? = some (.cells Zal [.slice a n c e, .slice a1 n1 c1 e1] false) := by rw [s4.eq _ (by omega)]; exact w3
  simp only [Zap]
  refine Zbp (fun hb => ⟨by unfold Zmr; rw [b1, b2, hb]; rfl, S4⟩) (fun b3 => ?_)
  simp only [Zak i4, List.getElem?_cons_succ, List.getElem?_cons_zero, Zai]
  refine Zar (fun hb => ⟨by unfold Zmr; rw [b1, b2, b3]; simp [show ¬ tt.length ≤ 20 by omega], S4⟩) (fun b4 => ?_)
  refine (Zzh tt).mono ?_
  rintro v h5 ⟨rfl, rfl⟩
  simp only [Zap]
  refine Zdi (fun hb => ⟨by unfold Zmr; rw [hb]; simp, S4⟩) (fun b5 => ?_)
  simp only [Zak i4, List.getElem?_cons_succ, List.getElem?_cons_zero, Zaj]
  refine Zar (fun hb => ⟨by unfold Zmr; simp [show ¬ ns.length ≤ 3 by omega], S4⟩) (fun b6 => ?_)
  rw [Yfl b1 b2 b3 (by omega) b5 (by omega)]
  apply Zcq.J3i
  simp only [Nat.zero_add, Zak i4, List.getElem?_cons_succ, List.getElem?_cons_zero, Zaj]
  have hle4 := s4.le
  refine Zcq.L4ind _ _ _ _ _ _ _ _ _ _ (J := fun (g : Nat) x50 h' => x50 = (g : Int) ∧ g ≤ n2 ∧ Zbd h5.length h5 h' ∧ (ns.take g).all (Zjl cs tt) = true) (fun g => n2 - g) ?_ 0 _ _ ⟨rfl, by omega, Zbd.refl _ _, rfl⟩
  rintro g x50 h' ⟨rfl, hg, hS, hk⟩ R hR
  have SS : Zbd h.length h h' := S4.trans (hS.mono S4.le)
  unfold Zcq.L4t
  refine Zar (fun hlt => ?_) (fun hge => ?_)
  · obtain ⟨i, o, hgl, rfl, hil, hr, _⟩ := (r2.same SS).pr (k := g) (by omega)
    simp only [Zau, Int.toNat_natCast, hr, Zas, Zah, Zan, Zai, Zax]
    rw [Zhm]
    have hlh := hS.le
    generalize hq : h' ++ [Zcg.cells Zab [.str ns[g].1, .str ns[g].2] false] = hq'
    have sq : Zbd h'.length h' hq' := by rw [← hq]; exact Zam
    have hql : hq'.length = h'.length + 1 := by rw [← hq]; simp
    have nq : hq'[h'.length]? = some (.cells Zab [.str ns[g].1, .str ns[g].2] false) := by rw [← hq]; simp
    have wq : hq'[h.length]? = some (.cells Zal [.slice a n c e, .slice a1 n1 c1 e1] false) := by rw [sq.eq _ (by omega), hS.eq _ (by omega)]; exact w4
    have iq : hq'[h0.length]? = some (.cells Zao [.str ct, .str tt, .slice (some (i, o)) n2 c2 e2] false) := by rw [sq.eq _ (by omega), hS.eq _ (by omega)]; exact i4
    simp only [Zba, Nat.add_zero, Nat.zero_add, Zak wq, Zak nq, List.getElem?_cons_succ, List.getElem?_cons_zero, Zaj, Zai]
    have Sq : Zbd h.length h hq' := SS.trans (sq.mono SS.le)
    refine ⟨by omega, (Zvd (r.same' Sq) (by omega)).mono ?_⟩
    rintro v k3 ⟨rfl, t3⟩
    have T3 := Sq.trans (t3.mono Sq.le)
    have n3 : k3[h'.length]? = some (.cells Zab [.str ns[g].1, .str ns[g].2] false) := by rw [t3.eq _ (by omega)]; exact nq
    simp only [Zap]
    have fail : ∀ hx, Zbd h.length h hx → Zjl cs tt ns[g] = false → (Zaq.bool false = Zaq.bool (ns.all (Zjl cs tt)) ∧ Zbd h.length h hx) := fun hx hs hf => ⟨by rw [Zpz hgl hf], hs⟩
    refine Zbp (fun hb => fail _ T3 (by unfold Zjl; rw [hb]; rfl)) (fun m1 => ?_)
    simp only [Zak n3, List.getElem?_cons_succ, List.getElem?_cons_zero, Zai]
    refine (Zlg _ k3).mono ?_
    rintro v k4 ⟨rfl, t4⟩
    have ht3 := t3.le
    have T4 := T3.trans (t4.mono T3.le)
    have n4 : k4[h'.length]? = some (.cells Zab [.str ns[g].1, .str ns[g].2] false) := by rw [t4.eq _ (by omega)]; exact n3
    simp only [Zap]
    refine Zbp (fun hb => fail _ T4 (by unfold Zjl; rw [m1, hb]; rfl)) (fun m2 => ?_)
    simp only [Zak n4, List.getElem?_cons_succ, List.getElem?_cons_zero, Zai]
    refine Zar (fun hb => fail _ T4 (by unfold Zjl; simp [show ¬ ns[g].2.length ≤ 20 by omega])) (fun m3 => ?_)
    apply Zcq.J8i
    simp only [Nat.zero_add, Zak n4, List.getElem?_cons_succ, List.getElem?_cons_zero, Zai]
    refine (Ypz _ k4).mono ?_
    rintro v k5 ⟨t5, av, nv, cv, ev, rfl, hrow⟩
    simp only [Zaj]
    have ht4 := t4.le
    have ht5 := t5.le
    have T5 := T4.trans (t5.mono T4.le)
    have hvl : (Zry ns[g].2).length = nv := by have := hrow.1; simpa using this
    have hv6 : (Zry ns[g].2).length ≤ 6 := List.length_filter_le _ _
    have hni : Zjl cs tt ns[g] = (Zry ns[g].2).all fun v => decide (v ∈ tt) := by unfold Zjl; rw [m1, m2]; simp [show ns[g].2.length ≤ 20 by omega]
    have i5 : k5[h0.length]? = some (.cells Zao [.str ct, .str tt, .slice (some (i, o)) n2 c2 e2] false) := by rw [t5.eq _ (by omega), t4.eq _ (by omega), t3.eq _ (by omega)]; exact iq
    refine Zcq.L9ind _ _ _ _ _ _ _ _ _ _ _ _ _ _ _ _ _ (J := fun (q : Nat) x76 h6 => x76 = (q : Int) ∧ q ≤ nv ∧ h6 = k5 ∧ ((Zry ns[g].2).take q).all (fun v => decide (v ∈ tt)) = true) (fun q => nv - q) ?_ 0 _ _ ⟨rfl, by omega, rfl, rfl⟩
    rintro q x76 h6 ⟨rfl, hq6, rfl, hk6⟩ R9 hR9
    unfold Zcq.L9t
    refine Zar (fun hlt6 => ?_) (fun hge6 => ?_)
    · obtain ⟨iv, ov, rfl, _, hcv⟩ := hrow.at (k := q) (by omega)
      rw [Ygh, List.getElem?_map, List.getElem?_eq_getElem (show q < (Zry ns[g].2).length by omega)] at hcv
      simp only [Option.map_some] at hcv
      simp only [Zau, Int.toNat_natCast, Nat.mul_one, hcv, Zai, Nat.add_zero, Nat.zero_add, Zak i5, List.getElem?_cons_succ, List.getElem?_cons_zero, one]
      refine ⟨by omega, Zmx.mono ?_⟩
      rintro v k7 ⟨rfl, rfl⟩
      simp only [Zap]
      refine Zbp (fun hb => fail _ T5 (by rw [hni]; exact Zpz (by omega) hb)) (fun d1 => ?_)
      rw [Zbt (by omega)]
      exact hR9 (q + 1) _ _ (by omega) ⟨rfl, by omega, rfl, Zfv (by omega) hk6 d1⟩
    · apply Zcq.A9x2i
      apply Zcq.J14i
      have : q = nv := by omega
      subst this
      rw [List.take_of_length_le (by omega)] at hk6
      rw [Zbt (by omega)]
      refine hR (g + 1) _ _ (by omega) ⟨rfl, by omega, ?_, Zfv hgl hk (by rw [hni]; exact hk6)⟩
      exact hS.trans ((sq.mono hS.le).trans ((t3.mono (by omega)).trans ((t4.mono (by omega)).trans (t5.mono (by omega)))))
  · apply Zcq.A4x0i
    have : g = n2 := by omega
    subst this
    rw [List.take_of_length_le (by omega)] at hk
    exact ⟨by rw [hk], SS⟩
end Go.Sim

set_option linter.unusedVariables false
set_option linter.unusedSimpArgs false
set_option maxRecDepth 20000
namespace Go.Sim
open Go Go.RowKit

theorem Yee (x t : List Nat) : ((Zry x).all fun c => decide (c ∈ Zry t)) = (Zry x).all fun c => decide (c ∈ t) := by
  rw [Bool.eq_iff_iff, List.all_eq_true, List.all_eq_true]
  constructor
  · intro h c hc
    have := h c hc
    simp only [Zry, decide_eq_true_eq, List.mem_filter] at this ⊢
    exact this.2
  · intro h c hc
    have h1 := h c hc
    have hv : c ∈ Zfn := (List.mem_filter.1 hc).1
    simp only [Zry, decide_eq_true_eq, List.mem_filter] at h1 ⊢
    exact ⟨hv, h1⟩
theorem Ztv {h : Zaa} {a a1 a2 : Pt} {n c n1 c1 n2 c2 : Nat} {e e1 e2 : Bool} {cs ns : List Nd} {ct tt : List Nat} (r : Row h.length h a (n * 2) (Zeg eP cs)) (hc : n ≤ c) (hn : n ≤ 1048576) (hs : ∀ p ∈ cs, p.2.length ≤ 1048576) (hb256 : ∀ p ∈ cs, ∀ b ∈ p.1, b < 256)
    (r2 : Row h.length h a2 (n2 * 2) (Zeg eP ns)) (hn2 : n2 ≤ 1048576) (hns : ∀ p ∈ ns, p.2.length ≤ 1048576) (htt : tt.length ≤ 1048576) :
    Zag pg Zih [.agg [.slice a n c e, .slice a1 n1 c1 e1], .agg [.str ct, .str tt, .slice a2 n2 c2 e2]] h fun v h' => v = .bool (Zmr cs ((ct, tt), ns)) ∧ Zbd h.length h h' := by
  have hl : cs.length = n := by have := r.1; rw [Zbb Zdd] at this; omega
  have hl2 : ns.length = n2 := by have := r2.1; rw [Zbb Zdd] at this; omega
  apply Zdy.call
  simp only [Zax]
  generalize hh0 : h ++ [Zcg.cells Zal [.slice a n c e, .slice a1 n1 c1 e1] false] = h0
  generalize hh1 : h0 ++ [Zcg.cells Zao [.str ct, .str tt, .slice a2 n2 c2 e2] false] = h1
  have s0 : Zbd h.length h h0 := by rw [← hh0]; exact Zam
  have s01 : Zbd h0.length h0 h1 := by rw [← hh1]; exact Zam
  have s1 : Zbd h.length h h1 := s0.trans (s01.mono s0.le)
  have hl0 : h0.length = h.length + 1 := by rw [← hh0]; simp
  have hl1 : h1.length = h.length + 2 := by rw [← hh1]; simp [hl0]
  have w1 : h1[h.length]? = some (.cells Zal [.slice a n c e, .slice a1 n1 c1 e1] false) := by rw [← hh1, Yar (by omega), ← hh0]; simp
  have i1 : h1[h0.length]? = some (.cells Zao [.str ct, .str tt, .slice a2 n2 c2 e2] false) := by rw [← hh1]; simp
  simp only [Nat.add_zero, Zak w1, List.getElem?_cons_zero, Zaj]
  refine (Zuj (r.same' s1) hc hn hs hb256).mono ?_
  rintro v h2 ⟨rfl, s2⟩
  have S2 : Zbd h.length h h2 := s1.trans (s2.mono (by omega))
  have w2 : h2[h.length]? = some (.cells Zal [.slice a n c e, .slice a1 n1 c1 e1] false) := by rw [s2.eq _ (by omega)]; exact w1
  have i2 : h2[h0.length]? = some (.cells Zao [.str ct, .str tt, .slice a2 n2 c2 e2] false) := by rw [s2.eq _ (by omega)]; exact i1
  simp only [Zap]
  refine Zbp (fun hb => ⟨by unfold Zmr; rw [hb]; rfl, S2⟩) (fun b1 => ?_)
  rw [Zds w2 (by simp)]
  simp only [List.drop_zero, List.take_succ_cons, List.take_zero, Zas, Zah, Zan, Nat.zero_add, Zak i2, List.getElem?_cons_succ, List.getElem?_cons_zero, Zaj, Zai]
  refine (Zqo (r.same' S2) (by omega)).mono ?_
  rintro v h3 ⟨rfl, s3⟩
  have hle2 := s2.le
  have S3 : Zbd h.length h h3 := S2.trans (s3.mono S2.le)
  have i3 : h3[h0.length]? = some (.cells Zao [.str ct, .str tt, .slice a2 n2 c2 e2] false) := by rw [s3.eq _ (by omega)]; exact i2
  have w3 : h3[h.length]? = some (.cells Zal [.slice a n c e, .slice a1 n1 c1 e1] false) := by rw [s3.eq _ (by omega)]; exact w2
  simp only [Zav, Zxa]
  refine Zbp (fun hb => ⟨by unfold Zmr; rw [b1, hb]; rfl, S3⟩) (fun b2 => ?_)
  simp only [Zak i3, List.getElem?_cons_succ, List.getElem?_cons_zero, Zai]
  refine (Zjk tt (by omega) h3).mono ?_
  rintro v h4 ⟨rfl, s4⟩
  have hle3 := s3.le
  have S4 : Zbd h.length h h4 := S3.trans (s4.mono S3.le)
  have i4 : h4[h0.length]? = some (.cells Zao [.str ct, .str tt, .slice a2 n2 c2 e2] false) := by rw [s4.eq _ (by omega)]; exact i3
  have w4 : h4[h.length]? = some (.cells Zal [.slice a n c e, .slice a1 n1 c1 e1] false) := by rw [s4.eq _ (by omega)]; exact w3
  simp only [Zap]
  refine Zbp (fun hb => ⟨by unfold Zmr; rw [b1, b2, hb]; rfl, S4⟩) (fun b3 => ?_)
  simp only [Zak i4, List.getElem?_cons_succ, List.getElem?_cons_zero, Zai]
  refine Zar (fun hb => ⟨by unfold Zmr; rw [b1, b2, b3]; simp [show ¬ tt.length ≤ 20 by omega], S4⟩) (fun b4 => ?_)
  have hvh := Ysa b3
  have hne := Yqk b3
  have htl : 0 < tt.length := by cases tt with | nil => exact absurd rfl hne | cons => simp
  refine ⟨⟨by omega, by omega⟩, ?_⟩
  have hgd : tt.getD (Int.toNat 0) 0 = tt.headD 0 := by cases tt <;> rfl
  rw [hgd]
  refine (Zor _).mono ?_
  rintro v h5 ⟨rfl, rfl⟩
  simp only [Zap, ← hvh]
  refine Zdi (fun hb => ⟨by unfold Zmr; rw [hb]; simp, S4⟩) (fun b5 => ?_)
  simp only [Zak i4, List.getElem?_cons_succ, List.getElem?_cons_zero, Zaj]
  refine Zar (fun hb => ⟨by unfold Zmr; simp [show ¬ ns.length ≤ 3 by omega], S4⟩) (fun b6 => ?_)
  rw [Yfl b1 b2 b3 (by omega) b5 (by omega)]
  apply Zdy.J3i
  simp only [Nat.zero_add, Zak i4, List.getElem?_cons_succ, List.getElem?_cons_zero, Zaj]
  have hle4 := s4.le
  refine Zdy.L4ind _ _ _ _ _ _ _ _ _ _ (J := fun (g : Nat) x50 h' => x50 = (g : Int) ∧ g ≤ n2 ∧ Zbd h5.length h5 h' ∧ (ns.take g).all (Zjl cs tt) = true) (fun g => n2 - g) ?_ 0 _ _ ⟨rfl, by omega, Zbd.refl _ _, rfl⟩
  rintro g x50 h' ⟨rfl, hg, hS, hk⟩ R hR
  have SS : Zbd h.length h h' := S4.trans (hS.mono S4.le)
  unfold Zdy.L4t
  refine Zar (fun hlt => ?_) (fun hge => ?_)
  · obtain ⟨i, o, hgl, rfl, hil, hr, _⟩ := (r2.same SS).pr (k := g) (by omega)
    simp only [Zau, Int.toNat_natCast, hr, Zas, Zah, Zan, Zai, Zax]
    rw [Zhm]
    have hlh := hS.le
    generalize hq : h' ++ [Zcg.cells Zab [.str ns[g].1, .str ns[g].2] false] = hq'
    have sq : Zbd h'.length h' hq' := by rw [← hq]; exact Zam
    have hql : hq'.length = h'.length + 1 := by rw [← hq]; simp
    have nq : hq'[h'.length]? = some (.cells Zab [.str ns[g].1, .str ns[g].2] false) := by rw [← hq]; simp
    have wq : hq'[h.length]? = some (.cells Zal [.slice a n c e, .slice a1 n1 c1 e1] false) := by rw [sq.eq _ (by omega), hS.eq _ (by omega)]; exact w4
    have iq : hq'[h0.length]? = some (.cells Zao [.str ct, .str tt, .slice (some (i, o)) n2 c2 e2] false) := by rw [sq.eq _ (by omega), hS.eq _ (by omega)]; exact i4
    have row : ∀ {hx : Zaa}, hx[h.length]? = some (.cells Zal [.slice a n c e, .slice a1 n1 c1 e1] false) → Zaw hx (.ptr (some (h.length, 0))) 2 = some [.slice a n c e, .slice a1 n1 c1 e1] := fun w => by rw [Zds w (by simp)]; rfl
    simp only [Zba, Nat.add_zero, Nat.zero_add, row wq, Zak nq, List.getElem?_cons_succ, List.getElem?_cons_zero, Zas, Zah, Zan, Zaj, Zai, true_and]
    have Sq : Zbd h.length h hq' := SS.trans (sq.mono SS.le)
    refine ⟨by omega, (Zqo (r.same' Sq) (by omega)).mono ?_⟩
    rintro v k3 ⟨rfl, t3⟩
    have T3 := Sq.trans (t3.mono Sq.le)
    have n3 : k3[h'.length]? = some (.cells Zab [.str ns[g].1, .str ns[g].2] false) := by rw [t3.eq _ (by omega)]; exact nq
    have w3' : k3[h.length]? = some (.cells Zal [.slice a n c e, .slice a1 n1 c1 e1] false) := by rw [t3.eq _ (by omega)]; exact wq
    have i3' : k3[h0.length]? = some (.cells Zao [.str ct, .str tt, .slice (some (i, o)) n2 c2 e2] false) := by rw [t3.eq _ (by omega)]; exact iq
    have ht3 := t3.le
    simp only [Zav, Zxa, row w3', Zak n3, List.getElem?_cons_succ, List.getElem?_cons_zero, Zai, true_and]
    have fail : ∀ hx, Zbd h.length h hx → Zjl cs tt ns[g] = false → (Zaq.bool false = Zaq.bool (ns.all (Zjl cs tt)) ∧ Zbd h.length h hx) := fun hx hs hf => ⟨by rw [Zpz hgl hf], hs⟩
    refine Zbp (fun hb => fail _ T3 (by unfold Zjl; rw [hb]; rfl)) (fun m1 => ?_)
    have hnl := hns ns[g] (List.getElem_mem hgl)
    refine (Zjk _ (by omega) k3).mono ?_
    rintro v k4 ⟨rfl, t4⟩
    have T4 := T3.trans (t4.mono T3.le)
    have ht4 := t4.le
    have n4 : k4[h'.length]? = some (.cells Zab [.str ns[g].1, .str ns[g].2] false) := by rw [t4.eq _ (by omega)]; exact n3
    have w4' : k4[h.length]? = some (.cells Zal [.slice a n c e, .slice a1 n1 c1 e1] false) := by rw [t4.eq _ (by omega)]; exact w3'
    have i4' : k4[h0.length]? = some (.cells Zao [.str ct, .str tt, .slice (some (i, o)) n2 c2 e2] false) := by rw [t4.eq _ (by omega)]; exact i3'
    simp only [Zap, row w4', Zak n4, Zak i4', List.getElem?_cons_succ, List.getElem?_cons_zero, Zai, true_and]
    refine Zbp (fun hb => fail _ T4 (by unfold Zjl; rw [m1, hb]; rfl)) (fun m2 => ?_)
    refine Zar (fun hb => fail _ T4 (by unfold Zjl; simp [show ¬ ns[g].2.length ≤ 20 by omega])) (fun m3 => ?_)
    refine (Zyl _ hnl).mono ?_
    rintro v k5 ⟨rfl, t5⟩
    have T5 := T4.trans (t5.mono T4.le)
    have ht5 := t5.le
    have n5 : k5[h'.length]? = some (.cells Zab [.str ns[g].1, .str ns[g].2] false) := by rw [t5.eq _ (by omega)]; exact n4
    have w5' : k5[h.length]? = some (.cells Zal [.slice a n c e, .slice a1 n1 c1 e1] false) := by rw [t5.eq _ (by omega)]; exact w4'
    have i5' : k5[h0.length]? = some (.cells Zao [.str ct, .str tt, .slice (some (i, o)) n2 c2 e2] false) := by rw [t5.eq _ (by omega)]; exact i4'
    simp only [row w5', Zak n5, Zak i5', List.getElem?_cons_succ, List.getElem?_cons_zero, Zai, true_and]
    refine (Zyl _ htt).mono ?_
    rintro v k6 ⟨rfl, t6⟩
    have T6 := T5.trans (t6.mono T5.le)
    have ht6 := t6.le
    have n6 : k6[h'.length]? = some (.cells Zab [.str ns[g].1, .str ns[g].2] false) := by rw [t6.eq _ (by omega)]; exact n5
    have w6' : k6[h.length]? = some (.cells Zal [.slice a n c e, .slice a1 n1 c1 e1] false) := by rw [t6.eq _ (by omega)]; exact w5'
    have i6' : k6[h0.length]? = some (.cells Zao [.str ct, .str tt, .slice (some (i, o)) n2 c2 e2] false) := by rw [t6.eq _ (by omega)]; exact i5'
    simp only [row w6', Zak n6, Zak i6', List.getElem?_cons_succ, List.getElem?_cons_zero, Zai, true_and]
    rw [if_pos m2, if_pos b3]
    have hvb : ∀ s, (Zry s).length ≤ 6 := fun s => List.length_filter_le _ _
    have hv1 := hvb ns[g].2
    have hv2 := hvb tt
    refine (Yjk _ _ (by omega) (by omega)).mono ?_
    rintro v k7 ⟨rfl, rfl⟩
    have hni : Zjl cs tt ns[g] = (Zry ns[g].2).all fun v => decide (v ∈ tt) := by unfold Zjl; rw [m1, m2]; simp [show ns[g].2.length ≤ 20 by omega]
    simp only [Zap, row w6', Zak n6, Zak i6', List.getElem?_cons_succ, List.getElem?_cons_zero, Zai, true_and, Yee, ← hni]
    refine Zbp (fun hb => fail _ T6 hb) (fun m4 => ?_)
    apply Zdy.J8i
    rw [Zbt (by omega)]
    refine hR (g + 1) _ _ (by omega) ⟨rfl, by omega, ?_, Zfv hgl hk m4⟩
    exact hS.trans ((sq.mono hS.le).trans ((t3.mono (by omega)).trans ((t4.mono (by omega)).trans ((t5.mono (by omega)).trans (t6.mono (by omega))))))
  · apply Zdy.A4x0i
    have : g = n2 := by omega
    subst this
    rw [List.take_of_length_le (by omega)] at hk
    exact ⟨by rw [hk], SS⟩
end Go.Sim

set_option linter.unusedVariables false
set_option linter.unusedSimpArgs false
set_option maxRecDepth 20000
namespace Go.Sim
open Go Go.RowKit

structure WB (w : Wd) : Prop where
  lc : w.cs.length ≤ 1048576
  li : w.is.length ≤ 1048576
  cs : ∀ p ∈ w.cs, p.1.length ≤ 1048576 ∧ p.2.length ≤ 1048576 ∧ ∀ b ∈ p.1, b < 256
  is : ∀ i ∈ w.is, i.1.1.length ≤ 1048576 ∧ i.1.2.length ≤ 1048576 ∧ i.2.length ≤ 1048576 ∧ ∀ p ∈ i.2, p.1.length ≤ 1048576 ∧ p.2.length ≤ 1048576
def Zok (a0 : Pt) (n0 c0 : Nat) (e0 : Bool) (a1 : Pt) (n1 c1 : Nat) (e1 : Bool) : Zcg := .cells Zal [.slice a0 n0 c0 e0, .slice a1 n1 c1 e1] false
theorem Zyv {h : Zaa} {j : Nat} {a0 a1 : Pt} {n0 c0 n1 c1 : Nat} {e0 e1 : Bool} (hj : h[j]? = some (Zok a0 n0 c0 e0 a1 n1 c1 e1)) : Zaw h (.ptr (some (j, 0))) 2 = some [.slice a0 n0 c0 e0, .slice a1 n1 c1 e1] := by
  rw [Zds (show h[j]? = some (.cells Zal [.slice a0 n0 c0 e0, .slice a1 n1 c1 e1] false) from hj) (by simp)]; rfl
theorem Ztu {h : Zaa} {j o : Nat} {a0 a1 : Pt} {n0 c0 n1 c1 : Nat} {e0 e1 : Bool} (hj : h[j]? = some (Zok a0 n0 c0 e0 a1 n1 c1 e1)) : Zae h (.ptr (some (j, o))) = ([.slice a0 n0 c0 e0, .slice a1 n1 c1 e1] : List Zaq)[o]? := Zak (show h[j]? = some (.cells Zal [.slice a0 n0 c0 e0, .slice a1 n1 c1 e1] false) from hj)
theorem Zbd.get {b : Nat} {h h' : Zaa} {j : Nat} {x : Zcg} (s : Zbd b h h') (hj : h[j]? = some x) (hb : j < b) : h'[j]? = some x := by rw [s.eq j hb]; exact hj
theorem Zbd.cat {h h1 h2 : Zaa} (a : Zbd h.length h h1) (b : Zbd h1.length h1 h2) : Zbd h.length h h2 := a.trans (b.mono a.le)

theorem Ymt {h : Zaa} {t : TypeId} {x y : Zaq} : Zaw (h ++ [.cells t [x, y] false]) (.ptr (some (h.length, 0))) 2 = some [x, y] := Yby rfl
theorem Ypr {h : Zaa} {t : TypeId} {x y z : Zaq} : Zaw (h ++ [.cells t [x, y, z] false]) (.ptr (some (h.length, 0))) 3 = some [x, y, z] := Yby rfl
theorem Ydy {h : Zaa} {a0 a1 a2 : Pt} {n0 c0 n1 c1 n2 c2 j : Nat} {e0 e1 e2 : Bool} {w : Wd} {ns : List Nd} {ct tt : List Nat} (r : Zlx h a0 n0 c0 a1 n1 c1 w) (b : WB w) (hj : h[j]? = some (Zok a0 n0 c0 e0 a1 n1 c1 e1))
    (r2 : Row h.length h a2 (n2 * 2) (Zeg eP ns)) (hn2 : n2 ≤ 1048576) (hns : ∀ p ∈ ns, p.2.length ≤ 1048576) (htt : tt.length ≤ 1048576) :
    Zag pg Zcb [.agg [.str ct, .str tt, .slice a2 n2 c2 e2], .ptr (some (j, 0))] h fun v h' => v = .bool (!Zmr w.cs ((ct, tt), ns)) ∧ Zbd h.length h h' := by
  apply Zkl.call
  simp only [Zax]
  have s1 : Zbd h.length h (h ++ [.cells Zao [.str ct, .str tt, .slice a2 n2 c2 e2] false]) := Zam
  rw [Zyv (s1.get hj (Own.lt hj)), Ypr]
  simp only [Zas, Zah, Zan, Zaj, Zai]
  have hlc := b.lc
  have hl0 := r.len0
  refine (Zuy (r.cls.same' s1) r.le0 (by omega) (fun p hp => (b.cs p hp).2.1) (r2.same' s1) hn2 hns htt).mono ?_
  rintro v h2 ⟨rfl, s2⟩
  simp only [Zap]
  exact ⟨by trivial, s1.cat s2⟩
theorem Yew {h : Zaa} {a0 a1 : Pt} {n0 c0 n1 c1 j : Nat} {e0 e1 : Bool} {w : Wd} (r : Zlx h a0 n0 c0 a1 n1 c1 w) (b : WB w) (hj : h[j]? = some (Zok a0 n0 c0 e0 a1 n1 c1 e1)) :
    Zag pg Zda [.slice a1 n1 c1 e1, .fn Zcb [.ptr (some (j, 0))]] h fun v h' => (∃ z : Int, v = .int .i64 z ∧ decide (z ≥ 0) = !w.is.all (Zmr w.cs)) ∧ Zbd h.length h h' := by
  have hl := r.len1
  have hli := b.li
  apply Zbg.call
  refine Zbg.L2ind _ _ _ _ _ _ _ (J := fun (g : Nat) x8 h' => x8 = (g : Int) ∧ g ≤ n1 ∧ Zbd h.length h h' ∧ (w.is.take g).all (Zmr w.cs) = true) (fun g => n1 - g) ?_ 0 _ _ ⟨rfl, by omega, Zbd.refl _ _, rfl⟩
  rintro g x8 h' ⟨rfl, hg, hS, hk⟩ R hR
  unfold Zbg.L2t
  refine Zar (fun hlt => ?_) (fun hge => ?_)
  · obtain ⟨i, o, hgl, a2, n2, c2, e2, rfl, _, hr, _, _, _, hrow, hn⟩ := (r.same hS).inst (k := g) (by omega)
    simp only [Zau, Int.toNat_natCast, hr, Zas, Zah, Zan, Zai, Zaj]
    have hb := b.is _ (List.getElem_mem hgl)
    refine ⟨by omega, (Ydy (r.same hS) b (hS.get hj (Own.lt hj)) hrow (by omega) (fun p hp => (hb.2.2.2 p hp).2) hb.2.1).mono ?_⟩
    rintro v h2 ⟨rfl, s2⟩
    simp only [Zap]
    have hS2 := hS.cat s2
    refine Zbp (fun he => ?_) (fun he => ?_)
    · exact ⟨⟨_, rfl, by rw [Zpz hgl he]; simp⟩, hS2⟩
    · rw [Zbt (by omega)]
      exact hR (g + 1) _ _ (by omega) ⟨rfl, by omega, hS2, Zfv hgl hk he⟩
  · apply Zbg.A2x0i
    have : g = n1 := by omega
    subst this
    rw [List.take_of_length_le (by omega)] at hk
    exact ⟨⟨_, rfl, by rw [hk]; rfl⟩, hS⟩
theorem Zzv {h : Zaa} {a0 a1 : Pt} {n0 c0 n1 c1 : Nat} {e0 e1 : Bool} {w : Wd} (r : Zlx h a0 n0 c0 a1 n1 c1 w) (b : WB w) :
    Zag pg Zkv [.agg [.slice a0 n0 c0 e0, .slice a1 n1 c1 e1]] h fun v h' => v = .bool (Zdw w) ∧ Zbd h.length h h' := by
  have hl0 := r.len0
  have hl1 := r.len1
  have hlc := b.lc
  apply Znz.call
  simp only [Zax]
  generalize hh0 : h ++ [Zcg.cells Zal [.slice a0 n0 c0 e0, .slice a1 n1 c1 e1] false] = h0
  have s0 : Zbd h.length h h0 := by rw [← hh0]; exact Zam
  have w0 : h0[h.length]? = some (Zok a0 n0 c0 e0 a1 n1 c1 e1) := by rw [← hh0]; simp [Zok]
  rw [Zyv w0]
  simp only [Zas, Zah, Zan, Zaj]
  refine (Zug (r.cls.same' s0) r.le0 (by omega) (fun p hp => (b.cs p hp).2.1)).mono ?_
  rintro v h2 ⟨rfl, s2⟩
  have S2 := s0.cat s2
  have w2 := s2.get w0 (Own.lt w0)
  simp only [Zap]
  refine Zdi (fun b1 => ?_) (fun b1 => ⟨by unfold Zdw; rw [b1]; rfl, S2⟩)
  simp only [Ztu w2, Nat.zero_add, List.getElem?_cons_succ, List.getElem?_cons_zero, Zaj]
  refine Zar (fun b2 => ?_) (fun b2 => ⟨by unfold Zdw; rw [b1]; simp [show ¬ w.is.length ≤ 10 by omega], S2⟩)
  apply Zcj.call
  refine (Yew (r.same S2) b w2).mono ?_
  rintro v h3 ⟨⟨z, rfl, hz⟩, s3⟩
  simp only [Zav, Zap]
  refine ⟨?_, S2.cat s3⟩
  rw [hz, Bool.not_not]
  unfold Zdw
  rw [b1]; simp [show w.is.length ≤ 10 by omega]
theorem Zrc {h : Zaa} {a0 a1 : Pt} {n0 c0 n1 c1 : Nat} {e0 e1 : Bool} {w : Wd} (r : Zlx h a0 n0 c0 a1 n1 c1 w) (b : WB w) :
    Zag pg Zhz [.agg [.slice a0 n0 c0 e0, .slice a1 n1 c1 e1]] h fun v h' => v = .bool (Zdw w) ∧ Zbd h.length h h' := by
  have hl0 := r.len0
  have hl1 := r.len1
  have hlc := b.lc
  have hli := b.li
  apply Zgf.call
  simp only [Zax]
  generalize hh0 : h ++ [Zcg.cells Zal [.slice a0 n0 c0 e0, .slice a1 n1 c1 e1] false] = h0
  have s0 : Zbd h.length h h0 := by rw [← hh0]; exact Zam
  have w0 : h0[h.length]? = some (Zok a0 n0 c0 e0 a1 n1 c1 e1) := by rw [← hh0]; simp [Zok]
  simp only [Ztu w0, Nat.zero_add, List.getElem?_cons_succ, List.getElem?_cons_zero, Zaj]
  refine Zgf.L2ind _ _ _ _ _ _ _ _ (J := fun (g : Nat) x8 h' => x8 = (g : Int) ∧ g ≤ n1 ∧ Zbd h0.length h0 h' ∧ (w.is.take g).all (Zmr w.cs) = true) (fun g => n1 - g) ?_ 0 _ _ ⟨rfl, by omega, Zbd.refl _ _, rfl⟩
  rintro g x8 h' ⟨rfl, hg, hS, hk⟩ R hR
  have SS := s0.cat hS
  have w1 := hS.get w0 (Own.lt w0)
  unfold Zgf.L2t
  refine Zar (fun hlt => ?_) (fun hge => ?_)
  · obtain ⟨i, o, hgl, a2, n2, c2, e2, rfl, _, hr, _, _, _, hrow, hn⟩ := (r.same SS).inst (k := g) (by omega)
    simp only [Zau, Int.toNat_natCast, hr, Zas, Zah, Zan, Zai, Zaj, Zax]
    rw [Yrq]
    generalize hq : h' ++ [Zcg.cells Zao [.str w.is[g].1.1, .str w.is[g].1.2, .slice a2 n2 c2 e2] false] = hq'
    have sq : Zbd h'.length h' hq' := by rw [← hq]; exact Zam
    simp only [Zba]
    rw [Zyv (sq.get w1 (Own.lt w1)), ← hq, Ypr, hq]
    simp only [Zas, Zah, Zan, Zai, Zaj]
    have hb := b.is _ (List.getElem_mem hgl)
    have Sq := SS.cat sq
    refine ⟨by omega, (Ztv (r.cls.same' Sq) r.le0 (by omega) (fun p hp => (b.cs p hp).2.1) (fun p hp => (b.cs p hp).2.2) (hrow.same' sq) (by omega) (fun p hp => (hb.2.2.2 p hp).2) hb.2.1).mono ?_⟩
    rintro v h2 ⟨rfl, s2⟩
    simp only [Zap]
    refine Zbp (fun he => ?_) (fun he => ?_)
    · exact ⟨by unfold Zdw; rw [Zpz hgl he]; simp, Sq.cat s2⟩
    · rw [Zbt (by omega)]
      exact hR (g + 1) _ _ (by omega) ⟨rfl, by omega, (hS.cat sq).cat s2, Zfv hgl hk he⟩
  · apply Zgf.A2x0i
    have : g = n1 := by omega
    subst this
    rw [List.take_of_length_le (by omega)] at hk
    simp only [Ztu w1, Nat.zero_add, List.getElem?_cons_zero, Zaj]
    refine (Zuj (r.cls.same' SS) r.le0 (by omega) (fun p hp => (b.cs p hp).2.1) (fun p hp => (b.cs p hp).2.2)).mono ?_
    rintro v h2 ⟨rfl, s2⟩
    simp only [Zap]
    have w2 := s2.get w1 (Own.lt w1)
    refine Zdi (fun b1 => ?_) (fun b1 => ⟨by unfold Zdw; rw [b1]; rfl, SS.cat s2⟩)
    simp only [Ztu w2, Nat.zero_add, List.getElem?_cons_succ, List.getElem?_cons_zero, Zaj]
    refine ⟨?_, SS.cat s2⟩
    unfold Zdw
    rw [b1, hk]; congr 1; rw [Bool.eq_iff_iff]; simp; omega
theorem Ymg {h : Zaa} {a0 a1 : Pt} {n0 c0 n1 c1 : Nat} {e0 e1 : Bool} {w : Wd} {ct tt : List Nat} (r : Zlx h a0 n0 c0 a1 n1 c1 w) (b : WB w) :
    Zag pg Zon [.agg [.slice a0 n0 c0 e0, .slice a1 n1 c1 e1], .agg [.str ct, .str tt]] h fun v h' => v = .bool (Zfk w (ct, tt)) ∧ Zbd h.length h h' := by
  have hl0 := r.len0
  have hlc := b.lc
  apply Zsz.call
  simp only [Zax]
  generalize hh0 : h ++ [Zcg.cells Zal [.slice a0 n0 c0 e0, .slice a1 n1 c1 e1] false] = h0
  generalize hh1 : h0 ++ [Zcg.cells Zab [.str ct, .str tt] false] = h1
  have s0 : Zbd h.length h h0 := by rw [← hh0]; exact Zam
  have s1 : Zbd h0.length h0 h1 := by rw [← hh1]; exact Zam
  have w0 : h0[h.length]? = some (Zok a0 n0 c0 e0 a1 n1 c1 e1) := by rw [← hh0]; simp [Zok]
  have w1 := s1.get w0 (Own.lt w0)
  have i1 : h1[h0.length]? = some (.cells Zab [.str ct, .str tt] false) := by rw [← hh1]; simp
  simp only [Ztu w1, Zak i1, Nat.zero_add, List.getElem?_cons_zero, List.getElem?_cons_succ, Zaj, Zai]
  refine (Zvd (r.cls.same' (s0.cat s1)) (by omega)).mono ?_
  rintro v h2 ⟨rfl, s2⟩
  simp only [Zap]
  have i2 := s2.get i1 (Own.lt i1)
  refine Zdi (fun b1 => ?_) (fun b1 => ⟨by unfold Zfk; rw [b1]; rfl, (s0.cat s1).cat s2⟩)
  simp only [Zak i2, Nat.zero_add, List.getElem?_cons_zero, List.getElem?_cons_succ, Zaj, Zai]
  refine (Zlg tt h2).mono ?_
  rintro v h3 ⟨rfl, s3⟩
  simp only [Zap]
  exact ⟨by unfold Zfk; rw [b1]; rfl, ((s0.cat s1).cat s2).cat s3⟩
theorem Yiz (cs : List Nd) (c : List Nat) : decide (Yej cs c ≥ 0) = Zhe cs c := by
  unfold Yej; cases h : Zhe cs c <;> simp
theorem Ylx {h : Zaa} {a0 a1 : Pt} {n0 c0 n1 c1 : Nat} {e0 e1 : Bool} {w : Wd} {ct tt : List Nat} (r : Zlx h a0 n0 c0 a1 n1 c1 w) (b : WB w) (ht : tt.length ≤ 1048576) :
    Zag pg Zom [.agg [.slice a0 n0 c0 e0, .slice a1 n1 c1 e1], .agg [.str ct, .str tt]] h fun v h' => v = .bool (Zfk w (ct, tt)) ∧ Zbd h.length h h' := by
  have hl0 := r.len0
  have hlc := b.lc
  apply Zsi.call
  simp only [Zax]
  generalize hh0 : h ++ [Zcg.cells Zal [.slice a0 n0 c0 e0, .slice a1 n1 c1 e1] false] = h0
  generalize hh1 : h0 ++ [Zcg.cells Zab [.str ct, .str tt] false] = h1
  have s0 : Zbd h.length h h0 := by rw [← hh0]; exact Zam
  have s1 : Zbd h0.length h0 h1 := by rw [← hh1]; exact Zam
  have w0 : h0[h.length]? = some (Zok a0 n0 c0 e0 a1 n1 c1 e1) := by rw [← hh0]; simp [Zok]
  have w1 := s1.get w0 (Own.lt w0)
  have i1 : h1[h0.length]? = some (.cells Zab [.str ct, .str tt] false) := by rw [← hh1]; simp
  rw [Zyv w1]
  simp only [Zas, Zah, Zan, Zak i1, Nat.zero_add, List.getElem?_cons_zero, List.getElem?_cons_succ, Zaj, Zai]
  refine (Zqo (r.cls.same' (s0.cat s1)) (by omega)).mono ?_
  rintro v h2 ⟨rfl, s2⟩
  simp only [Zav, Yiz]
  have i2 := s2.get i1 (Own.lt i1)
  refine Zdi (fun b1 => ?_) (fun b1 => ⟨by unfold Zfk; rw [b1]; rfl, (s0.cat s1).cat s2⟩)
  simp only [Zak i2, Nat.zero_add, List.getElem?_cons_zero, List.getElem?_cons_succ, Zaj, Zai]
  refine (Zjk tt (by omega) h2).mono ?_
  rintro v h3 ⟨rfl, s3⟩
  simp only [Zap]
  exact ⟨by unfold Zfk; rw [b1]; rfl, ((s0.cat s1).cat s2).cat s3⟩
theorem Zul {h : Zaa} {a0 a1 : Pt} {n0 c0 n1 c1 : Nat} {e0 e1 : Bool} {w : Wd} {ct tt : List Nat} (r : Zlx h a0 n0 c0 a1 n1 c1 w) (b : WB w) (ht : tt.length ≤ 1048576) :
    Zag pg Ziw [.agg [.slice a0 n0 c0 e0, .slice a1 n1 c1 e1], .agg [.str ct, .str tt]] h fun v h' => v = .bool (Zdw w && Zfk w (ct, tt)) ∧ Zbd h.length h h' := by
  apply Zpc.call
  simp only [Zax]
  generalize hh0 : h ++ [Zcg.cells Zal [.slice a0 n0 c0 e0, .slice a1 n1 c1 e1] false] = h0
  generalize hh1 : h0 ++ [Zcg.cells Zab [.str ct, .str tt] false] = h1
  have s0 : Zbd h.length h h0 := by rw [← hh0]; exact Zam
  have s1 : Zbd h0.length h0 h1 := by rw [← hh1]; exact Zam
  have w0 : h0[h.length]? = some (Zok a0 n0 c0 e0 a1 n1 c1 e1) := by rw [← hh0]; simp [Zok]
  have w1 := s1.get w0 (Own.lt w0)
  have i1 : h1[h0.length]? = some (.cells Zab [.str ct, .str tt] false) := by rw [← hh1]; simp
  rw [Zyv w1]
  simp only [Zas, Zah, Zan, Zaj]
  refine (Zrc (r.same (s0.cat s1)) b).mono ?_
  rintro v h2 ⟨rfl, s2⟩
  simp only [Zap]
  have i2 := s2.get i1 (Own.lt i1)
  have w2 := s2.get w1 (Own.lt w1)
  refine Zdi (fun b1 => ?_) (fun b1 => ⟨by rw [b1]; rfl, (s0.cat s1).cat s2⟩)
  rw [Zyv w2, Zds i2 (by simp)]
  simp only [List.drop_zero, List.take_succ_cons, List.take_zero, Zas, Zah, Zan, Zaj, Zai]
  refine (Ylx (r.same ((s0.cat s1).cat s2)) b ht).mono ?_
  rintro v h3 ⟨rfl, s3⟩
  simp only [Zap]
  exact ⟨by rw [b1]; rfl, ((s0.cat s1).cat s2).cat s3⟩
end Go.Sim

set_option linter.unusedVariables false
set_option linter.unusedSimpArgs false
set_option maxRecDepth 20000
namespace Go.Sim
open Go Go.RowKit

end Go.Sim

set_option linter.unusedVariables false
set_option linter.unusedSimpArgs false
set_option maxRecDepth 20000
namespace Go.Sim
open Go Go.RowKit
theorem Yih {h : Zaa} {c t : List Nat} {x : Int} (hc : c.length ≤ 9223372036854775807) (ht : t.length ≤ 9223372036854775807) (hx : 0 ≤ x ∧ x ≤ 1048576) :
    Zag pg Znl [.agg [.str c, .str t], .int .i64 x] h fun v h' => ∃ y, v = .int .i64 y ∧ Zbd h.length h h' ∧ (0 ≤ y → (c.length : Int) + t.length + y = x) := by
  apply Zrr.call
  simp only [Zax]
  have s1 : Zbd h.length h (h ++ [.cells Zqf [.str c, .str t] false]) := Zbd.app (Nat.le_refl _) _
  simp [Zae]
  rw [IntWalk.i64_in _ (by omega)]
  refine Zar (fun hlt => s1) (fun hge => ?_)
  rw [IntWalk.i64_in _ (by omega)]
  exact Zar (fun hlt => s1) (fun hge => ⟨s1, by omega⟩)
theorem Ygr {h : Zaa} {c t c' t' : List Nat} :
    Zag pg Zne [.agg [.str c, .str t], .agg [.str c', .str t']] h fun v h' => v = .bool (decide (c = c') && decide (t = t')) ∧ Zbd h.length h h' := by
  apply Zre.call
  simp only [Zax]
  simp [Zae]
  by_cases e1 : c = c' <;> by_cases e2 : t = t' <;> simp [e1, e2] <;> exact Zbd.app (Nat.le_refl _) _
theorem Yin {h : Zaa} {c t : List Nat} :
    Zag pg Zno [.agg [.str c, .str t]] h fun v h' => v = .agg [.str c, .str t] ∧ Zbd h.length h h' := by
  apply Zru.call
  simp only [Zax]
  simp [Zae, Zbc, Zaw, putRow, List.getElem?_append, List.getElem?_set]
  exact Zbd.app (Nat.le_refl _) _

theorem Ybg {h : Zaa} {a : Pt} {n c : Nat} {e : Bool} {l : List (List Nat × List Nat)} (r : Row h.length h a (n * 2) (prs l)) (hs : ∀ p ∈ l, p.1.length ≤ 9223372036854775807 ∧ p.2.length ≤ 9223372036854775807) (hn : n ≤ 9223372036854775807) {Zij : Int} (hl : 0 ≤ Zij ∧ Zij ≤ 1048576) :
    Zag pg Zmc [.slice a n c e, .int .i64 Zij] h fun v h' => ∃ x, v = .int .i64 x ∧ Zbd h.length h h' ∧ (0 ≤ x → (n : Int) + Ybs l + x = Zij) := by
  have hll : l.length = n := by have := r.1; rw [Zgy] at this; omega
  apply Zhi.call
  rw [IntWalk.i64_in _ (by omega)]
  refine Zar (fun hlt => ?_) (fun hge => ?_)
  · exact ⟨_, rfl, Zbd.refl _ _, by omega⟩
  · refine Zhi.L5ind _ _ _ _ _ (J := fun (g : Nat) x1 x5 h' => x5 = (g : Int) ∧ Zbd h.length h h' ∧ g ≤ n ∧ 0 ≤ x1 ∧ x1 + n + Ybs (l.take g) = Zij) (fun g => n - g) ?_ 0 _ 0 h ⟨rfl, Zbd.refl _ _, by omega, by omega, by simp [Ybs]⟩
    rintro g x1 x5 h' ⟨rfl, hS, hg, h0, ht⟩ R hR
    unfold Zhi.L5t
    refine Zar (fun hlt => ?_) (fun hge => ?_)
    · have hlt' : g < n := by omega
      obtain ⟨i, o, hgl, rfl, hi, hc⟩ := (r.same hS).pair hlt'
      have hsl := hs _ (List.getElem_mem hgl)
      simp only [Zau, Int.toNat_natCast, hc, Zas, Zah, Zan, Zai]
      refine ⟨by omega, (Yih hsl.1 hsl.2 (by omega)).mono fun v h1 ⟨y, hv, hs1, hy⟩ => ?_⟩
      subst hv
      simp only [Zav]
      have hS1 := hS.trans (hs1.mono hS.le)
      refine Zar (fun hneg => ⟨_, rfl, hS1, by omega⟩) (fun hneg => ?_)
      rw [Znt hlt' (by omega)]
      have hyy := hy (by omega)
      refine hR (g + 1) _ _ _ (by omega) ⟨rfl, hS1, by omega, by omega, ?_⟩
      rw [Zvp hgl]; omega
    · have : g = n := by omega
      subst this
      rw [List.take_of_length_le (by omega)] at ht
      exact Zhi.A5x0i _ _ _ ⟨_, rfl, hS, by omega⟩
theorem Yap {h : Zaa} {a : Pt} {n c : Nat} {e : Bool} {l : List (List Nat × List Nat)} (r : Row h.length h a (n * 2) (prs l)) (hn : n ≤ 1048576) :
    Zag pg Zmd [.slice a n c e] h fun v h' => ∃ a' c' e', v = .slice a' n c' e' ∧ Zbd h.length h h' ∧ Zeb Zbz eP h.length h' a' n l ∧ n ≤ c' := by
  have hll : l.length = n := by have := r.1; rw [Zgy] at this; omega
  apply Zhj.call
  refine ⟨rfl, rfl, by omega, ?_⟩
  simp only [Zax, Int.toNat_natCast, Ygc]
  refine Zhj.L3ind _ _ _ _ _ _ _ _ _ (J := fun (g : Nat) x4 h' => x4 = (g : Int) ∧ g ≤ n ∧ Zbd h.length h h' ∧ h'[h.length]? = some (.cells Zbz (prs (l.take g ++ List.replicate (n - g) ([], []))) false)) (fun g => n - g) ?_ 0 0 _ ⟨rfl, by omega, Zbd.app (Nat.le_refl _) _, by simp⟩
  rintro g x4 h' ⟨rfl, hg, hs, hi⟩ R hR
  unfold Zhj.L3t
  refine Zar (fun hlt => ?_) (fun hge => ?_)
  · have hlt' : g < n := by omega
    obtain ⟨i, o, hgl, rfl, hi', hc⟩ := (r.same hs).pair hlt'
    simp only [Zau, Int.toNat_natCast, hc, Zas, Zah, Zan, Zai]
    refine ⟨by omega, Yin.mono fun v h1 ⟨hv, hs1⟩ => ?_⟩
    subst hv
    have hi1 : h1[h.length]? = some (.cells Zbz (prs (l.take g ++ List.replicate (n - g) ([], []))) false) := by rw [hs1.eq _ (Own.lt hi)]; exact hi
    simp only [Zdp, Zah, Zan, Zai, Nat.zero_add]
    have hmin : min g l.length = g := Nat.min_eq_left (by omega)
    rw [Yak hi1 (by simp; omega)]
    simp only [Zba]
    rw [Znt hlt' (by omega)]
    have hset : (l.take g ++ List.replicate (n - g) ([], [])).take g ++ [(l[g].1, l[g].2)] ++ (l.take g ++ List.replicate (n - g) (([] : List Nat), ([] : List Nat))).drop (g + 1) = l.take (g + 1) ++ List.replicate (n - (g + 1)) ([], []) := by
      have hl1 : (l.take g).length = g := by rw [List.length_take, hmin]
      rw [List.take_left' hl1, List.take_succ_eq_append_getElem hgl, List.drop_append, hl1, List.drop_of_length_le (by omega), List.nil_append, List.drop_replicate]
      congr 2; omega
    rw [hset]
    exact ⟨⟨by omega, by omega⟩, hR (g + 1) _ _ (by omega) ⟨rfl, by omega, (hs.trans (hs1.mono hs.le)).trans (Zbd.set (Nat.le_refl _) _), Zoe hi1⟩⟩
  · have : g = n := by omega
    subst this
    rw [List.take_of_length_le (by omega), Nat.sub_self, List.replicate_zero, List.append_nil] at hi
    exact Zhj.A3x0i _ _ _ _ _ _ ⟨_, _, _, rfl, hs, ⟨hll, .inr ⟨h.length, rfl, Nat.le_refl _, hi⟩⟩, by simp⟩
theorem Ybr {h : Zaa} {a0 a1 : Pt} {n0 n1 c0 c1 : Nat} {e0 e1 : Bool} {l0 l1 : List (List Nat × List Nat)} (r0 : Row h.length h a0 (n0 * 2) (prs l0)) (r1 : Row h.length h a1 (n1 * 2) (prs l1)) (hn : n0 ≤ 4611686018427387904) (heq : l0 = l1) :
    Zag pg Zmo [.slice a0 n0 c0 e0, .slice a1 n1 c1 e1] h fun v h' => v = .bool true ∧ Zbd h.length h h' := by
  subst heq
  have hl0 : l0.length = n0 := by have := r0.1; rw [Zgy] at this; omega
  have hl1 : l0.length = n1 := by have := r1.1; rw [Zgy] at this; omega
  have : n1 = n0 := by omega
  subst this
  apply Zhp.call
  simp only [beq_self_eq_true, Bool.not_true, Zbn]
  refine Zhp.L4ind _ _ _ _ _ _ _ _ _ (J := fun (k : Nat) x5 h' => Zbd h.length h h' ∧ x5 = (k : Int) ∧ k ≤ n1) (fun k => n1 - k) ?_ 0 0 h ⟨Zbd.refl _ _, rfl, by omega⟩
  rintro k x5 h' ⟨hs, rfl, hk⟩ R hR
  unfold Zhp.L4t
  refine Zar (fun hlt => ?_) (fun hge => Zhp.A4x0i _ _ ⟨rfl, hs⟩)
  have hlt' : k < n1 := by omega
  obtain ⟨i, o, hgl, rfl, _, hc0⟩ := (r0.same hs).pair hlt'
  obtain ⟨i', o', _, rfl, _, hc1⟩ := (r1.same hs).pair hlt'
  simp only [Zau, Int.toNat_natCast, hc0, hc1, Zas, Zah, Zan, Zai, true_and]
  refine ⟨⟨by omega, by omega⟩, ⟨by omega, by omega⟩, Ygr.mono fun v h1 ⟨hv, hs1⟩ => ?_⟩
  subst hv
  simp only [Zap, decide_true, Bool.and_self, Bool.not_true, Zbn]
  rw [Znt hlt' (by omega)]
  exact hR (k + 1) _ _ (by omega) ⟨hs.trans (hs1.mono hs.le), rfl, by omega⟩

theorem Ydd {h : Zaa} {a : Pt} {n c : Nat} {e : Bool} {l : List (List Nat × List Nat)} (r : Row h.length h a (n * 2) (prs l)) (hn : n ≤ 1048576) :
    Zag pg Znk [.slice a n c e] h fun v h' => ∃ a' c' e', v = .slice a' n c' e' ∧ Zbd h.length h h' ∧ Zeb Zab eP h.length h' a' n l ∧ n ≤ c' ∧ a' ≠ none := by
  have hll : l.length = n := by have := r.1; rw [Zgy] at this; omega
  apply Zit.call
  refine ⟨rfl, rfl, by omega, ?_⟩
  simp only [Zax, Int.toNat_natCast, Ygc]
  refine Zit.L3ind _ _ _ _ _ _ _ _ _ (J := fun (g : Nat) x4 h' => x4 = (g : Int) ∧ g ≤ n ∧ Zbd h.length h h' ∧ h'[h.length]? = some (.cells Zab (prs (l.take g ++ List.replicate (n - g) ([], []))) false)) (fun g => n - g) ?_ 0 0 _ ⟨rfl, by omega, Zbd.app (Nat.le_refl _) _, by simp⟩
  rintro g x4 h' ⟨rfl, hg, hs, hi⟩ R hR
  unfold Zit.L3t
  refine Zar (fun hlt => ?_) (fun hge => ?_)
  · have hlt' : g < n := by omega
    obtain ⟨i, o, hgl, rfl, hi', hc⟩ := (r.same hs).pair hlt'
    simp only [Zau, Int.toNat_natCast, hc, Zas, Zah, Zan, Zai]
    refine ⟨by omega, Zmj.mono fun v h1 ⟨hv, hs1⟩ => ?_⟩
    subst hv
    have hi1 : h1[h.length]? = some (.cells Zab (prs (l.take g ++ List.replicate (n - g) ([], []))) false) := by rw [hs1.eq _ (Own.lt hi)]; exact hi
    simp only [Zdp, Zah, Zan, Zai, Nat.zero_add]
    have hmin : min g l.length = g := Nat.min_eq_left (by omega)
    rw [Yak hi1 (by simp; omega)]
    simp only [Zba]
    rw [Znt hlt' (by omega)]
    have hset : (l.take g ++ List.replicate (n - g) ([], [])).take g ++ [(l[g].1, l[g].2)] ++ (l.take g ++ List.replicate (n - g) (([] : List Nat), ([] : List Nat))).drop (g + 1) = l.take (g + 1) ++ List.replicate (n - (g + 1)) ([], []) := by
      have hl1 : (l.take g).length = g := by rw [List.length_take, hmin]
      rw [List.take_left' hl1, List.take_succ_eq_append_getElem hgl, List.drop_append, hl1, List.drop_of_length_le (by omega), List.nil_append, List.drop_replicate]
      congr 2; omega
    rw [hset]
    exact ⟨⟨by omega, by omega⟩, hR (g + 1) _ _ (by omega) ⟨rfl, by omega, (hs.trans (hs1.mono hs.le)).trans (Zbd.set (Nat.le_refl _) _), Zoe hi1⟩⟩
  · have : g = n := by omega
    subst this
    rw [List.take_of_length_le (by omega), Nat.sub_self, List.replicate_zero, List.append_nil] at hi
    exact Zit.A3x0i _ _ _ _ _ _ ⟨_, _, _, rfl, hs, ⟨hll, .inr ⟨h.length, rfl, Nat.le_refl _, hi⟩⟩, by simp, by simp⟩
end Go.Sim
