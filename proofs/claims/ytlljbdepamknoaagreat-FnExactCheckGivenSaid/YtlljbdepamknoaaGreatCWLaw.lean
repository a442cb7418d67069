/- A part of the proof of a statement of this seat: see the text that holds the theorem. No condition. -/
import Derived.Test.YtlljbdepamknoaaGreatPTC6
import Derived.Test.YtlljbdepamknoaaGreatCVars
import Derived.Test.YtlljbdepamknoaaGreatCTy
import Derived.Test.YtlljbdepamknoaaGreatPTCWCls2
import Derived.Test.YtlljbdepamknoaaGreatPTCWVar2
set_option linter.unusedVariables false
set_option linter.unusedSimpArgs false
set_option linter.all false
set_option linter.unusedVariables false
set_option linter.unusedSimpArgs false
set_option maxRecDepth 20000
namespace Go.Sim
open Go Go.RowKit

theorem Zeu {h : Zaa} {t : TypeId} {cs : List Zar} {o : Nat} : Zag (h ++ [.cells t cs false]) (.ptr (some (h.length, o))) = cs[o]? := Zaq (t := t) (cs := cs) (ro := false) (by simp)
theorem Zzs {h : Zaa} {t : TypeId} {cs : List Zar} {n : Nat} (hn : cs.length = n) : Zbp (h ++ [.cells t cs false]) (.ptr (some (h.length, 0))) n = some cs := by
  rw [Zee (show (h ++ [Zcn.cells t cs false])[h.length]? = some (.cells t cs false) by simp) (by omega)]; simp [← hn]
theorem Zau {h : Zaa} {x : Zcn} : Zaz h.length h (h ++ [x]) := Zaz.app (Nat.le_refl _) _
theorem Ztb {h : Zaa} {t : TypeId} {cs vs : List Zar} (hl : cs.length = vs.length) : Zbn (h ++ [.cells t cs false]) (.ptr (some (h.length, 0))) vs = some (h ++ [.cells t vs false]) := by
  rw [Zcc (show (h ++ [Zcn.cells t cs false])[h.length]? = some (.cells t cs false) by simp) (by omega)]
  simp [putRow, hl]
theorem Zgd {h : Zaa} {t : TypeId} {x y a b : Zar} : Zbn (h ++ [.cells t [x, y] false]) (.ptr (some (h.length, 0))) [a, b] = some (h ++ [.cells t [a, b] false]) := Ztb rfl
theorem Ypb {h : Zaa} {t : TypeId} {x y z a b c : Zar} : Zbn (h ++ [.cells t [x, y, z] false]) (.ptr (some (h.length, 0))) [a, b, c] = some (h ++ [.cells t [a, b, c] false]) := Ztb rfl
theorem Row.sl {b : Nat} {h : Zaa} {a : Pt} {n k : Nat} {l : List Nd} (r : Row b h a (n * 2) (Zff eP l)) (hk : k ≤ n) (hl : l.length = n) : Row b h a (k * 2) (Zff eP (l.take k)) := by
  obtain ⟨h1, h2⟩ := r
  have e : (Zff eP (l.take k)).length = k * 2 := by rw [Zbe Zdp, List.length_take, Nat.min_eq_left (by omega)]
  refine ⟨e, ?_⟩
  rcases h2 with h0 | ⟨i, o, t, all, ro, ha, hb, hi, hle, hcs⟩
  · exact .inl (by omega)
  · refine .inr ⟨i, o, t, all, ro, ha, hb, hi, by omega, ?_⟩
    rw [← Yhb Zdp, hcs, List.take_take, Nat.min_eq_left (by omega)]
theorem Yed {b : Nat} {h : Zaa} {a : Pt} {n c k : Nat} {e : Bool} {l : List Nd} {K : Zar → Prop} (r : Row b h a (n * 2) (Zff eP l)) (hl : l.length = n) (hk : k ≤ n) (hc : n ≤ c) {z : Int} (hz : z = k)
    (hK : ∀ a' c' e', Row b h a' (k * 2) (Zff eP (l.take k)) → k ≤ c' → K (.slice a' k c' e')) : Znu a n c e 2 none (some (.int .i64 z)) none K := by
  subst hz
  simp only [Znu, Zle]
  refine ⟨by omega, ?_⟩
  split
  · have h0 : n = 0 := by
      obtain ⟨h1, h2⟩ := r
      rcases h2 with h2 | ⟨i, o, t, all, ro, ha, _⟩
      · omega
      · cases ha
    have hk0 : k = 0 := by omega
    subst hk0
    exact ⟨⟨by trivial, by simp, .inl (by trivial)⟩, hK _ _ _ (by simpa using Row.nil) (by omega)⟩
  · rename_i i o
    refine ⟨fun hlt => ?_, fun hlt => ?_⟩
    · have e2 : ((k : Int) - 0).toNat = k := by omega
      have e3 : o + Int.toNat 0 * 2 = o := by simp
      have e4 : ((c : Int) - 0).toNat = c := by omega
      rw [e2, e3, e4]
      exact hK _ _ _ (r.sl hk hl) (by omega)
    · have hk0 : k = 0 := by omega
      subst hk0
      exact hK _ _ _ (by simpa using Row.nil) (by omega)

theorem Ycs {h : Zaa} {x : Nd} {j : Nat} {c : List Nat} (hj : Zag h (.ptr (some (j, 0))) = some (.str c)) (hjl : j < h.length) :
    Zad pg Zcq [.agg [.str x.1, .str x.2], .ptr (some (j, 0))] h fun v h' => v = .bool (decide (x.1 = c)) ∧ Zaz h.length h h' := by
  apply Znf.call
  simp only [Zax, Zeu, List.getElem?_cons_zero, Zaf]
  have := (Zau (h := h) (x := .cells Zbo [.str x.1, .str x.2] false)).cell hjl hj
  rw [this]
  exact ⟨rfl, Zau⟩
theorem Ybu {h : Zaa} {a : Pt} {n c : Nat} {e : Bool} {cs : List Nd} {j : Nat} {s : List Nat} (r : Row h.length h a (n * 2) (Zff eP cs)) (hn : n ≤ 4611686018427387904) (hj : Zag h (.ptr (some (j, 0))) = some (.str s)) (hjl : j < h.length) :
    Zad pg Zdd [.slice a n c e, .fn Zcq [.ptr (some (j, 0))]] h fun v h' => (∃ z : Int, v = .int .i64 z ∧ decide (z ≥ 0) = Zet cs s) ∧ Zaz h.length h h' := by
  have hl : cs.length = n := by have := r.1; rw [Zbe Zdp] at this; omega
  apply Zbj.call
  refine Zbj.L2ind _ _ _ _ _ _ _ (J := fun (g : Nat) x8 h' => x8 = (g : Int) ∧ g ≤ n ∧ Zaz h.length h h' ∧ Zet (cs.take g) s = false) (fun g => n - g) ?_ 0 _ _ ⟨rfl, by omega, Zaz.refl _ _, rfl⟩
  rintro g x8 h' ⟨rfl, hg, hS, hk⟩ R hR
  unfold Zbj.L2t
  refine Zal (fun hlt => ?_) (fun hge => ?_)
  · obtain ⟨i, o, hgl, rfl, _, hr, _⟩ := (r.same hS).pr (k := g) (by omega)
    simp only [Zav, Int.toNat_natCast, hr, Zan, Zae, Zap, Zaf]
    refine ⟨by omega, (Ycs (x := cs[g]) (hS.cell hjl hj) (by have := hS.le; omega)).mono ?_⟩
    rintro v h2 ⟨rfl, s2⟩
    simp only [Zai]
    have hS2 := hS.trans (s2.mono hS.le)
    refine Zal (fun he => ?_) (fun he => ?_)
    · refine ⟨⟨_, rfl, ?_⟩, hS2⟩
      have : Zet cs s = true := by unfold Zet; rw [List.any_eq_true]; exact ⟨_, List.getElem_mem hgl, by simpa using he⟩
      rw [this]; simp
    · rw [Zbm (by omega)]
      exact hR (g + 1) _ _ (by omega) ⟨rfl, by omega, hS2, by rw [Zuk hgl, hk]; simp [he]⟩
  · apply Zbj.A2x0i
    have : g = n := by omega
    subst this
    rw [List.take_of_length_le (by omega)] at hk
    exact ⟨⟨_, rfl, by rw [hk]; rfl⟩, hS⟩
theorem Zrx {h : Zaa} {a : Pt} {n c : Nat} {e : Bool} {cs : List Nd} {s : List Nat} (r : Row h.length h a (n * 2) (Zff eP cs)) (hn : n ≤ 4611686018427387904) :
    Zad pg Zhh [.slice a n c e, .str s] h fun v h' => v = .bool (Zet cs s) ∧ Zaz h.length h h' := by
  apply Ztn.call
  simp only [Zax]
  apply Zct.call
  have s1 : Zaz h.length h (h ++ [.cells Zcm [.str s] false]) := Zau
  refine (Ybu (r.same' s1) hn (s := s) (by rw [Zeu]; rfl) (by simp)).mono ?_
  rintro v h2 ⟨⟨z, rfl, hz⟩, s2⟩
  simp only [Zao, Zai]
  exact ⟨by rw [hz], s1.trans (s2.mono s1.le)⟩
theorem Zkb {h : Zaa} {a a1 : Pt} {n c n1 c1 : Nat} {e e1 : Bool} {cs : List Nd} {s : List Nat} (r : Row h.length h a (n * 2) (Zff eP cs)) (hn : n ≤ 4611686018427387904) :
    Zad pg Zeo [.agg [.slice a n c e, .slice a1 n1 c1 e1], .str s] h fun v h' => v = .int .i64 (Zvx cs s) ∧ Zaz h.length h h' := by
  have hl : cs.length = n := by have := r.1; rw [Zbe Zdp] at this; omega
  apply Zik.call
  simp only [Zax, Zeu, Nat.add_zero, List.getElem?_cons_zero, Zah]
  have s1 : Zaz h.length h (h ++ [.cells Zak [.slice a n c e, .slice a1 n1 c1 e1] false]) := Zau
  refine Zik.L2ind _ _ _ _ _ _ _ (J := fun (g : Nat) x10 h' => x10 = (g : Int) ∧ g ≤ n ∧ Zaz h.length h h' ∧ Zet (cs.take g) s = false) (fun g => n - g) ?_ 0 _ _ ⟨rfl, by omega, s1, rfl⟩
  rintro g x8 h' ⟨rfl, hg, hS, hk⟩ R hR
  unfold Zik.L2t
  refine Zal (fun hlt => ?_) (fun hge => ?_)
  · obtain ⟨i, o, hgl, rfl, _, hr, _⟩ := (r.same hS).pr (k := g) (by omega)
    simp only [Zav, Int.toNat_natCast, hr, Zan, Zae, Zap, Zaf, Zax]
    rw [Zgd]
    simp only [Zaw, Zeu, Nat.add_zero, List.getElem?_cons_zero, Zaf]
    refine ⟨by omega, ?_⟩
    have hS2 : Zaz h.length h (h' ++ [.cells Zbo [.str cs[g].1, .str cs[g].2] false]) := hS.trans (Zaz.app hS.le _)
    refine Zal (fun he => ?_) (fun he => ?_)
    · refine ⟨?_, hS2⟩
      have hkn : Zet cs s = true := by unfold Zet; rw [List.any_eq_true]; exact ⟨_, List.getElem_mem hgl, by simpa using he⟩
      unfold Zvx
      rw [hkn, if_pos rfl]
      congr 2
      symm
      rw [List.findIdx_eq hgl]
      refine ⟨by simpa using he, fun j hj => ?_⟩
      unfold Zet at hk
      rw [List.any_eq_false] at hk
      have := hk cs[j] (List.mem_take_iff_getElem.2 ⟨j, by omega, rfl⟩)
      simpa using this
    · rw [Zbm (by omega)]
      exact hR (g + 1) _ _ (by omega) ⟨rfl, by omega, hS2, by rw [Zuk hgl, hk]; simp [he]⟩
  · apply Zik.A2x0i
    have : g = n := by omega
    subst this
    rw [List.take_of_length_le (by omega)] at hk
    exact ⟨by unfold Zvx; rw [hk]; rfl, hS⟩

theorem Zyn {s : List Nat} {g : Nat} {z : Int} (hg : g < s.length) (hz : z = ((g + 1 : Nat) : Int)) : sub s (g : Int) z = [s[g]] := by
  subst hz
  simp only [sub, Int.toNat_natCast]
  rw [List.take_succ_eq_append_getElem hg, List.drop_append_of_le_length (by simp; omega), List.drop_of_length_le (by rw [List.length_take]; exact Nat.min_le_left _ _), List.nil_append]
theorem Zrv {g : Nat} (hg : 0 < g) (hn : g ≤ 9223372036854775807) : IntKind.wrap .i64 ((g : Int) - 1) = ((g - 1 : Nat) : Int) := by rw [IntWalk.i64_in _ (by omega)]; omega
theorem Ydg {cs : List Nd} {s : List Nat} {g : Nat} (hg : g < s.length) : Zwp cs s g = (Zet cs [s[g]] && (g == 0 || decide (s.getD (g - 1) 0 < s[g]))) := by unfold Zwp; rw [Zea hg]
theorem Yen {cs : List Nd} {g : Nat} (hg : g < cs.length) : Zwm cs g = (Zsy cs[g].1 && (g == 0 || Zdv (cs.getD (g - 1) ([], [])).1 cs[g].1) && Zzm (cs.take g) cs[g].2) := by unfold Zwm; rw [Zea hg]
theorem Zkc {cs : List Nd} {g : Nat} (hg : g < cs.length) (h : Zwm cs g = false) : Zgy cs = false := by unfold Zgy; rw [Zjb hg h]; rfl
theorem Zte {h : Zaa} {a a1 : Pt} {n c n1 c1 : Nat} {e e1 : Bool} {cs : List Nd} (r : Row h.length h a (n * 2) (Zff eP cs)) (hc : n ≤ c) (hn : n ≤ 1048576) (hs : ∀ p ∈ cs, p.2.length ≤ 1048576) :
    Zad pg Zim [.agg [.slice a n c e, .slice a1 n1 c1 e1]] h fun v h' => v = .bool (Zgy cs) ∧ Zaz h.length h h' := by
  have hl : cs.length = n := by have := r.1; rw [Zbe Zdp] at this; omega
  apply Zco.call
  simp only [Zax, Zeu, Nat.add_zero, List.getElem?_cons_zero, Zah]
  have s1 : Zaz h.length h (h ++ [.cells Zak [.slice a n c e, .slice a1 n1 c1 e1] false]) := Zau
  have hw : (h ++ [Zcn.cells Zak [.slice a n c e, .slice a1 n1 c1 e1] false])[h.length]? = some (.cells Zak [.slice a n c e, .slice a1 n1 c1 e1] false) := by simp
  refine Zco.L2ind _ _ _ _ _ _ _ _ (J := fun (g : Nat) x9 h' => x9 = (g : Int) ∧ g ≤ n ∧ Zaz h.length h h' ∧ h'[h.length]? = some (.cells Zak [.slice a n c e, .slice a1 n1 c1 e1] false) ∧ (List.range g).all (Zwm cs) = true) (fun g => n - g) ?_ 0 _ _ ⟨rfl, by omega, s1, hw, rfl⟩
  rintro g x9 h' ⟨rfl, hg, hS, hW, hk⟩ R hR
  unfold Zco.L2t
  refine Zal (fun hlt => ?_) (fun hge => ?_)
  · obtain ⟨i, o, hgl, rfl, hil, hr, _⟩ := (r.same hS).pr (k := g) (by omega)
    simp only [Zav, Int.toNat_natCast, hr, Zan, Zae, Zap, Zaf, Zax]
    rw [Zgd]
    simp only [Zaw, Zeu, Nat.add_zero, List.getElem?_cons_zero, Zaf]
    have hS2 : Zaz h.length h (h' ++ [.cells Zbo [.str cs[g].1, .str cs[g].2] false]) := hS.trans (Zaz.app hS.le _)
    refine ⟨by omega, (Zxs _).mono ?_⟩
    rintro v h2 ⟨rfl, rfl⟩
    simp only [Zai, true_and]
    have hcl := Yen hgl
    have hle := hS2.le
    have hWl := Own.lt hW
    have hW2 : (h' ++ [.cells Zbo [.str cs[g].1, .str cs[g].2] false])[h.length]? = some (.cells Zak [.slice (some (i, o)) n c e, .slice a1 n1 c1 e1] false) := Zon hW
    have hcell : ∀ o', Zag (h' ++ [.cells Zbo [.str cs[g].1, .str cs[g].2] false]) (.ptr (some (h'.length, o'))) = ([.str cs[g].1, .str cs[g].2] : List Zar)[o']? := fun o' => Zeu
    -- the classes above
    have key : (Zsy cs[g].1 && (g == 0 || Zdv (cs.getD (g - 1) ([], [])).1 cs[g].1)) = true → Zco.J6 (fun v h' => v = .bool (Zgy cs) ∧ Zaz h.length h h') R h'.length 0 h.length 0 (g : Int) (some (i, o)) n c e (n : Int) (g : Int) (h' ++ [.cells Zbo [.str cs[g].1, .str cs[g].2] false]) := by
      intro hpre
      rw [hpre, Bool.true_and] at hcl
      apply Zco.J6i
      rw [hcell]
      simp only [Nat.zero_add, List.getElem?_cons_succ, List.getElem?_cons_zero, Zaf]
      have hsl := hs cs[g] (List.getElem_mem hgl)
      refine Zco.L7ind _ _ _ _ _ _ _ _ _ _ _ _ _ _ (J := fun (q : Nat) x37 h3 => x37 = (q : Int) ∧ q ≤ cs[g].2.length ∧ Zaz h.length h h3 ∧ h3[h.length]? = some (.cells Zak [.slice (some (i, o)) n c e, .slice a1 n1 c1 e1] false) ∧ h3[h'.length]? = some (.cells Zbo [.str cs[g].1, .str cs[g].2] false) ∧ (List.range q).all (Zwp (cs.take g) cs[g].2) = true) (fun q => cs[g].2.length - q) ?_ 0 _ _ ⟨rfl, by omega, hS2, hW2, by simp, rfl⟩
      rintro q x37 h3 ⟨rfl, hq, hS3, hW3, hI3, hk3⟩ R7 hR7
      unfold Zco.L7t
      refine Zal (fun hlt3 => ?_) (fun hge3 => ?_)
      · have hq' : q < cs[g].2.length := by omega
        simp only [Nat.add_zero, Nat.zero_add, Zaq hW3, Zaq hI3, List.getElem?_cons_succ, List.getElem?_cons_zero, Zah, Zaf, true_and]
        refine Yed (r.same hS3) hl (k := g) (by omega) hc rfl (fun a' c' e' hrow hc' => ?_)
        simp only [Zah]
        rw [Zbm (by omega), Zyn hq' rfl]
        refine ⟨⟨by omega, by omega, by omega⟩, (Zrx (hrow.mono hS3.le) (by omega)).mono ?_⟩
        rintro v h4 ⟨rfl, s4⟩
        have hS4 := hS3.trans (s4.mono hS3.le)
        have hW4 : h4[h.length]? = some (.cells Zak [.slice (some (i, o)) n c e, .slice a1 n1 c1 e1] false) := by rw [s4.eq _ (Own.lt hW3)]; exact hW3
        have hI4 : h4[h'.length]? = some (.cells Zbo [.str cs[g].1, .str cs[g].2] false) := by rw [s4.eq _ (Own.lt hI3)]; exact hI3
        simp only [Zai, Zaq hW3, Zaq hW4, Zaq hI4, Nat.add_zero, Nat.zero_add, List.getElem?_cons_succ, List.getElem?_cons_zero, Zaf, true_and]
        have hsa := Ydg (cs := cs.take g) hq'
        have fail : Zwp (cs.take g) cs[g].2 q = false → (Zar.bool false = Zar.bool (Zgy cs) ∧ Zaz h.length h h4) := fun hf => ⟨by rw [Zkc hgl (by rw [hcl]; unfold Zzm; exact Zjb hq' hf)], hS4⟩
        have next : Zwp (cs.take g) cs[g].2 q = true → R7 h.length 0 (g : Int) h'.length 0 (some (i, o)) n c e (n : Int) (g : Int) (cs[g].2.length : Int) (IntKind.wrap .i64 ((q : Int) + 1)) h4 := fun ht => by
          rw [Zbm (by omega)]
          exact hR7 (q + 1) _ _ (by omega) ⟨rfl, by omega, hS4, hW4, hI4, Zgw hk3 ht⟩
        refine Zbs (fun hb => fail (by rw [hsa, hb]; rfl)) (fun hb => ?_)
        refine Zal (fun h0 => ?_) (fun h0 => ?_)
        · have h0' : 0 < q := by omega
          rw [Zrv h0' (by omega)]
          refine ⟨⟨by omega, by omega⟩, ⟨by omega, by omega⟩, ?_⟩
          simp only [Int.toNat_natCast]
          have hd1 : cs[g].2.getD q 0 = cs[g].2[q] := Zea hq'
          have hq0 : (q == 0) = false := by simp; omega
          refine Zal (fun h1 => fail ?_) (fun h1 => Zco.J11i _ _ _ _ _ _ _ _ _ _ _ _ _ _ _ _ _ (next ?_))
          · rw [hsa, hb, hq0, ← hd1]; simp only [Bool.true_and, Bool.false_or, decide_eq_false_iff_not]; omega
          · rw [hsa, hb, hq0, ← hd1]; simp only [Bool.true_and, Bool.false_or, decide_eq_true_eq]; omega
        · have : q = 0 := by omega
          subst this
          exact Zco.J11i _ _ _ _ _ _ _ _ _ _ _ _ _ _ _ _ _ (next (by rw [hsa, hb]; rfl))
      · apply Zco.A7x2i
        apply Zco.J12i
        have : q = cs[g].2.length := by omega
        subst this
        rw [Zbm (by omega)]
        exact hR (g + 1) _ _ (by omega) ⟨rfl, by omega, hS3, hW3, Zgw hk (by rw [hcl]; exact hk3)⟩
    refine Zbs (fun hb => ⟨by rw [Zkc hgl (by rw [hcl, hb]; rfl)], hS2⟩) (fun hb => ?_)
    refine Zal (fun h0 => ?_) (fun h0 => ?_)
    · have h0' : 0 < g := by omega
      rw [Zaq hW2]
      simp only [List.getElem?_cons_zero, Zah]
      rw [Zrv h0' (by omega)]
      obtain ⟨i', o', hgl', heq, _, _, hc0, _⟩ := (r.same hS2).pr (k := g - 1) (by omega)
      cases heq
      simp only [Zav, Int.toNat_natCast, hc0, Zaf, Nat.add_zero, Nat.zero_add, hcell, List.getElem?_cons_zero, true_and]
      refine ⟨by omega, ?_⟩
      have hg0 : (g == 0) = false := by simp; omega
      have hgd : cs.getD (g - 1) ([], []) = cs[g - 1] := Zea hgl'
      refine Zbs (fun hb2 => ⟨by rw [Zkc hgl (by rw [hcl, hb, hg0, hgd, hb2]; rfl)], hS2⟩) (fun hb2 => key (by rw [hb, hg0, hgd, hb2]; rfl))
    · have : g = 0 := by omega
      subst this
      exact key (by rw [hb]; rfl)
  · apply Zco.A2x0i
    have : g = n := by omega
    subst this
    have hok : Zgy cs = decide (1 ≤ g ∧ g ≤ 4) := by unfold Zgy; rw [hl, hk, Bool.true_and]
    simp only [Nat.add_zero, Zaq hW, List.getElem?_cons_zero, Zah]
    refine Zal (fun h1 => ?_) (fun h1 => ?_)
    · refine ⟨?_, hS⟩
      rw [hok]; congr 1; rw [Bool.eq_iff_iff]; simp; omega
    · refine ⟨?_, hS⟩
      rw [hok]; congr 1; symm; simp; omega
end Go.Sim

set_option linter.unusedVariables false
set_option linter.unusedSimpArgs false
set_option maxRecDepth 20000
namespace Go.Sim
open Go Go.RowKit
theorem Ztl {h : Zaa} {a : Pt} {n c : Nat} {e : Bool} {cs : List Nd} (r : Row h.length h a (n * 2) (Zff eP cs)) (hc : n ≤ c) (hn : n ≤ 1048576) (hs : ∀ p ∈ cs, p.2.length ≤ 1048576) (hb256 : ∀ p ∈ cs, ∀ b ∈ p.1, b < 256) :
    Zad pg Ziq [.slice a n c e] h fun v h' => v = .bool (Zgy cs) ∧ Zaz h.length h h' := by
  have hl : cs.length = n := by have := r.1; rw [Zbe Zdp] at this; omega
  apply Zcp.call
  refine Zcp.L2ind _ _ _ _ _ _ _ _ _ _ (J := fun (g : Nat) x9 h' => x9 = (g : Int) ∧ g ≤ n ∧ Zaz h.length h h' ∧ (List.range g).all (Zwm cs) = true) (fun g => n - g) ?_ 0 _ _ ⟨rfl, by omega, Zaz.refl _ _, rfl⟩
  rintro g x9 h' ⟨rfl, hg, hS, hk⟩ R hR
  unfold Zcp.L2t
  refine Zal (fun hlt => ?_) (fun hge => ?_)
  · obtain ⟨i, o, hgl, rfl, hil, hr, _⟩ := (r.same hS).pr (k := g) (by omega)
    simp only [Zav, Int.toNat_natCast, hr, Zan, Zae, Zap, Zaf, Zax]
    rw [Zgd]
    simp only [Zaw, Zeu, Nat.add_zero, List.getElem?_cons_zero, Zaf]
    have hS2 : Zaz h.length h (h' ++ [.cells Zbo [.str cs[g].1, .str cs[g].2] false]) := hS.trans (Zaz.app hS.le _)
    refine ⟨by omega, (Zzy _ (hb256 _ (List.getElem_mem hgl))).mono ?_⟩
    rintro v h2 ⟨rfl, rfl⟩
    simp only [Zai, true_and]
    have hcl := Yen hgl
    have hle := hS2.le
    have hcell : ∀ o', Zag (h' ++ [.cells Zbo [.str cs[g].1, .str cs[g].2] false]) (.ptr (some (h'.length, o'))) = ([.str cs[g].1, .str cs[g].2] : List Zar)[o']? := fun o' => Zeu
    -- the classes above
    have key : (Zsy cs[g].1 && (g == 0 || Zdv (cs.getD (g - 1) ([], [])).1 cs[g].1)) = true → Zcp.J6 (fun v h' => v = .bool (Zgy cs) ∧ Zaz h.length h h') R h'.length 0 (some (i, o)) n c e (g : Int) (some (i, o)) n c e (n : Int) (g : Int) (h' ++ [.cells Zbo [.str cs[g].1, .str cs[g].2] false]) := by
      intro hpre
      rw [hpre, Bool.true_and] at hcl
      apply Zcp.J6i
      rw [hcell]
      simp only [Nat.zero_add, List.getElem?_cons_succ, List.getElem?_cons_zero, Zaf]
      have hsl := hs cs[g] (List.getElem_mem hgl)
      refine Zcp.L7ind _ _ _ _ _ _ _ _ _ _ _ _ _ _ _ _ (J := fun (q : Nat) x37 h3 => x37 = (q : Int) ∧ q ≤ cs[g].2.length ∧ Zaz h.length h h3 ∧ h3[h'.length]? = some (.cells Zbo [.str cs[g].1, .str cs[g].2] false) ∧ (List.range q).all (Zwp (cs.take g) cs[g].2) = true) (fun q => cs[g].2.length - q) ?_ 0 _ _ ⟨rfl, by omega, hS2, by simp, rfl⟩
      rintro q x37 h3 ⟨rfl, hq, hS3, hI3, hk3⟩ R7 hR7
      unfold Zcp.L7t
      refine Zal (fun hlt3 => ?_) (fun hge3 => ?_)
      · have hq' : q < cs[g].2.length := by omega
        simp only [Nat.add_zero, Nat.zero_add, Zaq hI3, List.getElem?_cons_succ, List.getElem?_cons_zero, Zah, Zaf, true_and]
        refine Yed (r.same hS3) hl (k := g) (by omega) hc rfl (fun a' c' e' hrow hc' => ?_)
        simp only [Zah]
        rw [Zbm (by omega), Zyn hq' rfl]
        refine ⟨⟨by omega, by omega, by omega⟩, (Zkb (hrow.mono hS3.le) (by omega)).mono ?_⟩
        rintro v h4 ⟨rfl, s4⟩
        have hS4 := hS3.trans (s4.mono hS3.le)
        have hI4 : h4[h'.length]? = some (.cells Zbo [.str cs[g].1, .str cs[g].2] false) := by rw [s4.eq _ (Own.lt hI3)]; exact hI3
        simp only [Zao, Zvo, Zaq hI4, Nat.add_zero, Nat.zero_add, List.getElem?_cons_succ, List.getElem?_cons_zero, Zaf, true_and]
        have hsa := Ydg (cs := cs.take g) hq'
        have fail : Zwp (cs.take g) cs[g].2 q = false → (Zar.bool false = Zar.bool (Zgy cs) ∧ Zaz h.length h h4) := fun hf => ⟨by rw [Zkc hgl (by rw [hcl]; unfold Zzm; exact Zjb hq' hf)], hS4⟩
        have next : Zwp (cs.take g) cs[g].2 q = true → R7 (some (i, o)) n c e (g : Int) h'.length 0 (some (i, o)) n c e (n : Int) (g : Int) (cs[g].2.length : Int) (IntKind.wrap .i64 ((q : Int) + 1)) h4 := fun ht => by
          rw [Zbm (by omega)]
          exact hR7 (q + 1) _ _ (by omega) ⟨rfl, by omega, hS4, hI4, Zgw hk3 ht⟩
        refine Zbs (fun hb => fail (by rw [hsa, hb]; rfl)) (fun hb => ?_)
        refine Zal (fun h0 => ?_) (fun h0 => ?_)
        · have h0' : 0 < q := by omega
          rw [Zrv h0' (by omega)]
          refine ⟨⟨by omega, by omega⟩, ⟨by omega, by omega⟩, ?_⟩
          simp only [Int.toNat_natCast]
          have hd1 : cs[g].2.getD q 0 = cs[g].2[q] := Zea hq'
          have hq0 : (q == 0) = false := by simp; omega
          refine Zal (fun h1 => fail ?_) (fun h1 => Zcp.J11i _ _ _ _ _ _ _ _ _ _ _ _ _ _ _ _ _ _ _ (next ?_))
          · rw [hsa, hb, hq0, ← hd1]; simp only [Bool.true_and, Bool.false_or, decide_eq_false_iff_not]; omega
          · rw [hsa, hb, hq0, ← hd1]; simp only [Bool.true_and, Bool.false_or, decide_eq_true_eq]; omega
        · have : q = 0 := by omega
          subst this
          exact Zcp.J11i _ _ _ _ _ _ _ _ _ _ _ _ _ _ _ _ _ _ _ (next (by rw [hsa, hb]; rfl))
      · apply Zcp.A7x2i
        apply Zcp.J12i
        have : q = cs[g].2.length := by omega
        subst this
        rw [Zbm (by omega)]
        exact hR (g + 1) _ _ (by omega) ⟨rfl, by omega, hS3, Zgw hk (by rw [hcl]; exact hk3)⟩
    refine Zbs (fun hb => ⟨by rw [Zkc hgl (by rw [hcl, hb]; rfl)], hS2⟩) (fun hb => ?_)
    refine Zal (fun h0 => ?_) (fun h0 => ?_)
    · have h0' : 0 < g := by omega
      rw [Zrv h0' (by omega)]
      obtain ⟨i', o', hgl', heq, _, _, hc0, _⟩ := (r.same hS2).pr (k := g - 1) (by omega)
      cases heq
      simp only [Zav, Int.toNat_natCast, hc0, Zaf, Nat.add_zero, Nat.zero_add, hcell, List.getElem?_cons_zero, true_and]
      refine ⟨by omega, ?_⟩
      have hg0 : (g == 0) = false := by simp; omega
      have hgd : cs.getD (g - 1) ([], []) = cs[g - 1] := Zea hgl'
      refine Zbs (fun hb2 => ⟨by rw [Zkc hgl (by rw [hcl, hb, hg0, hgd, hb2]; rfl)], hS2⟩) (fun hb2 => key (by rw [hb, hg0, hgd, hb2]; rfl))
    · have : g = 0 := by omega
      subst this
      exact key (by rw [hb]; rfl)
  · apply Zcp.A2x0i
    have : g = n := by omega
    subst this
    have hok : Zgy cs = decide (1 ≤ g ∧ g ≤ 4) := by unfold Zgy; rw [hl, hk, Bool.true_and]
    refine Zxw.mono ?_
    rintro v h2 ⟨rfl, rfl⟩
    simp only [Zai]
    refine ⟨?_, hS⟩
    rw [hok]; congr 1; rw [Bool.eq_iff_iff]; simp; omega
end Go.Sim

set_option linter.unusedVariables false
set_option linter.unusedSimpArgs false
set_option maxRecDepth 20000
namespace Go.Sim
open Go Go.RowKit

theorem Yny (c : Nat) : decide (c ∈ [120, 121, 122, 88, 89, 90]) = Zdc c := by rw [Bool.eq_iff_iff]; simp [Zdc, or_assoc]
theorem Zym {h : Zaa} (s : List Nat) : Zad pg Zkv [.str s] h fun v h' => v = .bool (Zjs s) ∧ h' = h := by
  apply Ztg.call
  match s with
  | [] => exact Zfy (fun h1 => by simp at h1) (fun h1 => ⟨rfl, rfl⟩)
  | [c] =>
    refine Zfy (fun h1 => ?_) (fun h1 => by simp at h1)
    refine Ziw.mono ?_
    rintro v h' ⟨rfl, rfl⟩
    simp only [Zai]
    exact ⟨by rw [Yny]; rfl, by trivial⟩
  | c :: d :: r => exact Zfy (fun h1 => by simp at h1; omega) (fun h1 => ⟨rfl, rfl⟩)
theorem Znv {h : Zaa} (c : Nat) : Zad pg Zgi [.int .u8 (c : Int)] h fun v h' => v = .bool (Zdc c) ∧ h' = h := by
  apply Znk.call
  refine (Zpm _ c (by simp)).mono ?_
  rintro v h' ⟨rfl, rfl⟩
  simp only [Zao]
  exact ⟨by rw [Ynd], by trivial⟩
noncomputable def Ymf (s v : List Nat) : Int := if Znp s && Zjs v then (s.count (v.headD 0) : Nat) else -1
theorem Zzv {h : Zaa} (s v : List Nat) (hs : s.length ≤ 1048576) : Zad pg Zlp [.str s, .str v] h fun x h' => x = .int .i64 (Ymf s v) ∧ Zaz h.length h h' := by
  apply Zep.call
  refine (Zjp s (by omega) h).mono ?_
  rintro x h1 ⟨rfl, s1⟩
  simp only [Zai]
  refine Zbs (fun hb => ⟨by unfold Ymf; rw [hb]; rfl, s1⟩) (fun hb => ?_)
  match v with
  | [] => exact Zfs (fun _ => ⟨by unfold Ymf; rw [hb]; rfl, s1⟩) (fun h1 => by simp at h1)
  | c :: d :: r => exact Zfs (fun _ => ⟨by unfold Ymf; rw [hb]; rfl, s1⟩) (fun h1 => by simp at h1; omega)
  | [c] =>
    refine Zfs (fun h1 => by simp at h1) (fun _ => ?_)
    refine ⟨⟨by omega, by simp⟩, ?_⟩
    simp only [Int.toNat_zero, List.getD_cons_zero]
    refine (Znv c).mono ?_
    rintro x h2 ⟨rfl, rfl⟩
    simp only [Zai]
    refine Zbs (fun hv => ⟨by unfold Ymf; rw [hb, show Zjs [c] = Zdc c from rfl, hv]; rfl, s1⟩) (fun hv => ?_)
    apply Zep.J3i
    refine Zep.L5ind _ _ _ _ (J := fun (g : Nat) x5 x23 h' => x23 = (g : Int) ∧ g ≤ s.length ∧ x5 = ((s.take g).count c : Nat) ∧ h' = h2) (fun g => s.length - g) ?_ 0 _ _ _ ⟨rfl, by omega, by simp, rfl⟩
    rintro g x5 x23 h' ⟨rfl, hg, rfl, rfl⟩ R hR
    unfold Zep.L5t
    refine Zal (fun hlt => ?_) (fun hge => ?_)
    · have hg' : g < s.length := by omega
      refine ⟨⟨by omega, by omega⟩, ⟨by omega, by simp⟩, ?_⟩
      simp only [Int.toNat_zero, List.getD_cons_zero, Int.toNat_natCast, Zea hg']
      have hc := List.count_le_length (a := c) (l := s.take g)
      rw [List.length_take] at hc
      have htk : (s.take (g + 1)).count c = (s.take g).count c + if s[g] = c then 1 else 0 := by
        rw [List.take_succ_eq_append_getElem hg', List.count_append]; simp [List.count_cons]
      refine Zfy (fun he => ?_) (fun he => ?_)
      · apply Zep.J9i
        rw [Zbm (by omega), Zbm (by omega)]
        exact hR (g + 1) _ _ _ (by omega) ⟨rfl, by omega, by rw [htk, if_pos (by omega)], rfl⟩
      · apply Zep.J9i
        rw [Zbm (by omega)]
        exact hR (g + 1) _ _ _ (by omega) ⟨rfl, by omega, by rw [htk, if_neg (by omega)]; rfl, rfl⟩
    · apply Zep.A5x0i
      have : g = s.length := by omega
      subst this
      rw [List.take_length]
      refine ⟨?_, s1⟩
      unfold Ymf
      rw [hb, show Zjs [c] = Zdc c from rfl, hv]; rfl
theorem Zxa {h : Zaa} (s : List Nat) (hs : s.length ≤ 1048576) : Zad pg Zli [.str s] h fun v h' => v = .str (if Znp s = true then Zqz s else []) ∧ Zaz h.length h h' := by
  apply Zgs.call
  simp only [Zax]
  have hlist : (h ++ [Zcn.cells Zcm [.str [88], .str [89], .str [90], .str [120], .str [121], .str [122]] false])[h.length]? = some (.cells Zcm [.str [88], .str [89], .str [90], .str [120], .str [121], .str [122]] false) := by simp
  refine Zgs.L3ind _ _ _ _ _ _ _ (J := fun (g : Nat) x3 x8 h' => x8 = (g : Int) ∧ g ≤ 6 ∧ Zaz h.length h h' ∧ h'[h.length]? = some (.cells Zcm [.str [88], .str [89], .str [90], .str [120], .str [121], .str [122]] false) ∧ x3 = if Znp s = true then (Zfi.take g).filter fun v => decide (v ∈ s) else []) (fun g => 6 - g) ?_ 0 _ _ _
    ⟨rfl, by omega, Zau, hlist, by simp⟩
  rintro g x3 x8 h' ⟨rfl, hg, hS, hl, rfl⟩ R hR
  unfold Zgs.L3t
  refine Zal (fun hlt => ?_) (fun hge => ?_)
  · have hlt' : g < 6 := by omega
    have hc : ∃ c, Zfi[g]? = some c ∧ Zdc c = true ∧ Zag h' (.ptr (some (h.length, 0 + (g : Int).toNat * 1))) = some (.str [c]) := by
      rw [Zaq hl, Int.toNat_natCast]
      match g, hlt' with
      | 0, _ | 1, _ | 2, _ | 3, _ | 4, _ | 5, _ => exact ⟨_, rfl, rfl, rfl⟩
    obtain ⟨c, hc1, hcv, hc2⟩ := hc
    simp only [Zav, hc2, Zaf]
    refine ⟨by omega, (Zzv s [c] hs).mono ?_⟩
    rintro v h2 ⟨rfl, s2⟩
    simp only [Zao]
    have htk : Zfi.take (g + 1) = Zfi.take g ++ [c] := by rw [List.take_succ, hc1]; rfl
    have hS2 := hS.trans (s2.mono hS.le)
    have hl2 : h2[h.length]? = some (.cells Zcm [.str [88], .str [89], .str [90], .str [120], .str [121], .str [122]] false) := by rw [s2.eq _ (Own.lt hl)]; exact hl
    have hcn : decide (Ymf s [c] > 0) = (Znp s && decide (c ∈ s)) := by
      unfold Ymf
      rw [show Zjs [c] = Zdc c from rfl, hcv]
      cases hb : Znp s with
      | false => rfl
      | true =>
        simp only [Bool.and_self, if_true, Bool.true_and, List.headD_cons]
        rw [Bool.eq_iff_iff]; simp [List.count_pos_iff]
    have hbd : (if Znp s = true then (Zfi.take g).filter fun v => decide (v ∈ s) else []).length ≤ 6 := by
      split
      · exact Nat.le_trans (List.length_filter_le _ _) (by simp; omega)
      · simp
    rw [hcn]
    refine Zdu (fun hb => ?_) (fun hb => ?_)
    · simp only [Bool.and_eq_true] at hb
      refine ⟨by simp only [List.length_cons, List.length_nil]; omega, ?_⟩
      apply Zgs.J7i
      rw [Zbm (by omega)]
      refine hR (g + 1) _ _ _ (by omega) ⟨rfl, by omega, hS2, hl2, ?_⟩
      rw [if_pos hb.1, if_pos hb.1, htk, List.filter_append]; simp [hb.2]
    · apply Zgs.J7i
      rw [Zbm (by omega)]
      refine hR (g + 1) _ _ _ (by omega) ⟨rfl, by omega, hS2, hl2, ?_⟩
      cases ht : Znp s with
      | false => simp
      | true => rw [ht, Bool.true_and] at hb; rw [htk, List.filter_append]; simp; simpa using hb
  · apply Zgs.A3x0i
    have : g = 6 := by omega
    subst this
    exact ⟨rfl, hS⟩
theorem Yhw {h : Zaa} (x y : List Nat) (hx : x.length ≤ 1048576) (hy : y.length ≤ 1048576) : Zad pg Zlq [.str x, .str y] h fun v h' => v = .bool (x.all fun c => decide (c ∈ y)) ∧ h' = h := by
  apply Zhc.call
  refine Zhc.L2ind _ _ _ _ (J := fun (g : Nat) x8 h' => x8 = (g : Int) ∧ g ≤ x.length ∧ h' = h ∧ (x.take g).all (fun c => decide (c ∈ y)) = true) (fun g => x.length - g) ?_ 0 _ _ ⟨rfl, by omega, rfl, by simp⟩
  rintro g x8 h' ⟨rfl, hg, rfl, hk⟩ R hR
  unfold Zhc.L2t
  refine Zal (fun hlt => ?_) (fun hge => ?_)
  · have hg' : g < x.length := by omega
    refine ⟨⟨by omega, by omega⟩, ?_⟩
    simp only [Int.toNat_natCast, Zea hg']
    refine (Zpm y x[g] (by omega)).mono ?_
    rintro v h2 ⟨rfl, rfl⟩
    simp only [Zao]
    have hix : decide (Zrq y x[g] < 0) = !decide (x[g] ∈ y) := by
      by_cases hm : x[g] ∈ y
      · have := (Ztx y x[g]).2 hm
        simp [hm]; omega
      · rw [Zsv hm]; simp [hm]
    rw [hix]
    refine Zbs (fun hb => ⟨by rw [Znz hg' hb], by trivial⟩) (fun hb => ?_)
    rw [Zbm (by omega)]
    exact hR (g + 1) _ _ (by omega) ⟨rfl, by omega, rfl, Zfc hg' hk hb⟩
  · apply Zhc.A2x0i
    have : g = x.length := by omega
    subst this
    rw [List.take_length] at hk
    exact ⟨by rw [hk], by trivial⟩

theorem Yep {cs : List Nd} {ct tt : List Nat} {ns : List Nd} (h1 : Zgy cs = true) (h2 : Zet cs ct = true) (h3 : Znp tt = true) (h4 : tt.length ≤ 20) (h5 : Zjs tt = false) (h6 : ns.length ≤ 3) : Zmh cs ((ct, tt), ns) = ns.all (Zjl cs tt) := by
  unfold Zmh; simp [h1, h2, h3, h4, h5, h6]
theorem Ztp {h : Zaa} {a a1 a2 : Pt} {n c n1 c1 n2 c2 : Nat} {e e1 e2 : Bool} {cs ns : List Nd} {ct tt : List Nat} (r : Row h.length h a (n * 2) (Zff eP cs)) (hc : n ≤ c) (hn : n ≤ 1048576) (hs : ∀ p ∈ cs, p.2.length ≤ 1048576)
    (r2 : Row h.length h a2 (n2 * 2) (Zff eP ns)) (hn2 : n2 ≤ 1048576) (hns : ∀ p ∈ ns, p.2.length ≤ 1048576) (htt : tt.length ≤ 1048576) :
    Zad pg Zhw [.agg [.slice a n c e, .slice a1 n1 c1 e1], .agg [.str ct, .str tt, .slice a2 n2 c2 e2]] h fun v h' => v = .bool (Zmh cs ((ct, tt), ns)) ∧ Zaz h.length h h' := by
  have hl : cs.length = n := by have := r.1; rw [Zbe Zdp] at this; omega
  have hl2 : ns.length = n2 := by have := r2.1; rw [Zbe Zdp] at this; omega
  apply Zcf.call
  simp only [Zax]
  generalize hh0 : h ++ [Zcn.cells Zak [.slice a n c e, .slice a1 n1 c1 e1] false] = h0
  generalize hh1 : h0 ++ [Zcn.cells Zas [.str ct, .str tt, .slice a2 n2 c2 e2] false] = h1
  have s0 : Zaz h.length h h0 := by rw [← hh0]; exact Zau
  have s01 : Zaz h0.length h0 h1 := by rw [← hh1]; exact Zau
  have s1 : Zaz h.length h h1 := s0.trans (s01.mono s0.le)
  have hl0 : h0.length = h.length + 1 := by rw [← hh0]; simp
  have hl1 : h1.length = h.length + 2 := by rw [← hh1]; simp [hl0]
  have w1 : h1[h.length]? = some (.cells Zak [.slice a n c e, .slice a1 n1 c1 e1] false) := by rw [← hh1, Zwy (by omega), ← hh0]; simp
  have i1 : h1[h0.length]? = some (.cells Zas [.str ct, .str tt, .slice a2 n2 c2 e2] false) := by rw [← hh1]; simp
  rw [Zee w1 (by simp)]
  simp only [List.drop_zero, List.take_succ_cons, List.take_zero, Zan, Zae, Zah, Zap]
  refine (Zte (r.same' s1) hc hn hs).mono ?_
  rintro v h2 ⟨rfl, s2⟩
  have S2 : Zaz h.length h h2 := s1.trans (s2.mono (by omega))
  have w2 : h2[h.length]? = some (.cells Zak [.slice a n c e, .slice a1 n1 c1 e1] false) := by rw [s2.eq _ (by omega)]; exact w1
  have i2 : h2[h0.length]? = some (.cells Zas [.str ct, .str tt, .slice a2 n2 c2 e2] false) := by rw [s2.eq _ (by omega)]; exact i1
  simp only [Zai]
  refine Zbs (fun hb => ⟨by unfold Zmh; rw [hb]; rfl, S2⟩) (fun b1 => ?_)
  simp only [Nat.add_zero, Nat.zero_add, Zaq w2, Zaq i2, List.getElem?_cons_succ, List.getElem?_cons_zero, Zah, Zaf]
  refine (Zrx (r.same' S2) (by omega)).mono ?_
  rintro v h3 ⟨rfl, s3⟩
  have hle2 := s2.le
  have S3 : Zaz h.length h h3 := S2.trans (s3.mono S2.le)
  have i3 : h3[h0.length]? = some (.cells Zas [.str ct, .str tt, .slice a2 n2 c2 e2] false) := by rw [s3.eq _ (by omega)]; exact i2
  have w3 : h3[h.length]? = some (.cells Zak [.slice a n c e, .slice a1 n1 c1 e1] false) := by rw [s3.eq _ (by omega)]; exact w2
  simp only [Zai]
  refine Zbs (fun hb => ⟨by unfold Zmh; rw [b1, hb]; rfl, S3⟩) (fun b2 => ?_)
  simp only [Zaq i3, List.getElem?_cons_succ, List.getElem?_cons_zero, Zaf]
  refine (Zkr tt h3).mono ?_
  rintro v h4 ⟨rfl, s4⟩
  have hle3 := s3.le
  have S4 : Zaz h.length h h4 := S3.trans (s4.mono S3.le)
  have i4 : h4[h0.length]? = some (.cells Zas [.str ct, .str tt, .slice a2 n2 c2 e2] false) := by rw [s4.eq _ (by omega)]; exact i3
  have w4 : h4[h.length]? = some (.cells Zak [.slice a n c e, .slice a1 n1 c1 e1] false) := by rw [s4.eq _ (by omega)]; exact w3
  simp only [Zai]
  refine Zbs (fun hb => ⟨by unfold Zmh; rw [b1, b2, hb]; rfl, S4⟩) (fun b3 => ?_)
  simp only [Zaq i4, List.getElem?_cons_succ, List.getElem?_cons_zero, Zaf]
  refine Zal (fun hb => ⟨by unfold Zmh; rw [b1, b2, b3]; simp [show ¬ tt.length ≤ 20 by omega], S4⟩) (fun b4 => ?_)
  refine (Zym tt).mono ?_
  rintro v h5 ⟨rfl, rfl⟩
  simp only [Zai]
  refine Zdu (fun hb => ⟨by unfold Zmh; rw [hb]; simp, S4⟩) (fun b5 => ?_)
  simp only [Zaq i4, List.getElem?_cons_succ, List.getElem?_cons_zero, Zah]
  refine Zal (fun hb => ⟨by unfold Zmh; simp [show ¬ ns.length ≤ 3 by omega], S4⟩) (fun b6 => ?_)
  rw [Yep b1 b2 b3 (by omega) b5 (by omega)]
  apply Zcf.J3i
  simp only [Nat.zero_add, Zaq i4, List.getElem?_cons_succ, List.getElem?_cons_zero, Zah]
  have hle4 := s4.le
  refine Zcf.L4ind _ _ _ _ _ _ _ _ _ _ (J := fun (g : Nat) x50 h' => x50 = (g : Int) ∧ g ≤ n2 ∧ Zaz h5.length h5 h' ∧ (ns.take g).all (Zjl cs tt) = true) (fun g => n2 - g) ?_ 0 _ _ ⟨rfl, by omega, Zaz.refl _ _, rfl⟩
  rintro g x50 h' ⟨rfl, hg, hS, hk⟩ R hR
  have SS : Zaz h.length h h' := S4.trans (hS.mono S4.le)
  unfold Zcf.L4t
  refine Zal (fun hlt => ?_) (fun hge => ?_)
  · obtain ⟨i, o, hgl, rfl, hil, hr, _⟩ := (r2.same SS).pr (k := g) (by omega)
    simp only [Zav, Int.toNat_natCast, hr, Zan, Zae, Zap, Zaf, Zax]
    rw [Zgd]
    have hlh := hS.le
    generalize hq : h' ++ [Zcn.cells Zaj [.str ns[g].1, .str ns[g].2] false] = hq'
    have sq : Zaz h'.length h' hq' := by rw [← hq]; exact Zau
    have hql : hq'.length = h'.length + 1 := by rw [← hq]; simp
    have nq : hq'[h'.length]? = some (.cells Zaj [.str ns[g].1, .str ns[g].2] false) := by rw [← hq]; simp
    have wq : hq'[h.length]? = some (.cells Zak [.slice a n c e, .slice a1 n1 c1 e1] false) := by rw [sq.eq _ (by omega), hS.eq _ (by omega)]; exact w4
    have iq : hq'[h0.length]? = some (.cells Zas [.str ct, .str tt, .slice (some (i, o)) n2 c2 e2] false) := by rw [sq.eq _ (by omega), hS.eq _ (by omega)]; exact i4
    simp only [Zaw, Nat.add_zero, Nat.zero_add, Zaq wq, Zaq nq, List.getElem?_cons_succ, List.getElem?_cons_zero, Zah, Zaf]
    have Sq : Zaz h.length h hq' := SS.trans (sq.mono SS.le)
    refine ⟨by omega, (Zrx (r.same' Sq) (by omega)).mono ?_⟩
    rintro v k3 ⟨rfl, t3⟩
    have T3 := Sq.trans (t3.mono Sq.le)
    have n3 : k3[h'.length]? = some (.cells Zaj [.str ns[g].1, .str ns[g].2] false) := by rw [t3.eq _ (by omega)]; exact nq
    simp only [Zai]
    have fail : ∀ hx, Zaz h.length h hx → Zjl cs tt ns[g] = false → (Zar.bool false = Zar.bool (ns.all (Zjl cs tt)) ∧ Zaz h.length h hx) := fun hx hs hf => ⟨by rw [Znz hgl hf], hs⟩
    refine Zbs (fun hb => fail _ T3 (by unfold Zjl; rw [hb]; rfl)) (fun m1 => ?_)
    simp only [Zaq n3, List.getElem?_cons_succ, List.getElem?_cons_zero, Zaf]
    refine (Zkr _ k3).mono ?_
    rintro v k4 ⟨rfl, t4⟩
    have ht3 := t3.le
    have T4 := T3.trans (t4.mono T3.le)
    have n4 : k4[h'.length]? = some (.cells Zaj [.str ns[g].1, .str ns[g].2] false) := by rw [t4.eq _ (by omega)]; exact n3
    simp only [Zai]
    refine Zbs (fun hb => fail _ T4 (by unfold Zjl; rw [m1, hb]; rfl)) (fun m2 => ?_)
    simp only [Zaq n4, List.getElem?_cons_succ, List.getElem?_cons_zero, Zaf]
    refine Zal (fun hb => fail _ T4 (by unfold Zjl; simp [show ¬ ns[g].2.length ≤ 20 by omega])) (fun m3 => ?_)
    apply Zcf.J8i
    simp only [Nat.zero_add, Zaq n4, List.getElem?_cons_succ, List.getElem?_cons_zero, Zaf]
    refine (Ynf _ k4).mono ?_
    rintro v k5 ⟨t5, av, nv, cv, ev, rfl, hrow⟩
    simp only [Zah]
    have ht4 := t4.le
    have ht5 := t5.le
    have T5 := T4.trans (t5.mono T4.le)
    have hvl : (Zqz ns[g].2).length = nv := by have := hrow.1; simpa using this
    have hv6 : (Zqz ns[g].2).length ≤ 6 := List.length_filter_le _ _
    have hni : Zjl cs tt ns[g] = (Zqz ns[g].2).all fun v => decide (v ∈ tt) := by unfold Zjl; rw [m1, m2]; simp [show ns[g].2.length ≤ 20 by omega]
    have i5 : k5[h0.length]? = some (.cells Zas [.str ct, .str tt, .slice (some (i, o)) n2 c2 e2] false) := by rw [t5.eq _ (by omega), t4.eq _ (by omega), t3.eq _ (by omega)]; exact iq
    refine Zcf.L9ind _ _ _ _ _ _ _ _ _ _ _ _ _ _ _ _ _ (J := fun (q : Nat) x76 h6 => x76 = (q : Int) ∧ q ≤ nv ∧ h6 = k5 ∧ ((Zqz ns[g].2).take q).all (fun v => decide (v ∈ tt)) = true) (fun q => nv - q) ?_ 0 _ _ ⟨rfl, by omega, rfl, rfl⟩
    rintro q x76 h6 ⟨rfl, hq6, rfl, hk6⟩ R9 hR9
    unfold Zcf.L9t
    refine Zal (fun hlt6 => ?_) (fun hge6 => ?_)
    · obtain ⟨iv, ov, rfl, _, hcv⟩ := hrow.at (k := q) (by omega)
      rw [Ydt, List.getElem?_map, List.getElem?_eq_getElem (show q < (Zqz ns[g].2).length by omega)] at hcv
      simp only [Option.map_some] at hcv
      simp only [Zav, Int.toNat_natCast, Nat.mul_one, hcv, Zaf, Nat.add_zero, Nat.zero_add, Zaq i5, List.getElem?_cons_succ, List.getElem?_cons_zero, one]
      refine ⟨by omega, Ziw.mono ?_⟩
      rintro v k7 ⟨rfl, rfl⟩
      simp only [Zai]
      refine Zbs (fun hb => fail _ T5 (by rw [hni]; exact Znz (by omega) hb)) (fun d1 => ?_)
      rw [Zbm (by omega)]
      exact hR9 (q + 1) _ _ (by omega) ⟨rfl, by omega, rfl, Zfc (by omega) hk6 d1⟩
    · apply Zcf.A9x2i
      apply Zcf.J14i
      have : q = nv := by omega
      subst this
      rw [List.take_of_length_le (by omega)] at hk6
      rw [Zbm (by omega)]
      refine hR (g + 1) _ _ (by omega) ⟨rfl, by omega, ?_, Zfc hgl hk (by rw [hni]; exact hk6)⟩
      exact hS.trans ((sq.mono hS.le).trans ((t3.mono (by omega)).trans ((t4.mono (by omega)).trans (t5.mono (by omega)))))
  · apply Zcf.A4x0i
    have : g = n2 := by omega
    subst this
    rw [List.take_of_length_le (by omega)] at hk
    exact ⟨by rw [hk], SS⟩
end Go.Sim

set_option linter.unusedVariables false
set_option linter.unusedSimpArgs false
set_option maxRecDepth 20000
namespace Go.Sim
open Go Go.RowKit

theorem Ybz (x t : List Nat) : ((Zqz x).all fun c => decide (c ∈ Zqz t)) = (Zqz x).all fun c => decide (c ∈ t) := by
  rw [Bool.eq_iff_iff, List.all_eq_true, List.all_eq_true]
  constructor
  · intro h c hc
    have := h c hc
    simp only [Zqz, decide_eq_true_eq, List.mem_filter] at this ⊢
    exact this.2
  · intro h c hc
    have h1 := h c hc
    have hv : c ∈ Zfi := (List.mem_filter.1 hc).1
    simp only [Zqz, decide_eq_true_eq, List.mem_filter] at h1 ⊢
    exact ⟨hv, h1⟩
theorem Zss {h : Zaa} {a a1 a2 : Pt} {n c n1 c1 n2 c2 : Nat} {e e1 e2 : Bool} {cs ns : List Nd} {ct tt : List Nat} (r : Row h.length h a (n * 2) (Zff eP cs)) (hc : n ≤ c) (hn : n ≤ 1048576) (hs : ∀ p ∈ cs, p.2.length ≤ 1048576) (hb256 : ∀ p ∈ cs, ∀ b ∈ p.1, b < 256)
    (r2 : Row h.length h a2 (n2 * 2) (Zff eP ns)) (hn2 : n2 ≤ 1048576) (hns : ∀ p ∈ ns, p.2.length ≤ 1048576) (htt : tt.length ≤ 1048576) :
    Zad pg Zhv [.agg [.slice a n c e, .slice a1 n1 c1 e1], .agg [.str ct, .str tt, .slice a2 n2 c2 e2]] h fun v h' => v = .bool (Zmh cs ((ct, tt), ns)) ∧ Zaz h.length h h' := by
  have hl : cs.length = n := by have := r.1; rw [Zbe Zdp] at this; omega
  have hl2 : ns.length = n2 := by have := r2.1; rw [Zbe Zdp] at this; omega
  apply Zdm.call
  simp only [Zax]
  generalize hh0 : h ++ [Zcn.cells Zak [.slice a n c e, .slice a1 n1 c1 e1] false] = h0
  generalize hh1 : h0 ++ [Zcn.cells Zas [.str ct, .str tt, .slice a2 n2 c2 e2] false] = h1
  have s0 : Zaz h.length h h0 := by rw [← hh0]; exact Zau
  have s01 : Zaz h0.length h0 h1 := by rw [← hh1]; exact Zau
  have s1 : Zaz h.length h h1 := s0.trans (s01.mono s0.le)
  have hl0 : h0.length = h.length + 1 := by rw [← hh0]; simp
  have hl1 : h1.length = h.length + 2 := by rw [← hh1]; simp [hl0]
  have w1 : h1[h.length]? = some (.cells Zak [.slice a n c e, .slice a1 n1 c1 e1] false) := by rw [← hh1, Zwy (by omega), ← hh0]; simp
  have i1 : h1[h0.length]? = some (.cells Zas [.str ct, .str tt, .slice a2 n2 c2 e2] false) := by rw [← hh1]; simp
  simp only [Nat.add_zero, Zaq w1, List.getElem?_cons_zero, Zah]
  refine (Ztl (r.same' s1) hc hn hs hb256).mono ?_
  rintro v h2 ⟨rfl, s2⟩
  have S2 : Zaz h.length h h2 := s1.trans (s2.mono (by omega))
  have w2 : h2[h.length]? = some (.cells Zak [.slice a n c e, .slice a1 n1 c1 e1] false) := by rw [s2.eq _ (by omega)]; exact w1
  have i2 : h2[h0.length]? = some (.cells Zas [.str ct, .str tt, .slice a2 n2 c2 e2] false) := by rw [s2.eq _ (by omega)]; exact i1
  simp only [Zai]
  refine Zbs (fun hb => ⟨by unfold Zmh; rw [hb]; rfl, S2⟩) (fun b1 => ?_)
  rw [Zee w2 (by simp)]
  simp only [List.drop_zero, List.take_succ_cons, List.take_zero, Zan, Zae, Zap, Nat.zero_add, Zaq i2, List.getElem?_cons_succ, List.getElem?_cons_zero, Zah, Zaf]
  refine (Zkb (r.same' S2) (by omega)).mono ?_
  rintro v h3 ⟨rfl, s3⟩
  have hle2 := s2.le
  have S3 : Zaz h.length h h3 := S2.trans (s3.mono S2.le)
  have i3 : h3[h0.length]? = some (.cells Zas [.str ct, .str tt, .slice a2 n2 c2 e2] false) := by rw [s3.eq _ (by omega)]; exact i2
  have w3 : h3[h.length]? = some (.cells Zak [.slice a n c e, .slice a1 n1 c1 e1] false) := by rw [s3.eq _ (by omega)]; exact w2
  simp only [Zao, Zvo]
  refine Zbs (fun hb => ⟨by unfold Zmh; rw [b1, hb]; rfl, S3⟩) (fun b2 => ?_)
  simp only [Zaq i3, List.getElem?_cons_succ, List.getElem?_cons_zero, Zaf]
  refine (Zjp tt (by omega) h3).mono ?_
  rintro v h4 ⟨rfl, s4⟩
  have hle3 := s3.le
  have S4 : Zaz h.length h h4 := S3.trans (s4.mono S3.le)
  have i4 : h4[h0.length]? = some (.cells Zas [.str ct, .str tt, .slice a2 n2 c2 e2] false) := by rw [s4.eq _ (by omega)]; exact i3
  have w4 : h4[h.length]? = some (.cells Zak [.slice a n c e, .slice a1 n1 c1 e1] false) := by rw [s4.eq _ (by omega)]; exact w3
  simp only [Zai]
  refine Zbs (fun hb => ⟨by unfold Zmh; rw [b1, b2, hb]; rfl, S4⟩) (fun b3 => ?_)
  simp only [Zaq i4, List.getElem?_cons_succ, List.getElem?_cons_zero, Zaf]
  refine Zal (fun hb => ⟨by unfold Zmh; rw [b1, b2, b3]; simp [show ¬ tt.length ≤ 20 by omega], S4⟩) (fun b4 => ?_)
  have hvh := Yot b3
  have hne := Ynk b3
  have htl : 0 < tt.length := by cases tt with | nil => exact absurd rfl hne | cons => simp
  refine ⟨⟨by omega, by omega⟩, ?_⟩
  have hgd : tt.getD (Int.toNat 0) 0 = tt.headD 0 := by cases tt <;> rfl
  rw [hgd]
  refine (Znv _).mono ?_
  rintro v h5 ⟨rfl, rfl⟩
  simp only [Zai, ← hvh]
  refine Zdu (fun hb => ⟨by unfold Zmh; rw [hb]; simp, S4⟩) (fun b5 => ?_)
  simp only [Zaq i4, List.getElem?_cons_succ, List.getElem?_cons_zero, Zah]
  refine Zal (fun hb => ⟨by unfold Zmh; simp [show ¬ ns.length ≤ 3 by omega], S4⟩) (fun b6 => ?_)
  rw [Yep b1 b2 b3 (by omega) b5 (by omega)]
  apply Zdm.J3i
  simp only [Nat.zero_add, Zaq i4, List.getElem?_cons_succ, List.getElem?_cons_zero, Zah]
  have hle4 := s4.le
  refine Zdm.L4ind _ _ _ _ _ _ _ _ _ _ (J := fun (g : Nat) x50 h' => x50 = (g : Int) ∧ g ≤ n2 ∧ Zaz h5.length h5 h' ∧ (ns.take g).all (Zjl cs tt) = true) (fun g => n2 - g) ?_ 0 _ _ ⟨rfl, by omega, Zaz.refl _ _, rfl⟩
  rintro g x50 h' ⟨rfl, hg, hS, hk⟩ R hR
  have SS : Zaz h.length h h' := S4.trans (hS.mono S4.le)
  unfold Zdm.L4t
  refine Zal (fun hlt => ?_) (fun hge => ?_)
  · obtain ⟨i, o, hgl, rfl, hil, hr, _⟩ := (r2.same SS).pr (k := g) (by omega)
    simp only [Zav, Int.toNat_natCast, hr, Zan, Zae, Zap, Zaf, Zax]
    rw [Zgd]
    have hlh := hS.le
    generalize hq : h' ++ [Zcn.cells Zaj [.str ns[g].1, .str ns[g].2] false] = hq'
    have sq : Zaz h'.length h' hq' := by rw [← hq]; exact Zau
    have hql : hq'.length = h'.length + 1 := by rw [← hq]; simp
    have nq : hq'[h'.length]? = some (.cells Zaj [.str ns[g].1, .str ns[g].2] false) := by rw [← hq]; simp
    have wq : hq'[h.length]? = some (.cells Zak [.slice a n c e, .slice a1 n1 c1 e1] false) := by rw [sq.eq _ (by omega), hS.eq _ (by omega)]; exact w4
    have iq : hq'[h0.length]? = some (.cells Zas [.str ct, .str tt, .slice (some (i, o)) n2 c2 e2] false) := by rw [sq.eq _ (by omega), hS.eq _ (by omega)]; exact i4
    have row : ∀ {hx : Zaa}, hx[h.length]? = some (.cells Zak [.slice a n c e, .slice a1 n1 c1 e1] false) → Zbp hx (.ptr (some (h.length, 0))) 2 = some [.slice a n c e, .slice a1 n1 c1 e1] := fun w => by rw [Zee w (by simp)]; rfl
    simp only [Zaw, Nat.add_zero, Nat.zero_add, row wq, Zaq nq, List.getElem?_cons_succ, List.getElem?_cons_zero, Zan, Zae, Zap, Zah, Zaf, true_and]
    have Sq : Zaz h.length h hq' := SS.trans (sq.mono SS.le)
    refine ⟨by omega, (Zkb (r.same' Sq) (by omega)).mono ?_⟩
    rintro v k3 ⟨rfl, t3⟩
    have T3 := Sq.trans (t3.mono Sq.le)
    have n3 : k3[h'.length]? = some (.cells Zaj [.str ns[g].1, .str ns[g].2] false) := by rw [t3.eq _ (by omega)]; exact nq
    have w3' : k3[h.length]? = some (.cells Zak [.slice a n c e, .slice a1 n1 c1 e1] false) := by rw [t3.eq _ (by omega)]; exact wq
    have i3' : k3[h0.length]? = some (.cells Zas [.str ct, .str tt, .slice (some (i, o)) n2 c2 e2] false) := by rw [t3.eq _ (by omega)]; exact iq
    have ht3 := t3.le
    simp only [Zao, Zvo, row w3', Zaq n3, List.getElem?_cons_succ, List.getElem?_cons_zero, Zaf, true_and]
    have fail : ∀ hx, Zaz h.length h hx → Zjl cs tt ns[g] = false → (Zar.bool false = Zar.bool (ns.all (Zjl cs tt)) ∧ Zaz h.length h hx) := fun hx hs hf => ⟨by rw [Znz hgl hf], hs⟩
    refine Zbs (fun hb => fail _ T3 (by unfold Zjl; rw [hb]; rfl)) (fun m1 => ?_)
    have hnl := hns ns[g] (List.getElem_mem hgl)
    refine (Zjp _ (by omega) k3).mono ?_
    rintro v k4 ⟨rfl, t4⟩
    have T4 := T3.trans (t4.mono T3.le)
    have ht4 := t4.le
    have n4 : k4[h'.length]? = some (.cells Zaj [.str ns[g].1, .str ns[g].2] false) := by rw [t4.eq _ (by omega)]; exact n3
    have w4' : k4[h.length]? = some (.cells Zak [.slice a n c e, .slice a1 n1 c1 e1] false) := by rw [t4.eq _ (by omega)]; exact w3'
    have i4' : k4[h0.length]? = some (.cells Zas [.str ct, .str tt, .slice (some (i, o)) n2 c2 e2] false) := by rw [t4.eq _ (by omega)]; exact i3'
    simp only [Zai, row w4', Zaq n4, Zaq i4', List.getElem?_cons_succ, List.getElem?_cons_zero, Zaf, true_and]
    refine Zbs (fun hb => fail _ T4 (by unfold Zjl; rw [m1, hb]; rfl)) (fun m2 => ?_)
    refine Zal (fun hb => fail _ T4 (by unfold Zjl; simp [show ¬ ns[g].2.length ≤ 20 by omega])) (fun m3 => ?_)
    refine (Zxa _ hnl).mono ?_
    rintro v k5 ⟨rfl, t5⟩
    have T5 := T4.trans (t5.mono T4.le)
    have ht5 := t5.le
    have n5 : k5[h'.length]? = some (.cells Zaj [.str ns[g].1, .str ns[g].2] false) := by rw [t5.eq _ (by omega)]; exact n4
    have w5' : k5[h.length]? = some (.cells Zak [.slice a n c e, .slice a1 n1 c1 e1] false) := by rw [t5.eq _ (by omega)]; exact w4'
    have i5' : k5[h0.length]? = some (.cells Zas [.str ct, .str tt, .slice (some (i, o)) n2 c2 e2] false) := by rw [t5.eq _ (by omega)]; exact i4'
    simp only [row w5', Zaq n5, Zaq i5', List.getElem?_cons_succ, List.getElem?_cons_zero, Zaf, true_and]
    refine (Zxa _ htt).mono ?_
    rintro v k6 ⟨rfl, t6⟩
    have T6 := T5.trans (t6.mono T5.le)
    have ht6 := t6.le
    have n6 : k6[h'.length]? = some (.cells Zaj [.str ns[g].1, .str ns[g].2] false) := by rw [t6.eq _ (by omega)]; exact n5
    have w6' : k6[h.length]? = some (.cells Zak [.slice a n c e, .slice a1 n1 c1 e1] false) := by rw [t6.eq _ (by omega)]; exact w5'
    have i6' : k6[h0.length]? = some (.cells Zas [.str ct, .str tt, .slice (some (i, o)) n2 c2 e2] false) := by rw [t6.eq _ (by omega)]; exact i5'
    simp only [row w6', Zaq n6, Zaq i6', List.getElem?_cons_succ, List.getElem?_cons_zero, Zaf, true_and]
    rw [if_pos m2, if_pos b3]
    have hvb : ∀ s, (Zqz s).length ≤ 6 := fun s => List.length_filter_le _ _
    have hv1 := hvb ns[g].2
    have hv2 := hvb tt
    refine (Yhw _ _ (by omega) (by omega)).mono ?_
    rintro v k7 ⟨rfl, rfl⟩
    have hni : Zjl cs tt ns[g] = (Zqz ns[g].2).all fun v => decide (v ∈ tt) := by unfold Zjl; rw [m1, m2]; simp [show ns[g].2.length ≤ 20 by omega]
    simp only [Zai, row w6', Zaq n6, Zaq i6', List.getElem?_cons_succ, List.getElem?_cons_zero, Zaf, true_and, Ybz, ← hni]
    refine Zbs (fun hb => fail _ T6 hb) (fun m4 => ?_)
    apply Zdm.J8i
    rw [Zbm (by omega)]
    refine hR (g + 1) _ _ (by omega) ⟨rfl, by omega, ?_, Zfc hgl hk m4⟩
    exact hS.trans ((sq.mono hS.le).trans ((t3.mono (by omega)).trans ((t4.mono (by omega)).trans ((t5.mono (by omega)).trans (t6.mono (by omega))))))
  · apply Zdm.A4x0i
    have : g = n2 := by omega
    subst this
    rw [List.take_of_length_le (by omega)] at hk
    exact ⟨by rw [hk], SS⟩
end Go.Sim

set_option linter.unusedVariables false
set_option linter.unusedSimpArgs false
set_option maxRecDepth 20000
namespace Go.Sim
open Go Go.RowKit

structure WB (w : Wd) : Prop where
  lc : w.cs.length ≤ 1048576
  li : w.is.length ≤ 1048576
  cs : ∀ p ∈ w.cs, p.1.length ≤ 1048576 ∧ p.2.length ≤ 1048576 ∧ ∀ b ∈ p.1, b < 256
  is : ∀ i ∈ w.is, i.1.1.length ≤ 1048576 ∧ i.1.2.length ≤ 1048576 ∧ i.2.length ≤ 1048576 ∧ ∀ p ∈ i.2, p.1.length ≤ 1048576 ∧ p.2.length ≤ 1048576
def Zns (a0 : Pt) (n0 c0 : Nat) (e0 : Bool) (a1 : Pt) (n1 c1 : Nat) (e1 : Bool) : Zcn := .cells Zak [.slice a0 n0 c0 e0, .slice a1 n1 c1 e1] false
theorem Zsg {h : Zaa} {j : Nat} {a0 a1 : Pt} {n0 c0 n1 c1 : Nat} {e0 e1 : Bool} (hj : h[j]? = some (Zns a0 n0 c0 e0 a1 n1 c1 e1)) : Zbp h (.ptr (some (j, 0))) 2 = some [.slice a0 n0 c0 e0, .slice a1 n1 c1 e1] := by
  rw [Zee (show h[j]? = some (.cells Zak [.slice a0 n0 c0 e0, .slice a1 n1 c1 e1] false) from hj) (by simp)]; rfl
theorem Zph {h : Zaa} {j o : Nat} {a0 a1 : Pt} {n0 c0 n1 c1 : Nat} {e0 e1 : Bool} (hj : h[j]? = some (Zns a0 n0 c0 e0 a1 n1 c1 e1)) : Zag h (.ptr (some (j, o))) = ([.slice a0 n0 c0 e0, .slice a1 n1 c1 e1] : List Zar)[o]? := Zaq (show h[j]? = some (.cells Zak [.slice a0 n0 c0 e0, .slice a1 n1 c1 e1] false) from hj)
theorem Zaz.get {b : Nat} {h h' : Zaa} {j : Nat} {x : Zcn} (s : Zaz b h h') (hj : h[j]? = some x) (hb : j < b) : h'[j]? = some x := by rw [s.eq j hb]; exact hj
theorem Zaz.cat {h h1 h2 : Zaa} (a : Zaz h.length h h1) (b : Zaz h1.length h1 h2) : Zaz h.length h h2 := a.trans (b.mono a.le)

theorem Ygh {h : Zaa} {t : TypeId} {x y : Zar} : Zbp (h ++ [.cells t [x, y] false]) (.ptr (some (h.length, 0))) 2 = some [x, y] := Zzs rfl
theorem Ynb {h : Zaa} {t : TypeId} {x y z : Zar} : Zbp (h ++ [.cells t [x, y, z] false]) (.ptr (some (h.length, 0))) 3 = some [x, y, z] := Zzs rfl
theorem Yca {h : Zaa} {a0 a1 a2 : Pt} {n0 c0 n1 c1 n2 c2 j : Nat} {e0 e1 e2 : Bool} {w : Wd} {ns : List Nd} {ct tt : List Nat} (r : Zmi h a0 n0 c0 a1 n1 c1 w) (b : WB w) (hj : h[j]? = some (Zns a0 n0 c0 e0 a1 n1 c1 e1))
    (r2 : Row h.length h a2 (n2 * 2) (Zff eP ns)) (hn2 : n2 ≤ 1048576) (hns : ∀ p ∈ ns, p.2.length ≤ 1048576) (htt : tt.length ≤ 1048576) :
    Zad pg Zbv [.agg [.str ct, .str tt, .slice a2 n2 c2 e2], .ptr (some (j, 0))] h fun v h' => v = .bool (!Zmh w.cs ((ct, tt), ns)) ∧ Zaz h.length h h' := by
  apply Zjv.call
  simp only [Zax]
  have s1 : Zaz h.length h (h ++ [.cells Zas [.str ct, .str tt, .slice a2 n2 c2 e2] false]) := Zau
  rw [Zsg (s1.get hj (Own.lt hj)), Ynb]
  simp only [Zan, Zae, Zap, Zah, Zaf]
  have hlc := b.lc
  have hl0 := r.len0
  refine (Ztp (r.cls.same' s1) r.le0 (by omega) (fun p hp => (b.cs p hp).2.1) (r2.same' s1) hn2 hns htt).mono ?_
  rintro v h2 ⟨rfl, s2⟩
  simp only [Zai]
  exact ⟨by trivial, s1.cat s2⟩
theorem Ybr {h : Zaa} {a0 a1 : Pt} {n0 c0 n1 c1 j : Nat} {e0 e1 : Bool} {w : Wd} (r : Zmi h a0 n0 c0 a1 n1 c1 w) (b : WB w) (hj : h[j]? = some (Zns a0 n0 c0 e0 a1 n1 c1 e1)) :
    Zad pg Zcs [.slice a1 n1 c1 e1, .fn Zbv [.ptr (some (j, 0))]] h fun v h' => (∃ z : Int, v = .int .i64 z ∧ decide (z ≥ 0) = !w.is.all (Zmh w.cs)) ∧ Zaz h.length h h' := by
  have hl := r.len1
  have hli := b.li
  apply Zba.call
  refine Zba.L2ind _ _ _ _ _ _ _ (J := fun (g : Nat) x8 h' => x8 = (g : Int) ∧ g ≤ n1 ∧ Zaz h.length h h' ∧ (w.is.take g).all (Zmh w.cs) = true) (fun g => n1 - g) ?_ 0 _ _ ⟨rfl, by omega, Zaz.refl _ _, rfl⟩
  rintro g x8 h' ⟨rfl, hg, hS, hk⟩ R hR
  unfold Zba.L2t
  refine Zal (fun hlt => ?_) (fun hge => ?_)
  · obtain ⟨i, o, hgl, a2, n2, c2, e2, rfl, _, hr, _, _, _, hrow, hn⟩ := (r.same hS).inst (k := g) (by omega)
    simp only [Zav, Int.toNat_natCast, hr, Zan, Zae, Zap, Zaf, Zah]
    have hb := b.is _ (List.getElem_mem hgl)
    refine ⟨by omega, (Yca (r.same hS) b (hS.get hj (Own.lt hj)) hrow (by omega) (fun p hp => (hb.2.2.2 p hp).2) hb.2.1).mono ?_⟩
    rintro v h2 ⟨rfl, s2⟩
    simp only [Zai]
    have hS2 := hS.cat s2
    refine Zbs (fun he => ?_) (fun he => ?_)
    · exact ⟨⟨_, rfl, by rw [Znz hgl he]; simp⟩, hS2⟩
    · rw [Zbm (by omega)]
      exact hR (g + 1) _ _ (by omega) ⟨rfl, by omega, hS2, Zfc hgl hk he⟩
  · apply Zba.A2x0i
    have : g = n1 := by omega
    subst this
    rw [List.take_of_length_le (by omega)] at hk
    exact ⟨⟨_, rfl, by rw [hk]; rfl⟩, hS⟩
theorem Zru {h : Zaa} {a0 a1 : Pt} {n0 c0 n1 c1 : Nat} {e0 e1 : Bool} {w : Wd} (r : Zmi h a0 n0 c0 a1 n1 c1 w) (b : WB w) :
    Zad pg Zht [.agg [.slice a0 n0 c0 e0, .slice a1 n1 c1 e1]] h fun v h' => v = .bool (Zfl w) ∧ Zaz h.length h h' := by
  have hl0 := r.len0
  have hl1 := r.len1
  have hlc := b.lc
  apply Zne.call
  simp only [Zax]
  generalize hh0 : h ++ [Zcn.cells Zak [.slice a0 n0 c0 e0, .slice a1 n1 c1 e1] false] = h0
  have s0 : Zaz h.length h h0 := by rw [← hh0]; exact Zau
  have w0 : h0[h.length]? = some (Zns a0 n0 c0 e0 a1 n1 c1 e1) := by rw [← hh0]; simp [Zns]
  rw [Zsg w0]
  simp only [Zan, Zae, Zap, Zah]
  refine (Zte (r.cls.same' s0) r.le0 (by omega) (fun p hp => (b.cs p hp).2.1)).mono ?_
  rintro v h2 ⟨rfl, s2⟩
  have S2 := s0.cat s2
  have w2 := s2.get w0 (Own.lt w0)
  simp only [Zai]
  refine Zdu (fun b1 => ?_) (fun b1 => ⟨by unfold Zfl; rw [b1]; rfl, S2⟩)
  simp only [Zph w2, Nat.zero_add, List.getElem?_cons_succ, List.getElem?_cons_zero, Zah]
  refine Zal (fun b2 => ?_) (fun b2 => ⟨by unfold Zfl; rw [b1]; simp [show ¬ w.is.length ≤ 10 by omega], S2⟩)
  apply Zcd.call
  refine (Ybr (r.same S2) b w2).mono ?_
  rintro v h3 ⟨⟨z, rfl, hz⟩, s3⟩
  simp only [Zao, Zai]
  refine ⟨?_, S2.cat s3⟩
  rw [hz, Bool.not_not]
  unfold Zfl
  rw [b1]; simp [show w.is.length ≤ 10 by omega]
theorem Zmv {h : Zaa} {a0 a1 : Pt} {n0 c0 n1 c1 : Nat} {e0 e1 : Bool} {w : Wd} (r : Zmi h a0 n0 c0 a1 n1 c1 w) (b : WB w) :
    Zad pg Zgk [.agg [.slice a0 n0 c0 e0, .slice a1 n1 c1 e1]] h fun v h' => v = .bool (Zfl w) ∧ Zaz h.length h h' := by
  have hl0 := r.len0
  have hl1 := r.len1
  have hlc := b.lc
  have hli := b.li
  apply Zgh.call
  simp only [Zax]
  generalize hh0 : h ++ [Zcn.cells Zak [.slice a0 n0 c0 e0, .slice a1 n1 c1 e1] false] = h0
  have s0 : Zaz h.length h h0 := by rw [← hh0]; exact Zau
  have w0 : h0[h.length]? = some (Zns a0 n0 c0 e0 a1 n1 c1 e1) := by rw [← hh0]; simp [Zns]
  simp only [Zph w0, Nat.zero_add, List.getElem?_cons_succ, List.getElem?_cons_zero, Zah]
  refine Zgh.L2ind _ _ _ _ _ _ _ _ (J := fun (g : Nat) x8 h' => x8 = (g : Int) ∧ g ≤ n1 ∧ Zaz h0.length h0 h' ∧ (w.is.take g).all (Zmh w.cs) = true) (fun g => n1 - g) ?_ 0 _ _ ⟨rfl, by omega, Zaz.refl _ _, rfl⟩
  rintro g x8 h' ⟨rfl, hg, hS, hk⟩ R hR
  have SS := s0.cat hS
  have w1 := hS.get w0 (Own.lt w0)
  unfold Zgh.L2t
  refine Zal (fun hlt => ?_) (fun hge => ?_)
  · obtain ⟨i, o, hgl, a2, n2, c2, e2, rfl, _, hr, _, _, _, hrow, hn⟩ := (r.same SS).inst (k := g) (by omega)
    simp only [Zav, Int.toNat_natCast, hr, Zan, Zae, Zap, Zaf, Zah, Zax]
    rw [Ypb]
    generalize hq : h' ++ [Zcn.cells Zas [.str w.is[g].1.1, .str w.is[g].1.2, .slice a2 n2 c2 e2] false] = hq'
    have sq : Zaz h'.length h' hq' := by rw [← hq]; exact Zau
    simp only [Zaw]
    rw [Zsg (sq.get w1 (Own.lt w1)), ← hq, Ynb, hq]
    simp only [Zan, Zae, Zap, Zaf, Zah]
    have hb := b.is _ (List.getElem_mem hgl)
    have Sq := SS.cat sq
    refine ⟨by omega, (Zss (r.cls.same' Sq) r.le0 (by omega) (fun p hp => (b.cs p hp).2.1) (fun p hp => (b.cs p hp).2.2) (hrow.same' sq) (by omega) (fun p hp => (hb.2.2.2 p hp).2) hb.2.1).mono ?_⟩
    rintro v h2 ⟨rfl, s2⟩
    simp only [Zai]
    refine Zbs (fun he => ?_) (fun he => ?_)
    · exact ⟨by unfold Zfl; rw [Znz hgl he]; simp, Sq.cat s2⟩
    · rw [Zbm (by omega)]
      exact hR (g + 1) _ _ (by omega) ⟨rfl, by omega, (hS.cat sq).cat s2, Zfc hgl hk he⟩
  · apply Zgh.A2x0i
    have : g = n1 := by omega
    subst this
    rw [List.take_of_length_le (by omega)] at hk
    simp only [Zph w1, Nat.zero_add, List.getElem?_cons_zero, Zah]
    refine (Ztl (r.cls.same' SS) r.le0 (by omega) (fun p hp => (b.cs p hp).2.1) (fun p hp => (b.cs p hp).2.2)).mono ?_
    rintro v h2 ⟨rfl, s2⟩
    simp only [Zai]
    have w2 := s2.get w1 (Own.lt w1)
    refine Zdu (fun b1 => ?_) (fun b1 => ⟨by unfold Zfl; rw [b1]; rfl, SS.cat s2⟩)
    simp only [Zph w2, Nat.zero_add, List.getElem?_cons_succ, List.getElem?_cons_zero, Zah]
    refine ⟨?_, SS.cat s2⟩
    unfold Zfl
    rw [b1, hk]; congr 1; rw [Bool.eq_iff_iff]; simp; omega
theorem Yan {h : Zaa} {a0 a1 : Pt} {n0 c0 n1 c1 : Nat} {e0 e1 : Bool} {w : Wd} {ct tt : List Nat} (r : Zmi h a0 n0 c0 a1 n1 c1 w) (b : WB w) :
    Zad pg Zlf [.agg [.slice a0 n0 c0 e0, .slice a1 n1 c1 e1], .agg [.str ct, .str tt]] h fun v h' => v = .bool (Zga w (ct, tt)) ∧ Zaz h.length h h' := by
  have hl0 := r.len0
  have hlc := b.lc
  apply Zsf.call
  simp only [Zax]
  generalize hh0 : h ++ [Zcn.cells Zak [.slice a0 n0 c0 e0, .slice a1 n1 c1 e1] false] = h0
  generalize hh1 : h0 ++ [Zcn.cells Zaj [.str ct, .str tt] false] = h1
  have s0 : Zaz h.length h h0 := by rw [← hh0]; exact Zau
  have s1 : Zaz h0.length h0 h1 := by rw [← hh1]; exact Zau
  have w0 : h0[h.length]? = some (Zns a0 n0 c0 e0 a1 n1 c1 e1) := by rw [← hh0]; simp [Zns]
  have w1 := s1.get w0 (Own.lt w0)
  have i1 : h1[h0.length]? = some (.cells Zaj [.str ct, .str tt] false) := by rw [← hh1]; simp
  simp only [Zph w1, Zaq i1, Nat.zero_add, List.getElem?_cons_zero, List.getElem?_cons_succ, Zah, Zaf]
  refine (Zrx (r.cls.same' (s0.cat s1)) (by omega)).mono ?_
  rintro v h2 ⟨rfl, s2⟩
  simp only [Zai]
  have i2 := s2.get i1 (Own.lt i1)
  refine Zdu (fun b1 => ?_) (fun b1 => ⟨by unfold Zga; rw [b1]; rfl, (s0.cat s1).cat s2⟩)
  simp only [Zaq i2, Nat.zero_add, List.getElem?_cons_zero, List.getElem?_cons_succ, Zah, Zaf]
  refine (Zkr tt h2).mono ?_
  rintro v h3 ⟨rfl, s3⟩
  simp only [Zai]
  exact ⟨by unfold Zga; rw [b1]; rfl, ((s0.cat s1).cat s2).cat s3⟩
theorem Zzf (cs : List Nd) (c : List Nat) : decide (Zvx cs c ≥ 0) = Zet cs c := by
  unfold Zvx; cases h : Zet cs c <;> simp
theorem Yjh {h : Zaa} {a0 a1 : Pt} {n0 c0 n1 c1 : Nat} {e0 e1 : Bool} {w : Wd} {ct tt : List Nat} (r : Zmi h a0 n0 c0 a1 n1 c1 w) (b : WB w) (ht : tt.length ≤ 1048576) :
    Zad pg Zoh [.agg [.slice a0 n0 c0 e0, .slice a1 n1 c1 e1], .agg [.str ct, .str tt]] h fun v h' => v = .bool (Zga w (ct, tt)) ∧ Zaz h.length h h' := by
  have hl0 := r.len0
  have hlc := b.lc
  apply Zre.call
  simp only [Zax]
  generalize hh0 : h ++ [Zcn.cells Zak [.slice a0 n0 c0 e0, .slice a1 n1 c1 e1] false] = h0
  generalize hh1 : h0 ++ [Zcn.cells Zaj [.str ct, .str tt] false] = h1
  have s0 : Zaz h.length h h0 := by rw [← hh0]; exact Zau
  have s1 : Zaz h0.length h0 h1 := by rw [← hh1]; exact Zau
  have w0 : h0[h.length]? = some (Zns a0 n0 c0 e0 a1 n1 c1 e1) := by rw [← hh0]; simp [Zns]
  have w1 := s1.get w0 (Own.lt w0)
  have i1 : h1[h0.length]? = some (.cells Zaj [.str ct, .str tt] false) := by rw [← hh1]; simp
  rw [Zsg w1]
  simp only [Zan, Zae, Zap, Zaq i1, Nat.zero_add, List.getElem?_cons_zero, List.getElem?_cons_succ, Zah, Zaf]
  refine (Zkb (r.cls.same' (s0.cat s1)) (by omega)).mono ?_
  rintro v h2 ⟨rfl, s2⟩
  simp only [Zao, Zzf]
  have i2 := s2.get i1 (Own.lt i1)
  refine Zdu (fun b1 => ?_) (fun b1 => ⟨by unfold Zga; rw [b1]; rfl, (s0.cat s1).cat s2⟩)
  simp only [Zaq i2, Nat.zero_add, List.getElem?_cons_zero, List.getElem?_cons_succ, Zah, Zaf]
  refine (Zjp tt (by omega) h2).mono ?_
  rintro v h3 ⟨rfl, s3⟩
  simp only [Zai]
  exact ⟨by unfold Zga; rw [b1]; rfl, ((s0.cat s1).cat s2).cat s3⟩
theorem Ztf {h : Zaa} {a0 a1 : Pt} {n0 c0 n1 c1 : Nat} {e0 e1 : Bool} {w : Wd} {ct tt : List Nat} (r : Zmi h a0 n0 c0 a1 n1 c1 w) (b : WB w) (ht : tt.length ≤ 1048576) :
    Zad pg Zip [.agg [.slice a0 n0 c0 e0, .slice a1 n1 c1 e1], .agg [.str ct, .str tt]] h fun v h' => v = .bool (Zfl w && Zga w (ct, tt)) ∧ Zaz h.length h h' := by
  apply Zoq.call
  simp only [Zax]
  generalize hh0 : h ++ [Zcn.cells Zak [.slice a0 n0 c0 e0, .slice a1 n1 c1 e1] false] = h0
  generalize hh1 : h0 ++ [Zcn.cells Zaj [.str ct, .str tt] false] = h1
  have s0 : Zaz h.length h h0 := by rw [← hh0]; exact Zau
  have s1 : Zaz h0.length h0 h1 := by rw [← hh1]; exact Zau
  have w0 : h0[h.length]? = some (Zns a0 n0 c0 e0 a1 n1 c1 e1) := by rw [← hh0]; simp [Zns]
  have w1 := s1.get w0 (Own.lt w0)
  have i1 : h1[h0.length]? = some (.cells Zaj [.str ct, .str tt] false) := by rw [← hh1]; simp
  rw [Zsg w1]
  simp only [Zan, Zae, Zap, Zah]
  refine (Zmv (r.same (s0.cat s1)) b).mono ?_
  rintro v h2 ⟨rfl, s2⟩
  simp only [Zai]
  have i2 := s2.get i1 (Own.lt i1)
  have w2 := s2.get w1 (Own.lt w1)
  refine Zdu (fun b1 => ?_) (fun b1 => ⟨by rw [b1]; rfl, (s0.cat s1).cat s2⟩)
  rw [Zsg w2, Zee i2 (by simp)]
  simp only [List.drop_zero, List.take_succ_cons, List.take_zero, Zan, Zae, Zap, Zah, Zaf]
  refine (Yjh (r.same ((s0.cat s1).cat s2)) b ht).mono ?_
  rintro v h3 ⟨rfl, s3⟩
  simp only [Zai]
  exact ⟨by rw [b1]; rfl, ((s0.cat s1).cat s2).cat s3⟩
end Go.Sim

set_option linter.unusedVariables false
set_option linter.unusedSimpArgs false
set_option maxRecDepth 20000
namespace Go.Sim
open Go Go.RowKit

theorem Yjz {h : Zaa} {a0 a1 : Pt} {n0 c0 n1 c1 j : Nat} {e0 e1 : Bool} {w : Wd} {x : Nd} (r : Zmi h a0 n0 c0 a1 n1 c1 w) (b : WB w) (hj : h[j]? = some (Zns a0 n0 c0 e0 a1 n1 c1 e1)) :
    Zad pg Zbu [.agg [.str x.1, .str x.2], .ptr (some (j, 0))] h fun v h' => v = .bool (!Zga w x) ∧ Zaz h.length h h' := by
  apply Zje.call
  simp only [Zax]
  have s1 : Zaz h.length h (h ++ [.cells Zaj [.str x.1, .str x.2] false]) := Zau
  rw [Zsg (s1.get hj (Own.lt hj)), Ygh]
  simp only [Zan, Zae, Zap, Zah, Zaf]
  refine (Yan (r.same s1) b).mono ?_
  rintro v h2 ⟨rfl, s2⟩
  simp only [Zai]
  exact ⟨by trivial, s1.cat s2⟩
theorem Yba {h : Zaa} {a0 a1 a2 : Pt} {n0 c0 n1 c1 n2 c2 j : Nat} {e0 e1 e2 : Bool} {w : Wd} {l : List Nd} (r : Zmi h a0 n0 c0 a1 n1 c1 w) (b : WB w) (hj : h[j]? = some (Zns a0 n0 c0 e0 a1 n1 c1 e1)) (r2 : Row h.length h a2 (n2 * 2) (Zff eP l)) (hn2 : n2 ≤ 1048576) :
    Zad pg Zdh [.slice a2 n2 c2 e2, .fn Zbu [.ptr (some (j, 0))]] h fun v h' => (∃ z : Int, v = .int .i64 z ∧ decide (z ≥ 0) = !l.all (Zga w)) ∧ Zaz h.length h h' := by
  have hl : l.length = n2 := by have := r2.1; rw [Zbe Zdp] at this; omega
  apply Zbf.call
  refine Zbf.L2ind _ _ _ _ _ _ _ (J := fun (g : Nat) x8 h' => x8 = (g : Int) ∧ g ≤ n2 ∧ Zaz h.length h h' ∧ (l.take g).all (Zga w) = true) (fun g => n2 - g) ?_ 0 _ _ ⟨rfl, by omega, Zaz.refl _ _, rfl⟩
  rintro g x8 h' ⟨rfl, hg, hS, hk⟩ R hR
  unfold Zbf.L2t
  refine Zal (fun hlt => ?_) (fun hge => ?_)
  · obtain ⟨i, o, hgl, rfl, _, hr, _⟩ := (r2.same hS).pr (k := g) (by omega)
    simp only [Zav, Int.toNat_natCast, hr, Zan, Zae, Zap, Zaf]
    refine ⟨by omega, (Yjz (x := l[g]) (r.same hS) b (hS.get hj (Own.lt hj))).mono ?_⟩
    rintro v h2 ⟨rfl, s2⟩
    simp only [Zai]
    have hS2 := hS.cat s2
    refine Zbs (fun he => ?_) (fun he => ?_)
    · exact ⟨⟨_, rfl, by rw [Znz hgl he]; simp⟩, hS2⟩
    · rw [Zbm (by omega)]
      exact hR (g + 1) _ _ (by omega) ⟨rfl, by omega, hS2, Zfc hgl hk he⟩
  · apply Zbf.A2x0i
    have : g = n2 := by omega
    subst this
    rw [List.take_of_length_le (by omega)] at hk
    exact ⟨⟨_, rfl, by rw [hk]; rfl⟩, hS⟩
theorem Zws {h : Zaa} {a0 a1 a2 : Pt} {n0 c0 n1 c1 n2 c2 : Nat} {e0 e1 e2 : Bool} {w : Wd} {l : List Nd} (r : Zmi h a0 n0 c0 a1 n1 c1 w) (b : WB w) (r2 : Row h.length h a2 (n2 * 2) (Zff eP l)) (hn2 : n2 ≤ 1048576) :
    Zad pg Ziz [.agg [.slice a0 n0 c0 e0, .slice a1 n1 c1 e1], .slice a2 n2 c2 e2] h fun v h' => v = .bool (Zjm w l) ∧ Zaz h.length h h' := by
  have hl : l.length = n2 := by have := r2.1; rw [Zbe Zdp] at this; omega
  apply Zmj.call
  simp only [Zax]
  generalize hh0 : h ++ [Zcn.cells Zak [.slice a0 n0 c0 e0, .slice a1 n1 c1 e1] false] = h0
  have s0 : Zaz h.length h h0 := by rw [← hh0]; exact Zau
  have w0 : h0[h.length]? = some (Zns a0 n0 c0 e0 a1 n1 c1 e1) := by rw [← hh0]; simp [Zns]
  rw [Zsg w0]
  simp only [Zan, Zae, Zap, Zah]
  refine (Zru (r.same s0) b).mono ?_
  rintro v h2 ⟨rfl, s2⟩
  have S2 := s0.cat s2
  have w2 := s2.get w0 (Own.lt w0)
  simp only [Zai]
  refine Zdu (fun b1 => ?_) (fun b1 => ⟨by unfold Zjm; rw [b1]; rfl, S2⟩)
  refine Zal (fun b2 => ?_) (fun b2 => ⟨by unfold Zjm; rw [b1]; simp [show ¬ l.length ≤ 6 by omega], S2⟩)
  apply Zck.call
  refine (Yba (r.same S2) b w2 (r2.same' S2) hn2).mono ?_
  rintro v h3 ⟨⟨z, rfl, hz⟩, s3⟩
  simp only [Zao, Zai]
  refine ⟨?_, S2.cat s3⟩
  rw [hz, Bool.not_not]
  unfold Zjm
  rw [b1]; simp [show l.length ≤ 6 by omega]
theorem Zvr {h : Zaa} {a0 a1 a2 : Pt} {n0 c0 n1 c1 n2 c2 : Nat} {e0 e1 e2 : Bool} {w : Wd} {l : List Nd} (r : Zmi h a0 n0 c0 a1 n1 c1 w) (b : WB w) (r2 : Row h.length h a2 (n2 * 2) (Zff eP l)) (hn2 : n2 ≤ 1048576) (hls : ∀ p ∈ l, p.2.length ≤ 1048576) :
    Zad pg Zjc [.agg [.slice a0 n0 c0 e0, .slice a1 n1 c1 e1], .slice a2 n2 c2 e2] h fun v h' => v = .bool (Zjm w l) ∧ Zaz h.length h h' := by
  have hl : l.length = n2 := by have := r2.1; rw [Zbe Zdp] at this; omega
  apply Zfv.call
  simp only [Zax]
  generalize hh0 : h ++ [Zcn.cells Zak [.slice a0 n0 c0 e0, .slice a1 n1 c1 e1] false] = h0
  have s0 : Zaz h.length h h0 := by rw [← hh0]; exact Zau
  have w0 : h0[h.length]? = some (Zns a0 n0 c0 e0 a1 n1 c1 e1) := by rw [← hh0]; simp [Zns]
  refine Zfv.L2ind _ _ _ _ _ _ _ _ _ _ _ _ (J := fun (g : Nat) x8 h' => x8 = (g : Int) ∧ g ≤ n2 ∧ Zaz h0.length h0 h' ∧ (g ≠ 0 → Zfl w = true) ∧ (l.take g).all (Zga w) = true) (fun g => n2 - g) ?_ 0 _ _ ⟨rfl, by omega, Zaz.refl _ _, by simp, rfl⟩
  rintro g x8 h' ⟨rfl, hg, hS, hw, hk⟩ R hR
  have SS := s0.cat hS
  have w1 := hS.get w0 (Own.lt w0)
  unfold Zfv.L2t
  refine Zal (fun hlt => ?_) (fun hge => ?_)
  · obtain ⟨i, o, hgl, rfl, _, hr, _⟩ := (r2.same SS).pr (k := g) (by omega)
    simp only [Zav, Int.toNat_natCast, hr, Zan, Zae, Zap, Zaf, Zax]
    rw [Zgd]
    generalize hq : h' ++ [Zcn.cells Zaj [.str l[g].1, .str l[g].2] false] = hq'
    have sq : Zaz h'.length h' hq' := by rw [← hq]; exact Zau
    simp only [Zaw]
    rw [Zsg (sq.get w1 (Own.lt w1)), ← hq, Ygh, hq]
    simp only [Zan, Zae, Zap, Zaf, Zah]
    have hb := hls _ (List.getElem_mem hgl)
    have Sq := SS.cat sq
    refine ⟨by omega, (Ztf (r.same Sq) b hb).mono ?_⟩
    rintro v h2 ⟨rfl, s2⟩
    simp only [Zai]
    refine Zbs (fun he => ?_) (fun he => ?_)
    · refine ⟨?_, Sq.cat s2⟩
      unfold Zjm
      cases hw2 : Zfl w with
      | false => rfl
      | true =>
        rw [hw2, Bool.true_and] at he
        rw [Znz hgl (show Zga w l[g] = false from he)]; simp
    · rw [Zbm (by omega)]
      simp only [Bool.and_eq_true] at he
      exact hR (g + 1) _ _ (by omega) ⟨rfl, by omega, (hS.cat sq).cat s2, fun _ => he.1, Zfc hgl hk he.2⟩
  · apply Zfv.A2x0i
    have : g = n2 := by omega
    subst this
    rw [List.take_of_length_le (by omega)] at hk
    rw [Zsg w1]
    simp only [Zan, Zae, Zap, Zah]
    refine (Zmv (r.same SS) b).mono ?_
    rintro v h2 ⟨rfl, s2⟩
    simp only [Zai]
    refine Zdu (fun b1 => ?_) (fun b1 => ⟨by unfold Zjm; rw [b1]; rfl, SS.cat s2⟩)
    refine ⟨?_, SS.cat s2⟩
    unfold Zjm
    rw [b1, hk]; congr 1; rw [Bool.eq_iff_iff]; simp; omega
end Go.Sim

set_option linter.unusedVariables false
set_option linter.unusedSimpArgs false
set_option maxRecDepth 20000
namespace Go.Sim
open Go Go.RowKit
theorem Yfv {h : Zaa} {c t : List Nat} {x : Int} (hc : c.length ≤ 9223372036854775807) (ht : t.length ≤ 9223372036854775807) (hx : 0 ≤ x ∧ x ≤ 1048576) :
    Zad pg Zmr [.agg [.str c, .str t], .int .i64 x] h fun v h' => ∃ y, v = .int .i64 y ∧ Zaz h.length h h' ∧ (0 ≤ y → (c.length : Int) + t.length + y = x) := by
  apply Zqn.call
  simp only [Zax]
  have s1 : Zaz h.length h (h ++ [.cells Zpb [.str c, .str t] false]) := Zaz.app (Nat.le_refl _) _
  simp [Zag]
  rw [IntWalk.i64_in _ (by omega)]
  refine Zal (fun hlt => s1) (fun hge => ?_)
  rw [IntWalk.i64_in _ (by omega)]
  exact Zal (fun hlt => s1) (fun hge => ⟨s1, by omega⟩)
theorem Yfk {h : Zaa} {c t c' t' : List Nat} :
    Zad pg Zmt [.agg [.str c, .str t], .agg [.str c', .str t']] h fun v h' => v = .bool (decide (c = c') && decide (t = t')) ∧ Zaz h.length h h' := by
  apply Zqr.call
  simp only [Zax]
  simp [Zag]
  by_cases e1 : c = c' <;> by_cases e2 : t = t' <;> simp [e1, e2] <;> exact Zaz.app (Nat.le_refl _) _
theorem Yfi {h : Zaa} {c t : List Nat} :
    Zad pg Zmy [.agg [.str c, .str t]] h fun v h' => v = .agg [.str c, .str t] ∧ Zaz h.length h h' := by
  apply Zqo.call
  simp only [Zax]
  simp [Zag, Zbn, Zbp, putRow, List.getElem?_append, List.getElem?_set]
  exact Zaz.app (Nat.le_refl _) _

theorem Zza {h : Zaa} {a : Pt} {n c : Nat} {e : Bool} {l : List (List Nat × List Nat)} (r : Row h.length h a (n * 2) (prs l)) (hs : ∀ p ∈ l, p.1.length ≤ 9223372036854775807 ∧ p.2.length ≤ 9223372036854775807) (hn : n ≤ 9223372036854775807) {Zgz : Int} (hl : 0 ≤ Zgz ∧ Zgz ≤ 1048576) :
    Zad pg Zlo [.slice a n c e, .int .i64 Zgz] h fun v h' => ∃ x, v = .int .i64 x ∧ Zaz h.length h h' ∧ (0 ≤ x → (n : Int) + Yar l + x = Zgz) := by
  have hll : l.length = n := by have := r.1; rw [Zgv] at this; omega
  apply Zhd.call
  rw [IntWalk.i64_in _ (by omega)]
  refine Zal (fun hlt => ?_) (fun hge => ?_)
  · exact ⟨_, rfl, Zaz.refl _ _, by omega⟩
  · refine Zhd.L5ind _ _ _ _ _ (J := fun (g : Nat) x1 x5 h' => x5 = (g : Int) ∧ Zaz h.length h h' ∧ g ≤ n ∧ 0 ≤ x1 ∧ x1 + n + Yar (l.take g) = Zgz) (fun g => n - g) ?_ 0 _ 0 h ⟨rfl, Zaz.refl _ _, by omega, by omega, by simp [Yar]⟩
    rintro g x1 x5 h' ⟨rfl, hS, hg, h0, ht⟩ R hR
    unfold Zhd.L5t
    refine Zal (fun hlt => ?_) (fun hge => ?_)
    · have hlt' : g < n := by omega
      obtain ⟨i, o, hgl, rfl, hi, hc⟩ := (r.same hS).pair hlt'
      have hsl := hs _ (List.getElem_mem hgl)
      simp only [Zav, Int.toNat_natCast, hc, Zan, Zae, Zap, Zaf]
      refine ⟨by omega, (Yfv hsl.1 hsl.2 (by omega)).mono fun v h1 ⟨y, hv, hs1, hy⟩ => ?_⟩
      subst hv
      simp only [Zao]
      have hS1 := hS.trans (hs1.mono hS.le)
      refine Zal (fun hneg => ⟨_, rfl, hS1, by omega⟩) (fun hneg => ?_)
      rw [Znm hlt' (by omega)]
      have hyy := hy (by omega)
      refine hR (g + 1) _ _ _ (by omega) ⟨rfl, hS1, by omega, by omega, ?_⟩
      rw [Zvk hgl]; omega
    · have : g = n := by omega
      subst this
      rw [List.take_of_length_le (by omega)] at ht
      exact Zhd.A5x0i _ _ _ ⟨_, rfl, hS, by omega⟩
theorem Ybe {h : Zaa} {a : Pt} {n c : Nat} {e : Bool} {l : List (List Nat × List Nat)} (r : Row h.length h a (n * 2) (prs l)) (hn : n ≤ 1048576) :
    Zad pg Zlr [.slice a n c e] h fun v h' => ∃ a' c' e', v = .slice a' n c' e' ∧ Zaz h.length h h' ∧ Zel Zbo eP h.length h' a' n l ∧ n ≤ c' := by
  have hll : l.length = n := by have := r.1; rw [Zgv] at this; omega
  apply Zhf.call
  refine ⟨rfl, rfl, by omega, ?_⟩
  simp only [Zax, Int.toNat_natCast, Yem]
  refine Zhf.L3ind _ _ _ _ _ _ _ _ _ (J := fun (g : Nat) x4 h' => x4 = (g : Int) ∧ g ≤ n ∧ Zaz h.length h h' ∧ h'[h.length]? = some (.cells Zbo (prs (l.take g ++ List.replicate (n - g) ([], []))) false)) (fun g => n - g) ?_ 0 0 _ ⟨rfl, by omega, Zaz.app (Nat.le_refl _) _, by simp⟩
  rintro g x4 h' ⟨rfl, hg, hs, hi⟩ R hR
  unfold Zhf.L3t
  refine Zal (fun hlt => ?_) (fun hge => ?_)
  · have hlt' : g < n := by omega
    obtain ⟨i, o, hgl, rfl, hi', hc⟩ := (r.same hs).pair hlt'
    simp only [Zav, Int.toNat_natCast, hc, Zan, Zae, Zap, Zaf]
    refine ⟨by omega, Yfi.mono fun v h1 ⟨hv, hs1⟩ => ?_⟩
    subst hv
    have hi1 : h1[h.length]? = some (.cells Zbo (prs (l.take g ++ List.replicate (n - g) ([], []))) false) := by rw [hs1.eq _ (Own.lt hi)]; exact hi
    simp only [Zdl, Zae, Zap, Zaf, Nat.zero_add]
    have hmin : min g l.length = g := Nat.min_eq_left (by omega)
    rw [Zzu hi1 (by simp; omega)]
    simp only [Zaw]
    rw [Znm hlt' (by omega)]
    have hset : (l.take g ++ List.replicate (n - g) ([], [])).take g ++ [(l[g].1, l[g].2)] ++ (l.take g ++ List.replicate (n - g) (([] : List Nat), ([] : List Nat))).drop (g + 1) = l.take (g + 1) ++ List.replicate (n - (g + 1)) ([], []) := by
      have hl1 : (l.take g).length = g := by rw [List.length_take, hmin]
      rw [List.take_left' hl1, List.take_succ_eq_append_getElem hgl, List.drop_append, hl1, List.drop_of_length_le (by omega), List.nil_append, List.drop_replicate]
      congr 2; omega
    rw [hset]
    exact ⟨⟨by omega, by omega⟩, hR (g + 1) _ _ (by omega) ⟨rfl, by omega, (hs.trans (hs1.mono hs.le)).trans (Zaz.set (Nat.le_refl _) _), Znq hi1⟩⟩
  · have : g = n := by omega
    subst this
    rw [List.take_of_length_le (by omega), Nat.sub_self, List.replicate_zero, List.append_nil] at hi
    exact Zhf.A3x0i _ _ _ _ _ _ ⟨_, _, _, rfl, hs, ⟨hll, .inr ⟨h.length, rfl, Nat.le_refl _, hi⟩⟩, by simp⟩
theorem Ybc {h : Zaa} {a0 a1 : Pt} {n0 n1 c0 c1 : Nat} {e0 e1 : Bool} {l0 l1 : List (List Nat × List Nat)} (r0 : Row h.length h a0 (n0 * 2) (prs l0)) (r1 : Row h.length h a1 (n1 * 2) (prs l1)) (hn : n0 ≤ 4611686018427387904) (heq : l0 = l1) :
    Zad pg Zlm [.slice a0 n0 c0 e0, .slice a1 n1 c1 e1] h fun v h' => v = .bool true ∧ Zaz h.length h h' := by
  subst heq
  have hl0 : l0.length = n0 := by have := r0.1; rw [Zgv] at this; omega
  have hl1 : l0.length = n1 := by have := r1.1; rw [Zgv] at this; omega
  have : n1 = n0 := by omega
  subst this
  apply Zha.call
  simp only [beq_self_eq_true, Bool.not_true, Zbd]
  refine Zha.L4ind _ _ _ _ _ _ _ _ _ (J := fun (k : Nat) x5 h' => Zaz h.length h h' ∧ x5 = (k : Int) ∧ k ≤ n1) (fun k => n1 - k) ?_ 0 0 h ⟨Zaz.refl _ _, rfl, by omega⟩
  rintro k x5 h' ⟨hs, rfl, hk⟩ R hR
  unfold Zha.L4t
  refine Zal (fun hlt => ?_) (fun hge => Zha.A4x0i _ _ ⟨rfl, hs⟩)
  have hlt' : k < n1 := by omega
  obtain ⟨i, o, hgl, rfl, _, hc0⟩ := (r0.same hs).pair hlt'
  obtain ⟨i', o', _, rfl, _, hc1⟩ := (r1.same hs).pair hlt'
  simp only [Zav, Int.toNat_natCast, hc0, hc1, Zan, Zae, Zap, Zaf, true_and]
  refine ⟨⟨by omega, by omega⟩, ⟨by omega, by omega⟩, Yfk.mono fun v h1 ⟨hv, hs1⟩ => ?_⟩
  subst hv
  simp only [Zai, decide_true, Bool.and_self, Bool.not_true, Zbd]
  rw [Znm hlt' (by omega)]
  exact hR (k + 1) _ _ (by omega) ⟨hs.trans (hs1.mono hs.le), rfl, by omega⟩

theorem Zut {h : Zaa} {a : Pt} {n c : Nat} {e : Bool} {l : List (List Nat × List Nat)} (r : Row h.length h a (n * 2) (prs l)) (hn : n ≤ 1048576) :
    Zad pg Zgb [.slice a n c e] h fun v h' => ∃ a' c' e', v = .slice a' n c' e' ∧ Zaz h.length h h' ∧ Zel Zaj eP h.length h' a' n l ∧ n ≤ c' ∧ a' ≠ none := by
  have hll : l.length = n := by have := r.1; rw [Zgv] at this; omega
  apply Zih.call
  refine ⟨rfl, rfl, by omega, ?_⟩
  simp only [Zax, Int.toNat_natCast, Yem]
  refine Zih.L3ind _ _ _ _ _ _ _ _ _ (J := fun (g : Nat) x4 h' => x4 = (g : Int) ∧ g ≤ n ∧ Zaz h.length h h' ∧ h'[h.length]? = some (.cells Zaj (prs (l.take g ++ List.replicate (n - g) ([], []))) false)) (fun g => n - g) ?_ 0 0 _ ⟨rfl, by omega, Zaz.app (Nat.le_refl _) _, by simp⟩
  rintro g x4 h' ⟨rfl, hg, hs, hi⟩ R hR
  unfold Zih.L3t
  refine Zal (fun hlt => ?_) (fun hge => ?_)
  · have hlt' : g < n := by omega
    obtain ⟨i, o, hgl, rfl, hi', hc⟩ := (r.same hs).pair hlt'
    simp only [Zav, Int.toNat_natCast, hc, Zan, Zae, Zap, Zaf]
    refine ⟨by omega, Zrn.mono fun v h1 ⟨hv, hs1⟩ => ?_⟩
    subst hv
    have hi1 : h1[h.length]? = some (.cells Zaj (prs (l.take g ++ List.replicate (n - g) ([], []))) false) := by rw [hs1.eq _ (Own.lt hi)]; exact hi
    simp only [Zdl, Zae, Zap, Zaf, Nat.zero_add]
    have hmin : min g l.length = g := Nat.min_eq_left (by omega)
    rw [Zzu hi1 (by simp; omega)]
    simp only [Zaw]
    rw [Znm hlt' (by omega)]
    have hset : (l.take g ++ List.replicate (n - g) ([], [])).take g ++ [(l[g].1, l[g].2)] ++ (l.take g ++ List.replicate (n - g) (([] : List Nat), ([] : List Nat))).drop (g + 1) = l.take (g + 1) ++ List.replicate (n - (g + 1)) ([], []) := by
      have hl1 : (l.take g).length = g := by rw [List.length_take, hmin]
      rw [List.take_left' hl1, List.take_succ_eq_append_getElem hgl, List.drop_append, hl1, List.drop_of_length_le (by omega), List.nil_append, List.drop_replicate]
      congr 2; omega
    rw [hset]
    exact ⟨⟨by omega, by omega⟩, hR (g + 1) _ _ (by omega) ⟨rfl, by omega, (hs.trans (hs1.mono hs.le)).trans (Zaz.set (Nat.le_refl _) _), Znq hi1⟩⟩
  · have : g = n := by omega
    subst this
    rw [List.take_of_length_le (by omega), Nat.sub_self, List.replicate_zero, List.append_nil] at hi
    exact Zih.A3x0i _ _ _ _ _ _ ⟨_, _, _, rfl, hs, ⟨hll, .inr ⟨h.length, rfl, Nat.le_refl _, hi⟩⟩, by simp, by simp⟩
theorem Zrc {h : Zaa} {a : Pt} {n c : Nat} {e : Bool} {l : List (List Nat × List Nat)} (r : Row h.length h a (n * 2) (prs l)) (hn : n ≤ 1048576) :
    Zad pg Zgb [.slice a n c e] h fun v h' => ∃ a' c' e', v = .slice a' n c' e' ∧ Zaz h.length h h' ∧ Zel Zaj eP h.length h' a' n l ∧ n ≤ c' :=
  (Zut r hn).mono fun v h' ⟨a', c', e', h1, h2, h3, h4, _⟩ => ⟨a', c', e', h1, h2, h3, h4⟩
end Go.Sim
