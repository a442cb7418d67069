/- A part of the proof of a statement of this seat: see the text that holds the theorem. No condition. -/
import Derived.Test.YtlljbdepamknoaaGreatDoorPTCText
import Derived.Test.YtlljbdepamknoaaGreatDoorCSMatch2
import Derived.Test.YtlljbdepamknoaaGreatDoorPTCSrch
import Derived.Test.YtlljbdepamknoaaGreatDoorPMatch
import Derived.Test.YtlljbdepamknoaaGreatDoorPTCMost
import Derived.Test.YtlljbdepamknoaaGreatDoorPTCSApply2
import Derived.Test.YtlljbdepamknoaaGreatDoorCVars
set_option linter.unusedVariables false
set_option linter.unusedSimpArgs false
set_option linter.all false
set_option linter.unusedVariables false
set_option linter.unusedSimpArgs false
set_option maxRecDepth 20000
namespace Go.Sim
open Go Go.RowKit

theorem Yhd {s : List Nat} (h : ((s.length : Nat) : Int) ≠ 1) : Zko s = false := by
  match s, h with
  | [], _ => rfl
  | [x], h => exact absurd rfl h
  | _ :: _ :: _, _ => rfl
theorem Yrk {s : List Nat} (h : ((s.length : Nat) : Int) = 1) : ∃ v, s = [v] := by
  match s, h with
  | [], h => simp at h
  | [x], _ => exact ⟨x, rfl⟩
  | _ :: _ :: _, h => simp at h; omega
theorem Zue {h : Zaa} {a : Pt} {n c : Nat} {e : Bool} {l : List Nd} (r : Row h.length h a (n * 2) (Zeg eP l)) (hn : n ≤ 1048576) (hb : ∀ p ∈ l, p.2.length ≤ 1048576) (hb1 : ∀ p ∈ l, ∀ x ∈ p.1, x < 256) :
    Zag pg Zii [.slice a n c e] h fun v h' => v = .bool (Zhk l) ∧ Zbd h.length h h' := by
  have hl : l.length = n := by have := r.1; rw [Zbb Zdd] at this; omega
  apply Zdv.call
  refine Zdv.L2ind _ _ _ _ _ _ _ _ _ _ (J := fun (g : Nat) x7 h' => x7 = (g : Int) ∧ g ≤ n ∧ Zbd h.length h h' ∧ (List.range g).all (Zpo l) = true) (fun g => n - g) ?_ 0 _ _ ⟨rfl, by omega, Zbd.refl _ _, rfl⟩
  rintro g x7 h' ⟨rfl, hg, hS, hk⟩ R hR
  unfold Zdv.L2t
  refine Zar (fun hlt => ?_) (fun hge => ?_)
  · obtain ⟨i, o, hgl, rfl, hi, hr, _, _⟩ := (r.same hS).pr (k := g) (by omega)
    have hat : Zpo l g = (Zko l[g].1 && Zoj l[g].2 && (g == 0 || Zec (l.getD (g - 1) ([], [])).1 l[g].1)) := by unfold Zpo; rw [Zfi hgl]
    have no : Zpo l g = false → Zhk l = false := fun hno => Zkg hgl hno
    have hbg := hb _ (List.getElem_mem hgl)
    have hbg1 := hb1 _ (List.getElem_mem hgl)
    simp only [Zau, Int.toNat_natCast, hr, Zas, Zah, Zan, Zai, Zax]
    rw [Zhm]
    generalize hq : h' ++ [Zcg.cells Zbh [.str l[g].1, .str l[g].2] false] = hq'
    have sq : Zbd h'.length h' hq' := by rw [← hq]; exact Zam
    have oq : hq'[h'.length]? = some (.cells Zbh [.str l[g].1, .str l[g].2] false) := by rw [← hq]; simp
    have Sq := hS.cat sq
    simp only [Zba, Zak oq, Nat.zero_add, List.getElem?_cons_succ, List.getElem?_cons_zero, Zai, true_and]
    refine ⟨by omega, Zhw (fun b0 => ⟨by rw [no (by rw [hat, Yhd b0]; rfl)], Sq⟩) (fun b0 => ?_)⟩
    obtain ⟨v, hv⟩ := Yrk b0
    rw [hv] at hbg1
    have hvl := hbg1 v (by simp)
    rw [hv]
    refine ⟨by simp, ?_⟩
    simp only [Int.toNat_zero, List.getD_cons_zero]
    refine (Zor v).mono ?_
    rintro v' h2 ⟨rfl, rfl⟩
    simp only [Zap]
    have hiv : Zko l[g].1 = Zdj v := by rw [hv]; rfl
    refine Zbp (fun b1 => ⟨by rw [no (by rw [hat, hiv, b1]; rfl)], Sq⟩) (fun b1 => ?_)
    simp only [Zak oq, List.getElem?_cons_succ, List.getElem?_cons_zero, Zai]
    refine (Zjk l[g].2 (by omega) h2).mono ?_
    rintro v' h3 ⟨rfl, s3⟩
    simp only [Zap]
    have S3 := Sq.cat s3
    refine Zbp (fun b2 => ⟨by rw [no (by rw [hat, b2]; simp)], S3⟩) (fun b2 => ?_)
    have go : (g = 0 ∨ Zec (l.getD (g - 1) ([], [])).1 l[g].1 = true) → Zdv.J6 (fun v h' => v = .bool (Zhk l) ∧ Zbd h.length h h') R (g : Int) (((n : Nat) : Int)) (some (i, o)) n c e (some (i, o)) n c e h3 := by
      intro hz
      apply Zdv.J6i
      rw [Zbt (by omega)]
      refine hR (g + 1) _ _ (by omega) ⟨rfl, by omega, S3, Zhd hk ?_⟩
      rw [hat, hiv, b1, b2]
      rcases hz with rfl | hz
      · rfl
      · rw [hz]; simp
    refine Zar (fun hpos => ?_) (fun hz => go (.inl (by omega)))
    have hg0 : 0 < g := by omega
    obtain ⟨i', o', hgl', he, _, _, hc', _⟩ := (r.same S3).pr (k := g - 1) (by omega)
    cases he
    rw [Zyr hg0 (by omega)]
    simp only [Zau, Int.toNat_natCast, Nat.add_zero, hc', Zak (s3.get oq (Own.lt oq)), List.getElem?_cons_zero, Zai, true_and]
    have hgd : l.getD (g - 1) ([], []) = l[g - 1] := Zfi hgl'
    refine ⟨by omega, Zbp (fun b3 => ⟨by rw [no (by rw [hat, hiv, b1, b2, hgd, b3]; simp; omega)], S3⟩) (fun b3 => go (.inr (by rw [hgd]; exact b3)))⟩
  · apply Zdv.A2x0i
    have : g = n := by omega
    subst this
    exact ⟨by unfold Zhk; rw [hl, hk], hS⟩
theorem Zhv.below {S : Nat → Prop} {h : Zaa} : ∀ {t : Ty} {v : List Zaq}, Zhv S h t v → Zhv (fun j => S j ∧ j < h.length) h t v
  | .k d, _, h => h
  | .u d x, _, ⟨j, c, e, r, hv, sj, hj, hr⟩ => ⟨j, c, e, r, hv, ⟨sj, Own.lt hj⟩, hj, hr.below⟩
  | .w d x y, _, ⟨j, c, e, r, r', hv, sj, hj, hr, hr'⟩ => ⟨j, c, e, r, r', hv, ⟨sj, Own.lt hj⟩, hj, hr.below, hr'.below⟩
theorem Yoo {f : Nat → Option Ty} {t : Ty} (h : f t.hd = none ∨ t.ps ≠ []) : (subst f t).hd = t.hd ∧ (subst f t).ps = t.ps.map (subst f) := by
  cases t with
  | k c =>
    have : f c = none := by rcases h with h | h; exact h; exact absurd rfl h
    simp [subst, this, Ty.hd, Ty.ps]
  | u c a => simp [subst, Ty.hd, Ty.ps]
  | w c a b => simp [subst, Ty.hd, Ty.ps]
theorem Ydh : pg.underlying Zjy = some (.slice Zaf) := by kernel_rfl
theorem Ylv : pg.cellsOf Zaf = 2 := by kernel_rfl
theorem Yku : pg.okElem Zaf = true := by kernel_rfl
theorem Yjt : pg.bytesOf Zaf ≤ 127 := Nat.le_of_ble_eq_true (by kernel_rfl)
theorem Ybh {vs : List (List Zaq)} (h : ∀ v ∈ vs, v.length = 2) : vs.flatten.length = vs.length * 2 := by
  rw [List.length_flatten]
  induction vs with
  | nil => rfl
  | cons v vs ih =>
    have h1 := h v (by simp)
    have h2 := ih (fun x hx => h x (by simp [hx]))
    simp only [List.map_cons, List.sum_cons, List.length_cons]; omega
theorem Yfb : ∀ (N : Nat) {t : Ty} {S : Nat → Prop} {h : Zaa} {vt : List Zaq} {i : Nat} {m : Bd}, t.size ≤ N → t.ok = true → (∀ j, S j → j < h.length ∧ j ≠ i) → Zhv S h t vt → Zsv S h i m → (∀ v u, Zhr m v = some u → u.ok = true) → (∀ v, Zdj v = false → Zhr m v = none) →
    Zag pg Zmw [.ptr (some (i, 0)), .agg vt] h fun x h' => Zbd h.length h h' ∧ ∃ vs, x = .agg vs ∧ Zhv (fun j => S j ∨ h.length ≤ j) h' (subst (Zhr m) t) vs
  | 0, t, S, h, vt, i, m, hN, _, _, _, _, _, _ => by have := t.size_ps; omega
  | N + 1, t, S, h, vt, i, m, hN, ht, hSi, rt, rm, hmo, hmn => by
    obtain ⟨at', ct, et, vts, rfl, rowt, hSt, hvtl, hvt⟩ := id rt.parts
    have hps2 : t.ps.length ≤ 2 := by cases t <;> simp [Ty.ps]
    have hil := rm.lt
    apply Zhn.call
    simp only [Zax]
    generalize hh0 : h ++ [Zcg.cells Zaf [.int .u8 (t.hd : Int), .slice at' t.ps.length ct et] false] = h0
    generalize hh1 : h0 ++ [Zcg.cells Zaf [.int .u8 0, .slice none 0 0 true] false] = h1
    have s0 : Zbd h.length h h0 := by rw [← hh0]; exact Zam
    have s1 : Zbd h0.length h0 h1 := by rw [← hh1]; exact Zam
    have o0 : h0[h.length]? = some (.cells Zaf [.int .u8 (t.hd : Int), .slice at' t.ps.length ct et] false) := by rw [← hh0]; simp
    have oa := s1.get o0 (Own.lt o0)
    have oz : h1[h0.length]? = some (.cells Zaf [.int .u8 0, .slice none 0 0 true] false) := by rw [← hh1]; simp
    have S1 := s0.cat s1
    have l0 : h0.length = h.length + 1 := by rw [← hh0]; simp
    have l1 : h1.length = h.length + 2 := by rw [← hh1]; simp [l0]
    simp only [Zak oa, Nat.zero_add, List.getElem?_cons_succ, List.getElem?_cons_zero, Zav]
    refine (Ztz t.hd).mono ?_
    rintro v h2 ⟨rfl, rfl⟩
    have rm1 := rm.same S1
    simp only [Zav, Zau]
    -- nothing stands for the letter
    have main : Zhr m t.hd = none → Zhn.J4 (fun x h' => Zbd h.length h h' ∧ ∃ vs, x = .agg vs ∧ Zhv (fun j => S j ∨ h.length ≤ j) h' (subst (Zhr m) t) vs) h.length 0 (some (i, 0)) h0.length 0 h2 := by
      intro hno
      obtain ⟨hsh, hsp⟩ := Yoo (f := Zhr m) (t := t) (.inl hno)
      apply Zhn.J4i
      simp only [Zak oa, Nat.zero_add, List.getElem?_cons_succ, List.getElem?_cons_zero, Zav, Zax]
      generalize hh3 : h2 ++ [Zcg.cells Zaf [] false] = h3
      have s3 : Zbd h2.length h2 h3 := by rw [← hh3]; exact Zam
      have o3 : h3[h2.length]? = some (.cells Zaf [] false) := by rw [← hh3]; simp
      have l3 : h3.length = h2.length + 1 := by rw [← hh3]; simp
      rw [Zhm]
      generalize hh4 : h3 ++ [Zcg.cells Zaf [.int .u8 (t.hd : Int), .slice (some (h2.length, 0)) 0 0 true] false] = h4
      have s4 : Zbd h3.length h3 h4 := by rw [← hh4]; exact Zam
      have o4 : h4[h3.length]? = some (.cells Zaf [.int .u8 (t.hd : Int), .slice (some (h2.length, 0)) 0 0 true] false) := by rw [← hh4]; simp
      have l4 : h4.length = h3.length + 1 := by rw [← hh4]; simp
      have oa4 := s4.get (s3.get oa (Own.lt oa)) (by have := Own.lt oa; omega)
      have oz4 := s4.get (s3.get oz (Own.lt oz)) (by have := Own.lt oz; omega)
      have o34 := s4.get o3 (Own.lt o3)
      have S4 := (S1.cat s3).cat s4
      simp only [Zba, Zak oa4, List.getElem?_cons_succ, List.getElem?_cons_zero, Zaj]
      refine Zhn.L6ind _ _ _ _ _ _ _ _ _ _ _ (J := fun (g : Nat) x35 h' => x35 = (g : Int) ∧ g ≤ t.ps.length ∧ Zbd h.length h h' ∧ h4.length ≤ h'.length ∧ h'[h0.length]? = some (.cells Zaf [.int .u8 0, .slice none 0 0 true] false) ∧
        ∃ (a : Pt) (cp : Nat) (e : Bool) (vs : List (List Zaq)), h'[h3.length]? = some (.cells Zaf [.int .u8 (t.hd : Int), .slice a g cp e] false) ∧ vs.length = g ∧ Vec Zaf h' a g cp vs.flatten ∧ (∀ j, a = some (j, 0) → j = h2.length ∨ h4.length ≤ j) ∧
          ∀ (k : Nat) (v : List Zaq) (x : Ty), vs[k]? = some v → t.ps[k]? = some x → Zhv (fun j => (S j ∨ h4.length ≤ j) ∧ ∀ j0, a = some (j0, 0) → j ≠ j0) h' (subst (Zhr m) x) v)
        (fun g => t.ps.length - g) ?_ 0 _ _ ⟨rfl, by omega, S4, Nat.le_refl _, oz4, some (h2.length, 0), 0, true, [], o4, rfl, Vec.mk1 (by simpa using o34), fun j hj => by cases hj; exact .inl rfl, by simp⟩
      rintro g x35 h' ⟨rfl, hg, hS, hl4, hz, a, cp, e, vs, ho, hvl, hv, ha, hp⟩ R hR
      unfold Zhn.L6t
      have hz2 : ∀ v ∈ vs, v.length = 2 := fun v hv => by
        obtain ⟨k, hk, rfl⟩ := List.mem_iff_getElem.1 hv
        exact (hp k vs[k] (t.ps[k]'(by omega)) (List.getElem?_eq_getElem hk) (List.getElem?_eq_getElem (by omega))).len
      refine Zar (fun hlt => ?_) (fun hge => ?_)
      · have hgt : g < t.ps.length := by omega
        obtain ⟨jt, oft, a4, c4, e4, rfl, hrt, hkt⟩ := Zhv.get (rowt.same' hS) hvtl (fun k w x h1 h2 => (hvt k w x h1 h2).same hS) hgt
        simp only [Zau, Int.toNat_natCast, hrt, Zas, Zah, Zan, Zav, Zaj, Zax]
        rw [Zhm]
        generalize hq : h' ++ [Zcg.cells Zaf [.int .u8 (t.ps[g].hd : Int), .slice a4 t.ps[g].ps.length c4 e4] false] = hq'
        have sq : Zbd h'.length h' hq' := by rw [← hq]; exact Zam
        have oq := sq.get ho (Own.lt ho)
        simp only [Zba, Zak oq, Nat.zero_add, List.getElem?_cons_succ, List.getElem?_cons_zero, Zaj]
        rw [← hq, Ymt, hq]
        simp only [Zas, Zah, Zan, Zav, Zaj, true_and]
        have hmt := List.getElem_mem hgt
        have h1 := Ty.size_part hmt
        have hlq := sq.le
        have hSle := hS.le
        refine ⟨by omega, (Yfb N (by omega) (Ty.ok_ps ht _ hmt) (S := S) (fun j hj => ⟨by have := (hSi j hj).1; omega, (hSi j hj).2⟩) (hkt.same sq) (rm.same (hS.cat sq)) hmo hmn).mono ?_⟩
        rintro v h5 ⟨s5, nv, rfl, hn5⟩
        obtain ⟨na, nc, ne, hnv⟩ := hn5.shape
        rw [hnv] at hn5
        have o5 := s5.get oq (Own.lt oq)
        simp only [hnv, Zdp, Zah, Zan, Zav, Zaj, Zak o5, List.getElem?_cons_succ, List.getElem?_cons_zero, true_and]
        have hc6 : Zae (h5 ++ [Zcg.cells Zaf [.int .u8 ((subst (Zhr m) t.ps[g]).hd : Int), .slice na (subst (Zhr m) t.ps[g]).ps.length nc ne] false]) (.ptr (some (h3.length, 1))) = some (.slice a g cp e) := by rw [Zak (Zot o5)]; rfl
        refine ⟨by rw [hc6], ?_⟩
        have v5 := (hv.same sq).same s5
        have hl5 := s5.le
        refine v5.pushN Ydh Ylv Yku Yjt (by rw [Ybh hz2]; omega) rfl (by omega) rfl (by omega) (fun h7 hl7 hi7 hk7 => ?_)
        simp only [Zaj]
        have hz5 := s5.get (sq.get hz (Own.lt hz)) (by have := Own.lt hz; omega)
        have ha5 : ∀ j, a = some (j, 0) → j = h2.length ∨ h4.length ≤ j := ha
        have o7 : h7[h3.length]? = some (.cells Zaf [.int .u8 (t.hd : Int), .slice a g cp e] false) := by
          rw [hk7 _ (Own.lt o5) fun j hj => by rcases ha j hj with hh | hh <;> omega]; exact o5
        rw [Zbv o7 (by simp)]
        simp only [Zba, putRow, List.take_succ_cons, List.take_zero, List.length_cons, List.length_nil, List.drop_succ_cons, List.drop_nil, List.cons_append, List.nil_append, List.append_nil]
        rw [Zbt (by omega)]
        have hS5 := (hS.cat sq).cat s5
        have h7o : ∀ j, j < h5.length → (∀ j0, a = some (j0, 0) → j ≠ j0) → j ≠ h3.length → (h7.set h3.length (Zcg.cells Zaf [.int .u8 (t.hd : Int), .slice (some (h5.length + 1, 0)) (g + 1) (g + 1) false] false))[j]? = h5[j]? := fun j hj hne hne2 => by rw [Zcv (by omega), hk7 j hj hne]
        refine hR (g + 1) _ _ (by omega) ⟨rfl, by omega, ⟨by simp; omega, fun j hj => ?_⟩, by simp; omega, ?_, some (h5.length + 1, 0), g + 1, false, vs ++ [[.int .u8 ((subst (Zhr m) t.ps[g]).hd : Int), .slice na (subst (Zhr m) t.ps[g]).ps.length nc ne]], Zdq o7, by simp [hvl], Vec.mk1 ?_, fun j hj => by cases hj; right; omega, ?_⟩
        · rw [h7o j (by omega) (fun j0 hj0 => by rcases ha j0 hj0 with hh | hh <;> omega) (by omega)]; exact hS5.eq j hj
        · rw [h7o _ (Own.lt hz5) (fun j0 hj0 => by rcases ha j0 hj0 with hh | hh <;> omega) (by omega)]; exact hz5
        · rw [Zcv (by omega), hi7]; simp
        · intro k v x hv' hx
          have hkeep : ∀ {t' : Ty} {v' : List Zaq}, Zhv (fun j => (S j ∨ h4.length ≤ j) ∧ ∀ j0, a = some (j0, 0) → j ≠ j0) h5 t' v' → Zhv (fun j => (S j ∨ h4.length ≤ j) ∧ ∀ j0, (some (h5.length + 1, 0) : Pt) = some (j0, 0) → j ≠ j0) (h7.set h3.length (Zcg.cells Zaf [.int .u8 (t.hd : Int), .slice (some (h5.length + 1, 0)) (g + 1) (g + 1) false] false)) t' v' := by
            intro t' v' hr
            have hr2 := hr.below
            refine Zhv.mono (S := fun j => ((S j ∨ h4.length ≤ j) ∧ ∀ j0, a = some (j0, 0) → j ≠ j0) ∧ j < h5.length) (fun j hj => ⟨hj.1.1, fun j0 e0 => by cases e0; have := hj.2; omega⟩) (hr2.agree fun j hj => ?_)
            refine h7o j hj.2 hj.1.2 ?_
            rcases hj.1.1 with h8 | h8
            · have := (hSi j h8).1; omega
            · omega
          by_cases hkl : k < vs.length
          · rw [List.getElem?_append_left hkl] at hv'
            exact hkeep (((hp k v x hv' hx).same sq).same s5)
          · rw [List.getElem?_append_right (by omega)] at hv'
            have hk0 : k = vs.length := by
              by_cases e : k - vs.length = 0
              · omega
              · rw [List.getElem?_eq_none (by simp; omega)] at hv'; cases hv'
            subst hk0
            simp at hv'
            subst hv'
            rw [hvl, List.getElem?_eq_getElem hgt] at hx
            cases hx
            refine hkeep (Zhv.mono (S := fun j => S j ∨ hq'.length ≤ j) (fun j hj => ⟨?_, fun j0 e0 => ?_⟩) hn5)
            · rcases hj with h8 | h8
              · exact .inl h8
              · exact .inr (by omega)
            · have hj0 := (hv.same sq).lt' e0
              rcases hj with h8 | h8
              · have := (hSi j h8).1
                rcases ha j0 e0 with hh | hh <;> omega
              · omega
      · apply Zhn.A6x0i
        have : g = t.ps.length := by omega
        subst this
        have hrow := Zds (o := 0) (n := 2) ho (by simp)
        rw [hrow]
        simp only [List.drop_zero, List.take_succ_cons, List.take_zero, Zas, Zah, Zan, Zav, Zaj]
        rw [Zbv hz (by simp)]
        simp only [Zba]
        rw [Zds (Zdq hz) (by simp [putRow])]
        simp only [putRow, List.take_zero, List.nil_append, List.length_cons, List.length_nil, List.cons_append, List.drop_succ_cons, List.drop_zero, List.drop_nil, List.append_nil, List.take_succ_cons, Zas, Zah, Zav, Zaj, Zan]
        refine ⟨⟨by simp; exact hS.le, fun j hj => by rw [Zcv (by omega)]; exact hS.eq j hj⟩, _, rfl, ?_⟩
        have hget : ∀ j, j ≠ h0.length → (h'.set h0.length (Zcg.cells Zaf [.int .u8 (t.hd : Int), .slice a t.ps.length cp e] false))[j]? = h'[j]? := fun j hj => Zcv (fun e => hj e.symm)
        rcases hv with ⟨rfl, h0', _, hvs⟩ | ⟨j0, rfl, hj0⟩
        · -- no parts
          have hps : t.ps = [] := List.eq_nil_of_length_eq_zero h0'
          cases t with
          | k d =>
            simp only [subst, show Zhr m d = none from hno, Option.getD_none]
            exact ⟨_, _, _, rfl⟩
          | u d x => simp [Ty.ps] at hps
          | w d x y => simp [Ty.ps] at hps
        · have hj0n : j0 ≠ h0.length := by rcases ha j0 rfl with hh | hh <;> omega
          have hS4 := ha j0 rfl
          have := Zhv.make (S := fun j => S j ∨ h.length ≤ j) (h := h'.set h0.length (Zcg.cells Zaf [.int .u8 (t.hd : Int), .slice (some (j0, 0)) t.ps.length cp e] false)) (t := subst (Zhr m) t) (j := j0) (n := t.ps.length) (c := cp) (e := e) (vs := vs)
            (by rw [hsp, List.length_map]) (.inr (by rcases hS4 with hh | hh <;> omega)) (by rw [hget j0 hj0n]; exact hj0) hvl (fun k w x hw hx => by
              rw [hsp, List.getElem?_map] at hx
              obtain ⟨y, hy, rfl⟩ := Option.map_eq_some_iff.1 hx
              have hr := hp k w y hw hy
              refine Zhv.mono (S := fun j => (S j ∨ h4.length ≤ j) ∧ ∀ j1, (some (j0, 0) : Pt) = some (j1, 0) → j ≠ j1) (fun j hj => hj.1.imp id (fun h => by omega)) (hr.agree fun j hj => hget j ?_)
              rcases hj.1 with h8 | h8
              · have := (hSi j h8).1; omega
              · omega)
          rw [hsh] at this
          exact this
    cases hv : Zdj t.hd with
    | true =>
      obtain ⟨k, hk6, hkv, hix⟩ := Zwy hv
      rw [hix]
      obtain ⟨x, hx1, hx2, hx3⟩ := rm1.get (k := k) (by omega)
      rw [hkv, Option.bind_some] at hx3
      have hge : decide ((k : Int) ≥ 0) = true := by simp
      simp only [hge, Zcu, Int.toNat_natCast, hx1, hx2, Zas, Zah, Zan]
      refine ⟨by omega, ?_⟩
      cases hg : Zhr m t.hd with
      | none =>
        rw [hg] at hx3
        simp only at hx3
        subst hx3
        simp only [Zav, show ((0 : Int) == 0) = true from rfl, Bool.not_true, Zbn]
        exact main hg
      | some u =>
        rw [hg] at hx3
        simp only at hx3
        have hu := hmo _ _ hg
        obtain ⟨ux, uc, ue, hux⟩ := hx3.shape
        simp only [List.cons.injEq, and_true] at hux
        obtain ⟨hux1, hux2⟩ := hux
        rw [hux1, hux2] at hx3
        rw [hux1, hux2]
        have hu0 : (((u.hd : Nat) : Int) == 0) = false := by
          have := Zti hu
          have hne : u.hd ≠ 0 := fun e => by rw [e] at this; simp at this
          simp; omega
        simp only [Zav, Zaj, hu0, Bool.not_false, Zcu]
        rw [Zbv oz (by simp)]
        simp only [Zba]
        rw [Zds (Zdq oz) (by simp [putRow])]
        simp only [putRow, List.take_zero, List.nil_append, List.length_cons, List.length_nil, List.cons_append, List.drop_succ_cons, List.drop_zero, List.drop_nil, List.append_nil, List.take_succ_cons, Zas, Zah, Zav, Zaj, Zan]
        refine ⟨by omega, ⟨by simp; omega, fun j hj => by rw [Zcv (by omega)]; exact S1.eq j hj⟩, _, rfl, ?_⟩
        have hsub : subst (Zhr m) t = u := by rw [Zpl ht hv]; simp [subst, hg]
        rw [hsub]
        refine Zhv.mono (S := S) (fun j hj => .inl hj) (hx3.agree fun j hj => Zcv (by have := (hSi j hj).1; omega))
    | false =>
      rw [Ycw ht hv]
      have hge : decide ((-1 : Int) ≥ 0) = false := by decide
      simp only [hge, Zbn]
      exact main (hmn _ hv)
end Go.Sim

set_option linter.unusedSimpArgs false
set_option linter.unusedVariables false
namespace Go.Sim

def Ynu : Ty → List Nat
  | .k c => if Zdj c then [c] else []
  | .u c a => Ynu a
  | .w c a b => Ynu a ++ Ynu b
structure Ytq (m m' : Bd) (a t : Ty) : Prop where
  keep : ∀ v u, Zhr m v = some u → Zhr m' v = some u
  sub : subst (Zhr m') a = t
  vars : ∀ v, (Zhr m' v).isSome = true ↔ ((Zhr m v).isSome = true ∨ v ∈ Ynu a)
end Go.Sim

set_option linter.unusedSimpArgs false
set_option linter.unusedVariables false
namespace Go.Sim

structure Ytn (f : Nat → Option Ty) : Prop where
  nv : ∀ v, Zdj v = false → f v = none
  ok : ∀ v t, f v = some t → t.ok = true
noncomputable def after (f g : Nat → Option Ty) (v : Nat) : Option Ty := if Zdj v then some (subst g ((f v).getD (.k v))) else none
noncomputable def Zra (a b : Ins) : Bool := decide (a.1.1 = b.1.1) && Zpj b.1.2 a.1.2
end Go.Sim

set_option linter.unusedVariables false
set_option linter.unusedSimpArgs false
set_option maxRecDepth 20000
namespace Go.Sim
open Go Go.RowKit

noncomputable def Ypi (w : Wd) (x : Int) : Bool := decide (x ≥ 0) && decide (x < (w.is.length : Nat))
noncomputable def Yat (w : Wd) (x y : Int) : Bool := Zdw w && Ypi w x && Ypi w y && Zra (w.is.getD x.toNat (([], []), [])) (w.is.getD y.toNat (([], []), []))
theorem Zzx {w : Wd} {k : Nat} (h : k < w.is.length) : Ypi w (k : Int) = true := by unfold Ypi; simp; omega
theorem Yfp {w : Wd} {x : Int} (h : Ypi w x = true) : ∃ k : Nat, x = k ∧ k < w.is.length := by
  unfold Ypi at h; simp at h; exact ⟨x.toNat, by omega, by omega⟩
theorem Yha {h : Zaa} {a a' : Pt} {n c n' c' : Nat} {e e' : Bool} {i k : Ins} :
    Zag pg Znh [.agg [.str i.1.1, .str i.1.2, .slice a n c e], .agg [.str k.1.1, .str k.1.2, .slice a' n' c' e']] h fun v h' => v = .bool (Zra i k) ∧ Zbd h.length h h' := by
  apply Zrl.call
  simp only [Zax]
  generalize hh0 : h ++ [Zcg.cells Zao [.str i.1.1, .str i.1.2, .slice a n c e] false] = h0
  generalize hh1 : h0 ++ [Zcg.cells Zao [.str k.1.1, .str k.1.2, .slice a' n' c' e'] false] = h1
  have s0 : Zbd h.length h h0 := by rw [← hh0]; exact Zam
  have s1 : Zbd h0.length h0 h1 := by rw [← hh1]; exact Zam
  have o0 : h0[h.length]? = some (.cells Zao [.str i.1.1, .str i.1.2, .slice a n c e] false) := by rw [← hh0]; simp
  have o1 := s1.get o0 (Own.lt o0)
  have k1 : h1[h0.length]? = some (.cells Zao [.str k.1.1, .str k.1.2, .slice a' n' c' e'] false) := by rw [← hh1]; simp
  have S1 := s0.cat s1
  simp only [Zak o1, Zak k1, Nat.zero_add, List.getElem?_cons_succ, List.getElem?_cons_zero, Zai]
  refine Zar (fun he => ?_) (fun he => ⟨by unfold Zra; simp [he], S1⟩)
  refine (Zsl k.1.2 i.1.2 h1).mono ?_
  rintro v h2 ⟨rfl, s2⟩
  simp only [Zap]
  exact ⟨by unfold Zra; simp [he], S1.cat s2⟩
theorem Zqw {h : Zaa} {a0 a1 : Pt} {n0 c0 n1 c1 : Nat} {w : Wd} (r : Zlx h a0 n0 c0 a1 n1 c1 w) {k : Nat} (hk : k < w.is.length) :
    ∃ i o a n cp e, a1 = some (i, o) ∧ i < h.length ∧ Zaw h (.ptr (some (i, o + k * 3))) 3 = some [.str w.is[k].1.1, .str w.is[k].1.2, .slice a n cp e] ∧ Zae h (.ptr (some (i, o + k * 3))) = some (.str w.is[k].1.1) ∧ Zae h (.ptr (some (i, o + k * 3 + 1))) = some (.str w.is[k].1.2) ∧ Row h.length h a (n * 2) (Zeg eP w.is[k].2) ∧ w.is[k].2.length = n := by
  have hl := r.len1
  obtain ⟨i, o, hk', a, n, cp, e, h1, h2, h3, h4, h5, h6, h7, h8⟩ := r.inst (k := k) (by omega)
  exact ⟨i, o, a, n, cp, e, h1, h2, h3, h4, h5, h7, h8⟩
theorem Zzr {h : Zaa} {a0 a1 : Pt} {n0 c0 n1 c1 : Nat} {e0 e1 : Bool} {w : Wd} {x y : Int} (r : Zlx h a0 n0 c0 a1 n1 c1 w) (b : WB w) :
    Zag pg Zlo [.agg [.slice a0 n0 c0 e0, .slice a1 n1 c1 e1], .int .i64 x, .int .i64 y] h fun v h' => v = .bool (Yat w x y) ∧ Zbd h.length h h' := by
  have hl1 := r.len1
  have hli := b.li
  apply Zli.call
  simp only [Zax]
  generalize hh0 : h ++ [Zcg.cells Zal [.slice a0 n0 c0 e0, .slice a1 n1 c1 e1] false] = h0
  have s0 : Zbd h.length h h0 := by rw [← hh0]; exact Zam
  have w0 : h0[h.length]? = some (Zok a0 n0 c0 e0 a1 n1 c1 e1) := by rw [← hh0]; simp [Zok]
  rw [Zyv w0]
  simp only [Zas, Zah, Zan, Zaj]
  refine (Zrc (r.same s0) b).mono ?_
  rintro v h2 ⟨rfl, s2⟩
  have S2 := s0.cat s2
  have w2 := s2.get w0 (Own.lt w0)
  simp only [Zap]
  refine Zbp (fun b1 => ⟨by unfold Yat; rw [b1]; rfl, S2⟩) (fun b1 => ?_)
  simp only [Ztu w2, Nat.zero_add, List.getElem?_cons_succ, List.getElem?_cons_zero, Zaj]
  rw [IntWalk.i64_in _ (by omega)]
  have hin : ∀ z : Int, decide (0 ≤ z ∧ z ≤ ((n1 : Nat) : Int) - 1) = Ypi w z := fun z => by
    unfold Ypi; rw [hl1, Bool.eq_iff_iff]; simp; omega
  refine Zzc.mono ?_
  rintro v h3 ⟨rfl, rfl⟩
  simp only [Zap, hin]
  refine Zbp (fun b2 => ⟨by unfold Yat; rw [b2]; simp, S2⟩) (fun b2 => ?_)
  simp only [Ztu w2, List.getElem?_cons_succ, List.getElem?_cons_zero, Zaj]
  rw [IntWalk.i64_in _ (by omega)]
  refine Zzc.mono ?_
  rintro v h3 ⟨rfl, rfl⟩
  simp only [Zap, hin]
  refine Zbp (fun b3 => ⟨by unfold Yat; rw [b3]; simp, S2⟩) (fun b3 => ?_)
  obtain ⟨k, rfl, hk⟩ := Yfp b2
  obtain ⟨l, rfl, hl⟩ := Yfp b3
  apply Zli.J3i
  obtain ⟨i, o, ka, kn, kc, ke, rfl, hi, _, hc1, hd1, _⟩ := Zqw (r.same S2) hk
  obtain ⟨i', o', la, ln, lc, le, he, hi', _, hc2, hd2, _⟩ := Zqw (r.same S2) hl
  cases he
  simp only [Ztu w2, Nat.zero_add, Nat.add_zero, List.getElem?_cons_succ, List.getElem?_cons_zero, Zaj, Zau, Int.toNat_natCast, hc1, hc2, hd1, hd2, Zai, true_and]
  have hval : Yat w (k : Int) (l : Int) = Zra w.is[k] w.is[l] := by
    unfold Yat
    rw [b1, Zzx hk, Zzx hl, Int.toNat_natCast, Int.toNat_natCast, Zfi hk, Zfi hl]; rfl
  refine ⟨by omega, by omega, Zar (fun he => ?_) (fun he => ⟨by rw [hval]; unfold Zra; simp [he], S2⟩)⟩
  have hbk := b.is _ (List.getElem_mem hk)
  have hbl := b.is _ (List.getElem_mem hl)
  refine ⟨by omega, by omega, (Zrd _ _ hbl.2.1 hbk.2.1 _).mono ?_⟩
  rintro v h4 ⟨rfl, s4⟩
  have hce : ∀ z, Zae h4 (.ptr (some (i, z))) = Zae h3 (.ptr (some (i, z))) := fun z => by simp only [Zae, s4.eq i hi]
  simp only [Zap, Ztu (s4.get w2 (Own.lt w2)), hce, hc1, List.getElem?_cons_succ, List.getElem?_cons_zero, true_and]
  exact ⟨by rw [hval]; unfold Zra; simp [he], S2.cat s4⟩
end Go.Sim

set_option linter.unusedVariables false
set_option linter.unusedSimpArgs false
set_option maxRecDepth 20000
namespace Go.Sim
open Go Go.RowKit

noncomputable def Zmf (n : Nd) (i : Ins) : Bool := decide (i.1.1 = n.1) && Zpj i.1.2 n.2
noncomputable def Zir (w : Wd) (n : Nd) : List Int := ixs (Zmf n) w.is
noncomputable def Ztt (w : Wd) (n : Nd) : List Int := if Zdw w && Zfk w n then Zir w n else []
theorem Yqj {α : Type} {f : α → Bool} {l : List α} {x : Int} (h : x ∈ ixs f l) : ∃ k : Nat, ∃ hk : k < l.length, x = k ∧ f l[k] = true := by
  unfold ixs at h
  obtain ⟨p, hp, rfl⟩ := List.mem_map.1 h
  obtain ⟨h1, h2⟩ := List.mem_filter.1 hp
  obtain ⟨a, k⟩ := p
  have h3 := List.mem_zipIdx h1
  simp only [Nat.zero_add, Nat.zero_le, Nat.sub_zero, true_and] at h3
  exact ⟨k, h3.1, rfl, by simp only at h2; rw [← h3.2]; exact h2⟩
theorem Zzf {h : Zaa} {a0 a1 : Pt} {n0 c0 n1 c1 : Nat} {e0 e1 : Bool} {w : Wd} {ct tt : List Nat} (r : Zlx h a0 n0 c0 a1 n1 c1 w) (b : WB w) :
    Zag pg Zlj [.agg [.slice a0 n0 c0 e0, .slice a1 n1 c1 e1], .agg [.str ct, .str tt]] h fun v h' => v = .bool (Zdw w && Zfk w (ct, tt)) ∧ Zbd h.length h h' := by
  apply Zpe.call
  simp only [Zax]
  generalize hh0 : h ++ [Zcg.cells Zal [.slice a0 n0 c0 e0, .slice a1 n1 c1 e1] false] = h0
  generalize hh1 : h0 ++ [Zcg.cells Zab [.str ct, .str tt] false] = h1
  have s0 : Zbd h.length h h0 := by rw [← hh0]; exact Zam
  have s1 : Zbd h0.length h0 h1 := by rw [← hh1]; exact Zam
  have w0 : h0[h.length]? = some (Zok a0 n0 c0 e0 a1 n1 c1 e1) := by rw [← hh0]; simp [Zok]
  have w1 := s1.get w0 (Own.lt w0)
  have i1 : h1[h0.length]? = some (.cells Zab [.str ct, .str tt] false) := by rw [← hh1]; simp
  rw [Zyv w1]
  simp only [Zas, Zah, Zan, Zaj]
  refine (Zzv (r.same (s0.cat s1)) b).mono ?_
  rintro v h2 ⟨rfl, s2⟩
  simp only [Zap]
  have i2 := s2.get i1 (Own.lt i1)
  have w2 := s2.get w1 (Own.lt w1)
  refine Zdi (fun b1 => ?_) (fun b1 => ⟨by rw [b1]; rfl, (s0.cat s1).cat s2⟩)
  rw [Zyv w2, Zds i2 (by simp)]
  simp only [List.drop_zero, List.take_succ_cons, List.take_zero, Zas, Zah, Zan, Zaj, Zai]
  refine (Ymg (r.same ((s0.cat s1).cat s2)) b).mono ?_
  rintro v h3 ⟨rfl, s3⟩
  simp only [Zap]
  exact ⟨by rw [b1]; rfl, ((s0.cat s1).cat s2).cat s3⟩
theorem Yim {h : Zaa} {a : Pt} {n c j : Nat} {e : Bool} {ct tt nc nt : List Nat} (hj : h[j]? = some (.cells Zab [.str nc, .str nt] false)) :
    Zag pg Zcd [.agg [.str ct, .str tt, .slice a n c e], .ptr (some (j, 0))] h fun v h' => v = .bool (Zpj tt nt) ∧ Zbd h.length h h' := by
  apply Zkm.call
  have s1 : Zbd h.length h (h ++ [.cells Zao [.str ct, .str tt, .slice a n c e] false]) := Zam
  simp only [Zax, Zez, Nat.zero_add, List.getElem?_cons_succ, List.getElem?_cons_zero, Zai, fa1, Zak (s1.get hj (Own.lt hj))]
  refine (Zsl tt nt _).mono ?_
  rintro v h2 ⟨rfl, s2⟩
  simp only [Zap]
  exact ⟨by trivial, s1.cat s2⟩
theorem Ymd {h : Zaa} {t : TypeId} {x y z a b c : Zaq} : Zbc (h ++ [.cells t [x, y, z] false]) (.ptr (some (h.length, 0))) [a, b, c] = some (h ++ [.cells t [a, b, c] false]) := Zqq rfl
theorem Ygs {h : Zaa} {a0 a1 : Pt} {n0 c0 n1 c1 j : Nat} {e0 e1 : Bool} {w : Wd} {nd : Nd} (r : Zlx h a0 n0 c0 a1 n1 c1 w) (b : WB w) (hj : h[j]? = some (.cells Zab [.str nd.1, .str nd.2] false)) :
    Zag pg Zqg [.agg [.slice a0 n0 c0 e0, .slice a1 n1 c1 e1], .str nd.1, .fn Zcd [.ptr (some (j, 0))]] h fun v h' => Zbd h.length h h' ∧ ∃ a n c e, v = .slice a n c e ∧ Zeb Zlu eI h.length h' a n (Zir w nd) := by
  have hl1 := r.len1
  have hli := b.li
  apply Zbu.call
  simp only [Zax]
  generalize hh0 : h ++ [Zcg.cells Zal [.slice a0 n0 c0 e0, .slice a1 n1 c1 e1] false] = h0
  generalize hh1 : h0 ++ [Zcg.cells Zlu [] false] = h1
  have s0 : Zbd h.length h h0 := by rw [← hh0]; exact Zam
  have s1 : Zbd h0.length h0 h1 := by rw [← hh1]; exact Zam
  have w0 : h0[h.length]? = some (Zok a0 n0 c0 e0 a1 n1 c1 e1) := by rw [← hh0]; simp [Zok]
  have w1 := s1.get w0 (Own.lt w0)
  have o1 : h1[h0.length]? = some (.cells Zlu [] false) := by rw [← hh1]; simp
  have l0 : h0.length = h.length + 1 := by rw [← hh0]; simp
  have S1 := s0.cat s1
  simp only [Ztu w1, Nat.zero_add, List.getElem?_cons_succ, List.getElem?_cons_zero, Zaj]
  refine Zbu.L3ind _ _ _ _ _ _ _ _ (J := fun (g : Nat) a4 n4 c4 e4 x14 h' => x14 = (g : Int) ∧ g ≤ n1 ∧ Zbd h.length h h' ∧ n4 = (ixs (Zmf nd) (w.is.take g)).length ∧ Vec Zlu h' a4 n4 c4 (Zeg eI (ixs (Zmf nd) (w.is.take g))) ∧ (∀ i, a4 = some (i, 0) → h.length ≤ i)) (fun g => n1 - g) ?_ 0 _ _ _ _ _ _
    ⟨rfl, by omega, S1, rfl, Vec.mk1 (by simpa [ixs] using o1), fun i hi => by cases hi; omega⟩
  rintro g a4 n4 c4 e4 x14 h' ⟨rfl, hg, hS, rfl, hv, ha⟩ R hR
  unfold Zbu.L3t
  refine Zar (fun hlt => ?_) (fun hge => ?_)
  · have hgl : g < w.is.length := by omega
    obtain ⟨i, o, a2, n2, c2, e2, rfl, _, hr, _, _, hrow, hn⟩ := Zqw (r.same hS) hgl
    simp only [Zau, Int.toNat_natCast, hr, Zas, Zah, Zan, Zai, Zaj, Zax]
    rw [Ymd]
    simp only [Zba, Zez, Nat.zero_add, List.getElem?_cons_succ, List.getElem?_cons_zero, Zai]
    have hil := Zzl (Zmf nd) (w.is.take g)
    rw [List.length_take] at hil
    have htk := Yez (Zmf nd) hgl
    generalize hq : h' ++ [Zcg.cells Zao [.str w.is[g].1.1, .str w.is[g].1.2, .slice a2 n2 c2 e2] false] = hq'
    have sq : Zbd h'.length h' hq' := by rw [← hq]; exact Zam
    have skip : ∀ hz, Zbd hq'.length hq' hz → Zmf nd w.is[g] = false → Zbu.J7 (fun v h' => Zbd h.length h h' ∧ ∃ a n c e, v = .slice a n c e ∧ Zeb Zlu eI h.length h' a n (Zir w nd)) R (g : Int) (((n1 : Nat) : Int)) (some (i, o)) n1 c1 e1 nd.1 (.ptr (some (j, 0))) a4 (ixs (Zmf nd) (w.is.take g)).length c4 e4 hz := by
      intro hz sz hno
      apply Zbu.J7i
      rw [hno] at htk
      simp only [Bool.false_eq_true, if_false, List.append_nil] at htk
      rw [Zbt (by omega)]
      exact hR (g + 1) _ _ _ _ _ _ (by omega) ⟨rfl, by omega, (hS.cat sq).cat sz, by rw [htk], by rw [htk]; exact (hv.same sq).same sz, ha⟩
    refine ⟨by omega, Zar (fun hc => ?_) (fun hc => skip _ (Zbd.refl _ _) (by unfold Zmf; simp [hc]))⟩
    rw [← hq, Ypr, hq]
    simp only [Zas, Zah, Zan, Zai, Zaj]
    refine (Yim (sq.get (hS.get hj (Own.lt hj)) (by have := Own.lt hj; have := hS.le; omega))).mono ?_
    rintro v h3 ⟨rfl, s3⟩
    simp only [Zap]
    refine Zdi (fun hi => ?_) (fun hi => skip _ s3 (by unfold Zmf; simp [hi]))
    have hyes : Zmf nd w.is[g] = true := by unfold Zmf; simp [hc, hi]
    rw [hyes, if_pos rfl] at htk
    have S3 := (hS.cat sq).cat s3
    refine ((hv.same sq).same s3).push Ykn Yqz Yrf Yri (by rw [Zbb Zsj]; omega) rfl (by omega) (fun h6 hl6 hi6 hk6 => ?_)
    simp only [Zaj]
    apply Zbu.J7i
    rw [Zbt (by omega)]
    have hle := S3.le
    refine hR (g + 1) _ _ _ _ _ _ (by omega) ⟨rfl, by omega, ⟨by omega, fun j hj => ?_⟩, by rw [htk]; simp, Vec.mk1 ?_, fun i hi => by cases hi; omega⟩
    · rw [hk6 j (by omega) fun i hi => by have := ha i hi; omega]; exact S3.eq j hj
    · rw [hi6, htk, Zgt]; rfl
  · apply Zbu.A3x0i
    have : g = n1 := by omega
    subst this
    rw [List.take_of_length_le (by omega)] at hv ⊢
    exact ⟨hS, _, _, _, _, rfl, hv.fresh (b := h.length) rfl fun i hi => ha i hi⟩
def Yqa (w : Wd) (n : Nd) (h : Zaa) (v : Zaq) (h' : Zaa) : Prop := Zbd h.length h h' ∧ ∃ a m c e, v = .slice a m c e ∧ Zeb Zlu eI h.length h' a m (Zir w n)
theorem Zeb.low {α : Type} {ty : TypeId} {enc : α → List Zaq} {b b' : Nat} {h : Zaa} {a : Pt} {n : Nat} {l : List α} (f : Zeb ty enc b h a n l) (hb : b' ≤ b) : Zeb ty enc b' h a n l :=
  ⟨f.1, f.2.imp id fun ⟨i, ha, hbi, hi⟩ => ⟨i, ha, by omega, hi⟩⟩
theorem Zzm {h : Zaa} {a0 a1 : Pt} {n0 c0 n1 c1 : Nat} {e0 e1 : Bool} {w : Wd} {nd : Nd} (r : Zlx h a0 n0 c0 a1 n1 c1 w) (b : WB w) :
    Zag pg Zkx [.agg [.slice a0 n0 c0 e0, .slice a1 n1 c1 e1], .agg [.str nd.1, .str nd.2]] h (Yqa w nd h) := by
  apply Znu.call
  simp only [Zax]
  generalize hh0 : h ++ [Zcg.cells Zal [.slice a0 n0 c0 e0, .slice a1 n1 c1 e1] false] = h0
  generalize hh1 : h0 ++ [Zcg.cells Zab [.str nd.1, .str nd.2] false] = h1
  have s0 : Zbd h.length h h0 := by rw [← hh0]; exact Zam
  have s1 : Zbd h0.length h0 h1 := by rw [← hh1]; exact Zam
  have w0 : h0[h.length]? = some (Zok a0 n0 c0 e0 a1 n1 c1 e1) := by rw [← hh0]; simp [Zok]
  have w1 := s1.get w0 (Own.lt w0)
  have i1 : h1[h0.length]? = some (.cells Zab [.str nd.1, .str nd.2] false) := by rw [← hh1]; simp
  have S1 := s0.cat s1
  rw [Zyv w1]
  simp only [Zas, Zah, Zan, Zaj, Zak i1, Nat.zero_add, List.getElem?_cons_zero, Zai]
  refine (Ygs (r.same S1) b i1).mono ?_
  rintro v h2 ⟨s2, a, n, c, e, rfl, f⟩
  simp only [Zaj]
  exact ⟨S1.cat s2, a, n, c, e, rfl, f.low S1.le⟩
def Yst (w : Wd) (n : Nd) (h : Zaa) (v : Zaq) (h' : Zaa) : Prop := Zbd h.length h h' ∧ ∃ a m c e, v = .tup [.slice a m c e, .bool (Zdw w && Zfk w n)] ∧ Zeb Zlu eI h.length h' a m (Ztt w n)
theorem Zrp {h : Zaa} {a0 a1 : Pt} {n0 c0 n1 c1 : Nat} {e0 e1 : Bool} {w : Wd} {nd : Nd} (r : Zlx h a0 n0 c0 a1 n1 c1 w) (b : WB w) (hnt : nd.2.length ≤ 1048576) :
    Zag pg Zgu [.agg [.slice a0 n0 c0 e0, .slice a1 n1 c1 e1], .agg [.str nd.1, .str nd.2]] h (Yqa w nd h) := by
  have hl1 := r.len1
  have hli := b.li
  apply Zdr.call
  simp only [Zax]
  generalize hh0 : h ++ [Zcg.cells Zal [.slice a0 n0 c0 e0, .slice a1 n1 c1 e1] false] = h0
  generalize hh1 : h0 ++ [Zcg.cells Zab [.str nd.1, .str nd.2] false] = h1
  generalize hh2 : h1 ++ [Zcg.cells Zlu [] false] = h2
  have s0 : Zbd h.length h h0 := by rw [← hh0]; exact Zam
  have s1 : Zbd h0.length h0 h1 := by rw [← hh1]; exact Zam
  have s2 : Zbd h1.length h1 h2 := by rw [← hh2]; exact Zam
  have w0 : h0[h.length]? = some (Zok a0 n0 c0 e0 a1 n1 c1 e1) := by rw [← hh0]; simp [Zok]
  have w2 := s2.get (s1.get w0 (Own.lt w0)) (by have := Own.lt w0; have := s1.le; omega)
  have i1 : h1[h0.length]? = some (.cells Zab [.str nd.1, .str nd.2] false) := by rw [← hh1]; simp
  have i2 := s2.get i1 (Own.lt i1)
  have o2 : h2[h1.length]? = some (.cells Zlu [] false) := by rw [← hh2]; simp
  have S2 := (s0.cat s1).cat s2
  have hle1 := (s0.cat s1).le
  have l1' : h1.length = h0.length + 1 := by rw [← hh1]; simp
  simp only [Ztu w2, Nat.zero_add, List.getElem?_cons_succ, List.getElem?_cons_zero, Zaj]
  refine Zdr.L3ind _ _ _ _ _ _ _ _ (J := fun (g : Nat) a4 n4 c4 e4 x12 h' => x12 = (g : Int) ∧ g ≤ n1 ∧ Zbd h.length h h' ∧ h'[h0.length]? = some (.cells Zab [.str nd.1, .str nd.2] false) ∧ n4 = (ixs (Zmf nd) (w.is.take g)).length ∧ Vec Zlu h' a4 n4 c4 (Zeg eI (ixs (Zmf nd) (w.is.take g))) ∧ (∀ i, a4 = some (i, 0) → h1.length ≤ i)) (fun g => n1 - g) ?_ 0 _ _ _ _ _ _
    ⟨rfl, by omega, S2, i2, rfl, Vec.mk1 (by simpa [ixs] using o2), fun i hi => by cases hi; omega⟩
  rintro g a4 n4 c4 e4 x12 h' ⟨rfl, hg, hS, hi0, rfl, hv, ha⟩ R hR
  have hlt1 := Own.lt i1
  unfold Zdr.L3t
  refine Zar (fun hlt => ?_) (fun hge => ?_)
  · have hgl : g < w.is.length := by omega
    obtain ⟨i, o, a2, n2, c2, e2, rfl, _, hr, _, _, hrow, hn⟩ := Zqw (r.same hS) hgl
    simp only [Zau, Int.toNat_natCast, hr, Zas, Zah, Zan, Zai, Zaj, Zax]
    rw [Ymd]
    have hil := Zzl (Zmf nd) (w.is.take g)
    rw [List.length_take] at hil
    have htk := Yez (Zmf nd) hgl
    have hb := b.is _ (List.getElem_mem hgl)
    generalize hq : h' ++ [Zcg.cells Zao [.str w.is[g].1.1, .str w.is[g].1.2, .slice a2 n2 c2 e2] false] = hq'
    have sq : Zbd h'.length h' hq' := by rw [← hq]; exact Zam
    have oq : hq'[h'.length]? = some (.cells Zao [.str w.is[g].1.1, .str w.is[g].1.2, .slice a2 n2 c2 e2] false) := by rw [← hq]; simp
    have iq := sq.get hi0 (Own.lt hi0)
    simp only [Zba, Zak oq, Zak iq, Nat.zero_add, List.getElem?_cons_succ, List.getElem?_cons_zero, Zai]
    have skip : ∀ hz, Zbd hq'.length hq' hz → Zmf nd w.is[g] = false → Zdr.J7 (Yqa w nd h) R (g : Int) (((n1 : Nat) : Int)) (some (i, o)) n1 c1 e1 h0.length 0 a4 (ixs (Zmf nd) (w.is.take g)).length c4 e4 hz := by
      intro hz sz hno
      apply Zdr.J7i
      rw [hno] at htk
      simp only [Bool.false_eq_true, if_false, List.append_nil] at htk
      rw [Zbt (by omega)]
      exact hR (g + 1) _ _ _ _ _ _ (by omega) ⟨rfl, by omega, (hS.cat sq).cat sz, sz.get iq (Own.lt iq), by rw [htk], by rw [htk]; exact (hv.same sq).same sz, ha⟩
    refine ⟨by omega, Zar (fun hc => ?_) (fun hc => skip _ (Zbd.refl _ _) (by unfold Zmf; simp [hc]))⟩
    refine (Zrd _ _ hb.2.1 hnt _).mono ?_
    rintro v h3 ⟨rfl, s3⟩
    simp only [Zap]
    refine Zdi (fun hi => ?_) (fun hi => skip _ s3 (by unfold Zmf; simp [hi]))
    have hyes : Zmf nd w.is[g] = true := by unfold Zmf; simp [hc, hi]
    rw [hyes, if_pos rfl] at htk
    have S3 := (hS.cat sq).cat s3
    have i3 := s3.get iq (Own.lt iq)
    refine ((hv.same sq).same s3).push Ykn Yqz Yrf Yri (by rw [Zbb Zsj]; omega) rfl (by omega) (fun h6 hl6 hi6 hk6 => ?_)
    simp only [Zaj]
    apply Zdr.J7i
    rw [Zbt (by omega)]
    have hle := S3.le
    have hle3 := Own.lt i3
    refine hR (g + 1) _ _ _ _ _ _ (by omega) ⟨rfl, by omega, ⟨by omega, fun j hj => ?_⟩, ?_, by rw [htk]; simp, Vec.mk1 ?_, fun i hi => by cases hi; have := s3.le; have := sq.le; have := Own.lt hi0; omega⟩
    · rw [hk6 j (by omega) fun i hi => by have := ha i hi; omega]; exact S3.eq j hj
    · rw [hk6 _ hle3 fun i hi => by have := ha i hi; omega]; exact i3
    · rw [hi6, htk, Zgt]; rfl
  · apply Zdr.A3x0i
    have : g = n1 := by omega
    subst this
    rw [List.take_of_length_le (by omega)] at hv ⊢
    exact ⟨hS, _, _, _, _, rfl, hv.fresh (b := h.length) rfl fun i hi => by have := ha i hi; omega⟩
theorem Zuv {h : Zaa} {a0 a1 : Pt} {n0 c0 n1 c1 : Nat} {e0 e1 : Bool} {w : Wd} {nd : Nd} (r : Zlx h a0 n0 c0 a1 n1 c1 w) (b : WB w) (hnt : nd.2.length ≤ 1048576) :
    Zag pg Zjc [.agg [.slice a0 n0 c0 e0, .slice a1 n1 c1 e1], .agg [.str nd.1, .str nd.2]] h (Yst w nd h) := by
  apply Zme.call
  simp only [Zax]
  generalize hh0 : h ++ [Zcg.cells Zal [.slice a0 n0 c0 e0, .slice a1 n1 c1 e1] false] = h0
  generalize hh1 : h0 ++ [Zcg.cells Zab [.str nd.1, .str nd.2] false] = h1
  have s0 : Zbd h.length h h0 := by rw [← hh0]; exact Zam
  have s1 : Zbd h0.length h0 h1 := by rw [← hh1]; exact Zam
  have w0 : h0[h.length]? = some (Zok a0 n0 c0 e0 a1 n1 c1 e1) := by rw [← hh0]; simp [Zok]
  have w1 := s1.get w0 (Own.lt w0)
  have i1 : h1[h0.length]? = some (.cells Zab [.str nd.1, .str nd.2] false) := by rw [← hh1]; simp
  have S1 := s0.cat s1
  rw [Zyv w1, Zds i1 (by simp)]
  simp only [List.drop_zero, List.take_succ_cons, List.take_zero, Zas, Zah, Zan, Zaj, Zai]
  refine (Zul (r.same S1) b hnt).mono ?_
  rintro v h2 ⟨rfl, s2⟩
  have i2 := s2.get i1 (Own.lt i1)
  have w2 := s2.get w1 (Own.lt w1)
  have S2 := S1.cat s2
  simp only [Zap]
  refine Zbp (fun b1 => ⟨S2.cat Zam, _, 0, 0, true, by rw [b1], by unfold Ztt; rw [b1]; exact ⟨rfl, .inl rfl⟩⟩) (fun b1 => ?_)
  rw [Zyv w2, Zds i2 (by simp)]
  simp only [List.drop_zero, List.take_succ_cons, List.take_zero, Zas, Zah, Zan, Zaj, Zai]
  refine (Zrp (r.same S2) b hnt).mono ?_
  rintro v h3 ⟨s3, a, n, c, e, rfl, f⟩
  simp only [Zaj]
  exact ⟨S2.cat s3, a, n, c, e, by rw [b1], by unfold Ztt; rw [if_pos b1]; exact f.low S2.le⟩
end Go.Sim

set_option linter.unusedVariables false
set_option linter.unusedSimpArgs false
set_option maxRecDepth 20000
namespace Go.Sim
open Go Go.RowKit

def Zmn (w : Wd) (x : Int) : Ins := w.is.getD x.toNat (([], []), [])
theorem Zvj {w : Wd} {k : Nat} (h : k < w.is.length) : Zmn w (k : Int) = w.is[k] := by unfold Zmn; rw [Int.toNat_natCast, Zfi h]
noncomputable def Ycm (w : Wd) (l : List Int) (x : Int) : Bool := l.all fun k => Zra (Zmn w x) (Zmn w k)
noncomputable def Znd (w : Wd) (l : List Int) : Int := match l.find? (Ycm w l) with | some x => x | none => -1
noncomputable def Yhq (w : Wd) (n : Nd) : Int := Znd w (Ztt w n)
theorem Ybw {α : Type} {f : α → Bool} {l : List α} {g : Nat} (hg : g < l.length) (h : (l.take g).find? f = none) (k : f l[g] = true) : l.find? f = some l[g] := by
  have h1 : l = l.take g ++ l[g] :: l.drop (g + 1) := by rw [← List.drop_eq_getElem_cons hg, List.take_append_drop]
  conv => lhs; rw [h1]
  rw [List.find?_append, h, List.find?_cons, k]; rfl
theorem Zri {α : Type} {f : α → Bool} {l : List α} {g : Nat} (hg : g < l.length) (h : (l.take g).find? f = none) (k : f l[g] = false) : (l.take (g + 1)).find? f = none := by
  rw [List.take_succ_eq_append_getElem hg, List.find?_append, h]; simp [k]
def InW (w : Wd) (l : List Int) : Prop := ∀ x ∈ l, ∃ k : Nat, x = k ∧ k < w.is.length
theorem Zzy (w : Wd) (n : Nd) : InW w (Zir w n) := fun x hx => by obtain ⟨k, hk, e, _⟩ := Yqj hx; exact ⟨k, e, hk⟩
theorem Yop (w : Wd) (n : Nd) : InW w (Ztt w n) := fun x hx => by
  unfold Ztt at hx
  split at hx
  · exact Zzy w n x hx
  · cases hx
theorem Ytl {j o : Nat} {K : Zaq → Prop} : Zhc pg Zal (.ptr (some (j, o))) 1 K = K (.ptr (some (j, o + 1))) := by kernel_rfl
theorem Row.i64 {b : Nat} {h : Zaa} {a : Pt} {n : Nat} {l : List Int} (r : Row b h a n (Zeg eI l)) {k : Nat} (hk : k < n) : ∃ i o, ∃ hk' : k < l.length, a = some (i, o) ∧ i < b ∧ Zae h (.ptr (some (i, o + k * 1))) = some (.int .i64 l[k]) := by
  obtain ⟨i, o, hk', ha, hi, hc⟩ := Row.el1 Zsj r hk
  exact ⟨i, o, hk', ha, hi, hc⟩
theorem Yhe {h : Zaa} {a0 a1 : Pt} {n0 c0 n1 c1 j j2 : Nat} {e0 e1 : Bool} {w : Wd} {x y : Int} (r : Zlx h a0 n0 c0 a1 n1 c1 w) (hj : h[j]? = some (Zok a0 n0 c0 e0 a1 n1 c1 e1)) (hj2 : h[j2]? = some (.cells Zlu [.int .i64 x] false))
    (hx : ∃ k : Nat, x = k ∧ k < w.is.length) (hy : ∃ k : Nat, y = k ∧ k < w.is.length) :
    Zag pg Zby [.int .i64 y, .ptr (some (j, 0)), .ptr (some (j2, 0))] h fun v h' => v = .bool (!Zra (Zmn w x) (Zmn w y)) ∧ Zbd h.length h h' := by
  obtain ⟨k, rfl, hk⟩ := hx
  obtain ⟨l, rfl, hl⟩ := hy
  have hl1 := r.len1
  apply Zju.call
  obtain ⟨i, o, ka, kn, kc, ke, rfl, hi, hr1, _⟩ := Zqw r hk
  obtain ⟨i', o', la, ln, lc, le, he, hi', hr2, _⟩ := Zqw r hl
  cases he
  simp only [Ytl, Ztu hj, Zak hj2, Nat.zero_add, List.getElem?_cons_succ, List.getElem?_cons_zero, Zaj, Zau, Int.toNat_natCast, hr1, hr2, Zas, Zah, Zan, Zai, Zav, true_and]
  refine ⟨by omega, by omega, Yha.mono ?_⟩
  rintro v h3 ⟨rfl, s3⟩
  simp only [Zap]
  refine ⟨by rw [Zak (s3.get hj2 (Own.lt hj2))]; rfl, by rw [Ztu (s3.get hj (Own.lt hj))]; rfl, ?_, s3⟩
  rw [Zvj hk, Zvj hl]
theorem Yht {h : Zaa} {a0 a1 : Pt} {n0 c0 n1 c1 j j2 : Nat} {e0 e1 : Bool} {w : Wd} {x : Int} {a : Pt} {n c : Nat} {e : Bool} {l : List Int} (r : Zlx h a0 n0 c0 a1 n1 c1 w) (hj : h[j]? = some (Zok a0 n0 c0 e0 a1 n1 c1 e1)) (hj2 : h[j2]? = some (.cells Zlu [.int .i64 x] false))
    (rl : Row h.length h a n (Zeg eI l)) (hn : n ≤ 1048576) (hx : ∃ k : Nat, x = k ∧ k < w.is.length) (hin : InW w l) :
    Zag pg Zfj [.slice a n c e, .fn Zby [.ptr (some (j, 0)), .ptr (some (j2, 0))]] h fun v h' => (∃ z : Int, v = .int .i64 z ∧ decide (z ≥ 0) = !Ycm w l x) ∧ Zbd h.length h h' := by
  have hll : l.length = n := by have := rl.1; rw [Zbb Zsj] at this; omega
  apply Zbs.call
  refine Zbs.L2ind _ _ _ _ _ _ _ _ (J := fun (g : Nat) x8 h' => x8 = (g : Int) ∧ g ≤ n ∧ Zbd h.length h h' ∧ (l.take g).all (fun k => Zra (Zmn w x) (Zmn w k)) = true) (fun g => n - g) ?_ 0 _ _ ⟨rfl, by omega, Zbd.refl _ _, rfl⟩
  rintro g x8 h' ⟨rfl, hg, hS, hk⟩ R hR
  unfold Zbs.L2t
  refine Zar (fun hlt => ?_) (fun hge => ?_)
  · obtain ⟨i, o, hgl, rfl, _, hr⟩ := (rl.same hS).i64 (k := g) (by omega)
    simp only [Zau, Int.toNat_natCast, hr, Zav]
    refine ⟨by omega, (Yhe (r.same hS) (hS.get hj (Own.lt hj)) (hS.get hj2 (Own.lt hj2)) hx (hin _ (List.getElem_mem hgl))).mono ?_⟩
    rintro v h2 ⟨rfl, s2⟩
    simp only [Zap]
    have hS2 := hS.cat s2
    refine Zbp (fun he => ?_) (fun he => ?_)
    · exact ⟨⟨_, rfl, by unfold Ycm; rw [Zpz hgl he]; simp⟩, hS2⟩
    · rw [Zbt (by omega)]
      exact hR (g + 1) _ _ (by omega) ⟨rfl, by omega, hS2, Zfv hgl hk he⟩
  · apply Zbs.A2x0i
    have : g = n := by omega
    subst this
    rw [List.take_of_length_le (by omega)] at hk
    exact ⟨⟨_, rfl, by unfold Ycm; rw [hk]; rfl⟩, hS⟩
theorem Yrh {h : Zaa} {t : TypeId} {x a : Zaq} : Zbc (h ++ [.cells t [x] false]) (.ptr (some (h.length, 0))) [a] = some (h ++ [.cells t [a] false]) := Zqq rfl
theorem Yoh {h : Zaa} {a0 a1 : Pt} {n0 c0 n1 c1 : Nat} {e0 e1 : Bool} {w : Wd} {a : Pt} {n c : Nat} {e : Bool} {l : List Int} (r : Zlx h a0 n0 c0 a1 n1 c1 w) (rl : Row h.length h a n (Zeg eI l)) (hn : n ≤ 1048576) (hin : InW w l) :
    Zag pg Zke [.agg [.slice a0 n0 c0 e0, .slice a1 n1 c1 e1], .slice a n c e] h fun v h' => v = .int .i64 (Znd w l) ∧ Zbd h.length h h' := by
  have hll : l.length = n := by have := rl.1; rw [Zbb Zsj] at this; omega
  apply Zga.call
  simp only [Zax]
  generalize hh0 : h ++ [Zcg.cells Zal [.slice a0 n0 c0 e0, .slice a1 n1 c1 e1] false] = h0
  have s0 : Zbd h.length h h0 := by rw [← hh0]; exact Zam
  have w0 : h0[h.length]? = some (Zok a0 n0 c0 e0 a1 n1 c1 e1) := by rw [← hh0]; simp [Zok]
  have l0 : h0.length = h.length + 1 := by rw [← hh0]; simp
  refine Zga.L2ind _ _ _ _ _ _ _ _ _ _ _ _ (J := fun (g : Nat) x9 h' => x9 = (g : Int) ∧ g ≤ n ∧ Zbd h0.length h0 h' ∧ (l.take g).find? (Ycm w l) = none) (fun g => n - g) ?_ 0 _ _ ⟨rfl, by omega, Zbd.refl _ _, rfl⟩
  rintro g x9 h' ⟨rfl, hg, hS, hk⟩ R hR
  have SS := s0.cat hS
  unfold Zga.L2t
  refine Zar (fun hlt => ?_) (fun hge => ?_)
  · obtain ⟨i, o, hgl, rfl, _, hr⟩ := (rl.same SS).i64 (k := g) (by omega)
    simp only [Zau, Int.toNat_natCast, hr, Zav, Zax]
    rw [Yrh]
    generalize hq : h' ++ [Zcg.cells Zlu [.int .i64 l[g]] false] = hq'
    have sq : Zbd h'.length h' hq' := by rw [← hq]; exact Zam
    have oq : hq'[h'.length]? = some (.cells Zlu [.int .i64 l[g]] false) := by rw [← hq]; simp
    have Sq := SS.cat sq
    have wq := sq.get (hS.get w0 (Own.lt w0)) (by have := Own.lt w0; have := hS.le; omega)
    simp only [Zba]
    refine ⟨by omega, ?_⟩
    apply Zdo.call
    refine (Yht (r.same Sq) wq oq (rl.same' Sq) hn (hin _ (List.getElem_mem hgl)) hin).mono ?_
    rintro v h5 ⟨⟨z, rfl, hz⟩, s5⟩
    simp only [Zav, Zap, hz, Bool.not_not]
    refine Zdi (fun ht => ?_) (fun ht => ?_)
    · simp only [Zak (s5.get oq (Own.lt oq)), List.getElem?_cons_zero, Zav]
      refine ⟨?_, Sq.cat s5⟩
      unfold Znd
      rw [Ybw hgl hk ht]
    · rw [Zbt (by omega)]
      exact hR (g + 1) _ _ (by omega) ⟨rfl, by omega, (hS.cat sq).cat s5, Zri hgl hk ht⟩
  · apply Zga.A2x0i
    have : g = n := by omega
    subst this
    rw [List.take_of_length_le (by omega)] at hk
    exact ⟨by unfold Znd; rw [hk], SS⟩
theorem Ynr {w : Wd} {x y : Int} (hw : Zdw w = true) (hx : ∃ k : Nat, x = k ∧ k < w.is.length) (hy : ∃ k : Nat, y = k ∧ k < w.is.length) : Yat w x y = Zra (Zmn w x) (Zmn w y) := by
  obtain ⟨k, rfl, hk⟩ := hx
  obtain ⟨l, rfl, hl⟩ := hy
  unfold Yat
  rw [hw, Zzx hk, Zzx hl]; rfl
theorem Zwk {h : Zaa} {a0 a1 : Pt} {n0 c0 n1 c1 : Nat} {e0 e1 : Bool} {w : Wd} {nd : Nd} (r : Zlx h a0 n0 c0 a1 n1 c1 w) (b : WB w) (hnt : nd.2.length ≤ 1048576) :
    Zag pg Zji [.agg [.slice a0 n0 c0 e0, .slice a1 n1 c1 e1], .agg [.str nd.1, .str nd.2]] h fun v h' => v = .int .i64 (Yhq w nd) ∧ Zbd h.length h h' := by
  have hl1 := r.len1
  have hli := b.li
  apply Zdg.call
  simp only [Zax]
  generalize hh0 : h ++ [Zcg.cells Zal [.slice a0 n0 c0 e0, .slice a1 n1 c1 e1] false] = h0
  generalize hh1 : h0 ++ [Zcg.cells Zab [.str nd.1, .str nd.2] false] = h1
  have s0 : Zbd h.length h h0 := by rw [← hh0]; exact Zam
  have s1 : Zbd h0.length h0 h1 := by rw [← hh1]; exact Zam
  have w0 : h0[h.length]? = some (Zok a0 n0 c0 e0 a1 n1 c1 e1) := by rw [← hh0]; simp [Zok]
  have w1 := s1.get w0 (Own.lt w0)
  have i1 : h1[h0.length]? = some (.cells Zab [.str nd.1, .str nd.2] false) := by rw [← hh1]; simp
  have S1 := s0.cat s1
  rw [Zyv w1, Zds i1 (by simp)]
  simp only [List.drop_zero, List.take_succ_cons, List.take_zero, Zas, Zah, Zan, Zaj, Zai]
  refine (Zuv (r.same S1) b hnt).mono ?_
  rintro v h2 ⟨s2, a, n, c, e, rfl, f⟩
  have w2 := s2.get w1 (Own.lt w1)
  have S2 := S1.cat s2
  simp only [Zde, Zah, Zaj, Zap, Zan]
  have hcl := Zzl (Zmf nd) w.is
  have hnl : n ≤ 1048576 := by
    have := f.1
    unfold Ztt at this
    split at this
    · unfold Zir at this; omega
    · simp at this; omega
  have rl : Row h2.length h2 a n (Zeg eI (Ztt w nd)) := by simpa using f.row Zsj
  have hll : (Ztt w nd).length = n := f.1
  have hin := Yop w nd
  have hwv : ∀ x ∈ Ztt w nd, Zdw w = true := fun x hx => by
    unfold Ztt at hx
    split at hx
    · rename_i h; simp only [Bool.and_eq_true] at h; exact h.1
    · cases hx
  generalize hlg : Ztt w nd = l at *
  refine Zdg.L3ind _ _ _ _ _ _ _ _ _ _ _ _ (J := fun (g : Nat) x20 h' => x20 = (g : Int) ∧ g ≤ n ∧ Zbd h2.length h2 h' ∧ (l.take g).find? (Ycm w l) = none) (fun g => n - g) ?_ 0 _ _ ⟨rfl, by omega, Zbd.refl _ _, rfl⟩
  rintro g x20 h' ⟨rfl, hg, hS, hk⟩ R hR
  unfold Zdg.L3t
  refine Zar (fun hlt => ?_) (fun hge => ?_)
  · obtain ⟨i, o, hgl, rfl, _, hr⟩ := (rl.same hS).i64 (k := g) (by omega)
    simp only [Zau, Int.toNat_natCast, hr, Zav]
    refine ⟨by omega, ?_⟩
    refine Zdg.L7ind _ _ _ _ _ _ _ _ _ _ _ _ _ _ _ _ _ _ _ _ (J := fun (q : Nat) x9 x26 h3 => x26 = (q : Int) ∧ q ≤ n ∧ Zbd h'.length h' h3 ∧ x9 = (l.take q).all fun k => Zra (Zmn w l[g]) (Zmn w k)) (fun q => n - q) ?_ 0 _ _ _ ⟨rfl, by omega, Zbd.refl _ _, rfl⟩
    rintro q x9 x26 h3 ⟨rfl, hq, hS3, rfl⟩ R7 hR7
    unfold Zdg.L7t
    have SS := hS.cat hS3
    refine Zar (fun hlt3 => ?_) (fun hge3 => ?_)
    · obtain ⟨i', o', hql, he, _, hr3⟩ := (rl.same SS).i64 (k := q) (by omega)
      cases he
      simp only [Zau, Int.toNat_natCast, hr3, Zav]
      have htk : (l.take (q + 1)).all (fun k => Zra (Zmn w l[g]) (Zmn w k)) = ((l.take q).all (fun k => Zra (Zmn w l[g]) (Zmn w k)) && Zra (Zmn w l[g]) (Zmn w l[q])) := by
        rw [List.take_succ_eq_append_getElem hql, List.all_append]; simp
      have go : ∀ (h4 : Zaa) (b9 : Bool), Zbd h3.length h3 h4 → b9 = (l.take (q + 1)).all (fun k => Zra (Zmn w l[g]) (Zmn w k)) → Zdg.J10 (fun v h' => v = Zaq.int .i64 (Yhq w nd) ∧ Zbd h.length h h') R R7 (q : Int) (((n : Nat) : Int)) (some (i, o)) n c e b9 h.length 0 l[g] (g : Int) (((n : Nat) : Int)) (some (i, o)) n c e (some (i, o)) n c e h4 := by
        intro h4 b9 s4 hb9
        apply Zdg.J10i
        rw [Zbt (by omega)]
        exact hR7 (q + 1) _ _ _ (by omega) ⟨rfl, by omega, hS3.cat s4, hb9⟩
      refine ⟨by omega, Zdi (fun hx => ?_) (fun hx => go _ _ (Zbd.refl _ _) (by rw [htk, hx]; rfl))⟩
      have w3 := SS.get w2 (Own.lt w2)
      rw [Zyv w3]
      simp only [Zas, Zah, Zan, Zaj]
      refine (Zzr (r.same (S2.cat SS)) b).mono ?_
      rintro v h4 ⟨rfl, s4⟩
      simp only [Zap]
      refine go _ _ s4 ?_
      rw [htk, hx, Ynr (hwv _ (List.getElem_mem hgl)) (hin _ (List.getElem_mem hgl)) (hin _ (List.getElem_mem hql))]; rfl
    · apply Zdg.A7x2i
      have : q = n := by omega
      subst this
      rw [List.take_of_length_le (by omega)]
      refine Zdi (fun ht => ?_) (fun ht => ?_)
      · refine ⟨?_, S2.cat SS⟩
        unfold Yhq Znd
        rw [hlg, Ybw hgl hk ht]
      · rw [Zbt (by omega)]
        exact hR (g + 1) _ _ (by omega) ⟨rfl, by omega, SS, Zri hgl hk ht⟩
  · apply Zdg.A3x0i
    have : g = n := by omega
    subst this
    rw [List.take_of_length_le (by omega)] at hk
    exact ⟨by unfold Yhq Znd; rw [hlg, hk], S2.cat hS⟩
end Go.Sim

set_option linter.unusedSimpArgs false
set_option linter.unusedVariables false
namespace Go.Sim

theorem Yjv {l : List Nd} {t u : List Nat} (h : Zff l t = some u) : Zoj u = true := by
  unfold Zff at h
  split at h
  · rename_i hc
    cases h
    simp only [Bool.and_eq_true, decide_eq_true_eq] at hc
    obtain ⟨a, ha⟩ := Zso hc.1.2
    obtain ⟨h1, h2, h3⟩ := Zfs.1 ha
    have := Zoc hc.1.1 h1
    rw [← h2] at this
    exact Zth.2 ⟨_, this.2, this.1, hc.2⟩
  · cases h
theorem Yig {i : Ins} {t : List Nat} {ms : List Nd} (h : Zho i t = some ms) : ms.length = i.2.length ∧ ∀ m ∈ ms, Zoj m.2 = true ∧ ∃ n ∈ i.2, m.1 = n.1 := by
  unfold Zho at h
  split at h
  · cases h
  · rename_i b hb
    split at h
    · rename_i hall
      cases h
      refine ⟨by simp, fun m hm => ?_⟩
      obtain ⟨n, hn, rfl⟩ := List.mem_map.1 hm
      have := List.all_eq_true.1 hall n hn
      obtain ⟨u, hu⟩ := Option.isSome_iff_exists.1 this
      have h2 := Yjv hu
      unfold Zff at hu
      split at hu
      · cases hu; exact ⟨h2, n, hn, rfl⟩
      · cases hu
    · cases h
theorem Yky {w : Wd} (hw : Zdw w = true) {i : Ins} (hi : i ∈ w.is) {t : List Nat} {ms : List Nd} (h : Zho i t = some ms) : ms.length ≤ 3 ∧ ∀ m ∈ ms, Zfk w m = true := by
  obtain ⟨h1, h2⟩ := Yig h
  unfold Zdw at hw
  simp only [Bool.and_eq_true, List.all_eq_true] at hw
  have h3 := hw.2 i hi
  unfold Zmr at h3
  simp only [Bool.and_eq_true, List.all_eq_true, decide_eq_true_eq] at h3
  refine ⟨by omega, fun m hm => ?_⟩
  obtain ⟨h4, n, hn, he⟩ := h2 m hm
  have h5 := h3.2 n hn
  unfold Zjl at h5
  simp only [Bool.and_eq_true] at h5
  unfold Zfk
  rw [h4, he, h5.1.1.1]; rfl
end Go.Sim

set_option linter.unusedVariables false
set_option linter.unusedSimpArgs false
set_option maxRecDepth 20000
namespace Go.Sim
open Go Go.RowKit

noncomputable def Yml (l : List Nd) : Bd := l.map fun p => (p.1.headD 0, (Zjh p.2).getD default)
theorem Zyy {l : List Nd} (h : Zhk l = true) {p : Nd} (hp : p ∈ l) : ∃ v t, p.1 = [v] ∧ Zdj v = true ∧ Zjh p.2 = some t := by
  obtain ⟨h1, h2⟩ := Zqu h hp
  obtain ⟨t, ht⟩ := Zso h2
  match hq : p.1 with
  | [] => rw [hq] at h1; cases h1
  | [v] => rw [hq] at h1; exact ⟨v, t, rfl, h1, ht⟩
  | _ :: _ :: _ => rw [hq] at h1; cases h1
theorem Ych : ∀ {l : List Nd}, (∀ p ∈ l, ∃ v t, p.1 = [v] ∧ Zdj v = true ∧ Zjh p.2 = some t) → ∀ c, Zhr (Yml l) c = Zpr l c
  | [], _, c => rfl
  | p :: l, h, c => by
    obtain ⟨v, t, h1, h2, h3⟩ := h p (by simp)
    have ih := Ych (l := l) (fun q hq => h q (by simp [hq])) c
    unfold Yml Zpr at ih ⊢
    simp only [List.map_cons, Zhr, h1, List.headD_cons, h3, Option.getD_some, List.find?_cons]
    by_cases e : v = c
    · subst e; simp [h3]
    · have : ¬ ([v] : List Nat) = [c] := fun x => e (by simpa using x)
      simp only [e, if_false, this, decide_false]
      exact ih
theorem Ylq {l : List Nd} (h : Zhk l = true) : ∀ (g : Nat) (hg : g < l.length) (k : Nat) (hk : k < g), (l[k]'(by omega)).1.headD 0 < l[g].1.headD 0
  | 0, _, k, hk => by omega
  | g + 1, hg, k, hk => by
    have h1 := (Zws h hg).2.2
    rcases h1 with h1 | h1
    · omega
    · rw [Nat.add_sub_cancel, Zfi (by omega)] at h1
      obtain ⟨v, t, hv, _⟩ := Zyy h (List.getElem_mem (h := hg))
      obtain ⟨u, t', hu, _⟩ := Zyy h (List.getElem_mem (l := l) (n := g) (h := by omega))
      rw [hv, hu, Zww] at h1
      have h2 : u < v := of_decide_eq_true h1
      by_cases e : k = g
      · subst e; rw [hv, hu]; exact h2
      · have := Ylq h g (by omega) k (by omega)
        rw [hu] at this; rw [hv]
        simp only [List.headD_cons] at this ⊢; omega
theorem Yhr {l : List Nd} (h : Zhk l = true) {g v : Nat} (hg : g < l.length) (hv : l[g].1 = [v]) : Zhr (Yml (l.take g)) v = none := by
  rw [Ztc]
  intro hm
  unfold Yml at hm
  rw [List.map_map] at hm
  obtain ⟨p, hp, he⟩ := List.mem_map.1 hm
  obtain ⟨k, hk, rfl⟩ := List.getElem_of_mem hp
  simp only [List.length_take] at hk
  have := Ylq h g hg k (by omega)
  rw [hv] at this
  simp only [Function.comp_def, List.getElem_take, List.headD_cons] at he this
  omega
theorem Zsv.mono {S S' : Nat → Prop} {h : Zaa} {i : Nat} {m : Bd} (r : Zsv S h i m) (hs : ∀ j, S j → S' j) : Zsv S' h i m := by
  obtain ⟨rows, h1, h2, h3⟩ := r
  refine ⟨rows, h1, h2, fun k x hx => ?_⟩
  have := h3 k x hx
  split at this
  · exact this.mono hs
  · exact this
theorem Zsv.below {S : Nat → Prop} {h : Zaa} {i : Nat} {m : Bd} (r : Zsv S h i m) : Zsv (fun j => S j ∧ j < h.length) h i m := by
  obtain ⟨rows, h1, h2, h3⟩ := r
  refine ⟨rows, h1, h2, fun k x hx => ?_⟩
  have := h3 k x hx
  split at this
  · exact Zhv.below this
  · exact this
theorem Ztn {h : Zaa} {a : Pt} {n c : Nat} {e : Bool} {l : List Nd} {t : List Nat} (r : Row h.length h a (n * 2) (Zeg eP l)) (hn : n ≤ 1048576) (hb : ∀ p ∈ l, p.2.length ≤ 1048576) (hb1 : ∀ p ∈ l, ∀ x ∈ p.1, x < 256) (ht : t.length ≤ 1048576) :
    Zag pg Zid [.slice a n c e, .str t] h fun v h' => v = Zmq l t ∧ Zbd h.length h h' := by
  have hl : l.length = n := by have := r.1; rw [Zbb Zdd] at this; omega
  apply Zek.call
  refine (Zpy t (by omega) h).mono ?_
  rintro v h1 ⟨s1, vs1, rfl, r1⟩
  obtain ⟨d1, a1, n1, c1, e1, rfl⟩ := Zqm r1
  simp only [Zde, Zah, Zdp, Zav, Zaj, Zan, Zap, Zax]
  rw [Zhm]
  generalize hh2 : h1 ++ [Zcg.cells Zaf [.int .u8 d1, .slice a1 n1 c1 e1] false] = h2
  have s2 : Zbd h1.length h1 h2 := by rw [← hh2]; exact Zam
  have o2 : h2[h1.length]? = some (.cells Zaf [.int .u8 d1, .slice a1 n1 c1 e1] false) := by rw [← hh2]; simp
  have S2 := s1.cat s2
  simp only [Zba]
  cases hto : Zoj t with
  | false =>
    simp only [Bool.not_false, Zcu]
    exact ⟨by unfold Zmq Zff; rw [hto]; simp, S2⟩
  | true =>
  simp only [Bool.not_true, Zbn]
  obtain ⟨u, hu⟩ := Zso hto
  obtain ⟨hu1, hu2, hu3⟩ := Zfs.1 hu
  rw [hu] at r1
  simp only at r1
  refine (Zue (r.same' S2) hn hb hb1).mono ?_
  rintro v h3 ⟨rfl, s3⟩
  simp only [Zap]
  have S3 := S2.cat s3
  refine Zbp (fun b1 => ⟨by unfold Zmq Zff; rw [b1]; rfl, S3⟩) (fun b1 => ?_)
  apply Zek.J4i
  simp only [Zax]
  rw [← Yiy]
  generalize hh4 : h3 ++ [Zcg.cells Zfl (Zeg eR (List.replicate 12 (Zaq.int .u8 0, Zaq.slice none 0 0 true))) false] = h4
  have s4 : Zbd h3.length h3 h4 := by rw [← hh4]; exact Zam
  have o4 : h4[h3.length]? = some (.cells Zfl (Zeg eR (List.replicate 12 (Zaq.int .u8 0, Zaq.slice none 0 0 true))) false) := by rw [← hh4]; simp
  have l4 : h4.length = h3.length + 1 := by rw [← hh4]; simp
  have hone : ∀ p ∈ l, ∃ v t, p.1 = [v] ∧ Zdj v = true ∧ Zjh p.2 = some t := fun p hp => Zyy b1 hp
  have o3 := s3.get o2 (Own.lt o2)
  refine Zek.L6ind _ _ _ _ _ _ _ _ _ _ (J := fun (g : Nat) x28 h' => x28 = (g : Int) ∧ g ≤ n ∧ Zbd h3.length h3 h' ∧ h4.length ≤ h'.length ∧ Zsv (fun j => j ≠ h3.length) h' h3.length (Yml (l.take g))) (fun g => n - g) ?_ 0 _ _ ⟨rfl, by omega, s4, Nat.le_refl _, Zsv.nil o4⟩
  rintro g x28 h' ⟨rfl, hg, hS, hl4, rm⟩ R hR
  have SS := S3.cat hS
  unfold Zek.L6t
  refine Zar (fun hlt => ?_) (fun hge => ?_)
  · obtain ⟨i, o, hgl, rfl, hi, hr, _, _⟩ := (r.same SS).pr (k := g) (by omega)
    obtain ⟨v, tt, hv1, hv2, hv3⟩ := hone _ (List.getElem_mem hgl)
    obtain ⟨ht1, ht2, ht3⟩ := Zfs.1 hv3
    simp only [Zau, Int.toNat_natCast, hr, Zas, Zah, Zan, Zai, Zax]
    rw [Zhm]
    generalize hq : h' ++ [Zcg.cells Zbh [.str l[g].1, .str l[g].2] false] = hq'
    have sq : Zbd h'.length h' hq' := by rw [← hq]; exact Zam
    have oq : hq'[h'.length]? = some (.cells Zbh [.str l[g].1, .str l[g].2] false) := by rw [← hq]; simp
    have hlq := sq.le
    rw [hv1] at oq
    simp only [Zba, Zak oq, Nat.zero_add, List.getElem?_cons_succ, List.getElem?_cons_zero, Zai]
    refine ⟨by omega, by simp, ?_⟩
    simp only [Int.toNat_zero, List.getD_cons_zero]
    refine (Ztz v).mono ?_
    rintro v' h5 ⟨rfl, rfl⟩
    obtain ⟨k, hk6, hkv, hix⟩ := Zwy hv2
    simp only [hix, Zav, Zak oq, List.getElem?_cons_succ, List.getElem?_cons_zero, true_and]
    refine (Zpy l[g].2 (by omega) h5).mono ?_
    rintro v' h6 ⟨s6, vs6, rfl, r6⟩
    obtain ⟨d6, a6, n6, c6, e6, rfl⟩ := Zqm r6
    rw [hv3] at r6
    simp only at r6
    have hl6 := s6.le
    have ho6 : Zae h6 (.ptr (some (h'.length, 0))) = Zae h5 (.ptr (some (h'.length, 0))) := by simp only [Zae, s6.eq _ (Own.lt oq)]
    simp only [Zde, Zah, Zdp, Zav, Zaj, Zan, Zap, ho6, true_and]
    have rm6 := (rm.same sq).same s6
    obtain ⟨h7, hst, hK, rm7⟩ := rm6.put (fun j hj => hj) hkv (Yhr b1 hgl hv1) (r6.mono fun j hj => by have := hj.1; omega)
    rw [Int.toNat_natCast, Nat.zero_add] at *
    rw [hst]
    simp only [Zba]
    rw [Zbt (by omega)]
    have hK7 := hK.le
    refine ⟨by rw [Zak oq]; rfl, ⟨by omega, by omega⟩, hR (g + 1) _ _ (by omega) ⟨rfl, by omega, ⟨by omega, fun j hj => ?_⟩, by omega, ?_⟩⟩
    · rw [hK.eq j (by omega) (by omega), s6.eq j (by omega), sq.eq j (by omega), hS.eq j hj]
    · have : Yml (l.take (g + 1)) = Yml (l.take g) ++ [(v, tt)] := by
        unfold Yml
        rw [List.take_succ_eq_append_getElem hgl, List.map_append]
        simp [hv1, hv3]
      rw [this]; exact rm7
  · apply Zek.A6x0i
    have : g = n := by omega
    subst this
    rw [List.take_of_length_le (by omega)] at rm
    have hS3 := S3.le
    have h31 : h1.length ≤ h3.length := (s2.cat s3).le
    have o5 := hS.get o3 (Own.lt o3)
    simp only [Zds o5 (show 0 + 2 ≤ _ by simp), List.drop_zero, List.take_succ_cons, List.take_zero, Zas, Zah, Zan, Zav, Zaj]
    have hbm : ∀ c, Zhr (Yml l) c = Zpr l c := Ych hone
    have rt := (((r1.same s2).same s3).same hS).mono (S' := fun j => j ≠ h3.length) (fun j hj => by have := hj.2; omega)
    refine (Yfb _ (Nat.le_refl _) hu1 (S := fun j => j ≠ h3.length ∧ j < h'.length) (fun j hj => ⟨hj.2, hj.1⟩) rt.below rm.below (fun v w hw => ?_) (fun v hv => ?_)).mono ?_
    · rw [hbm] at hw; exact ((Zub b1 v).2 w hw).1
    · rw [hbm]; exact (Ztg b1 hv).2
    rintro v h6 ⟨s6, nv, rfl, hn6⟩
    rw [show Zhr (Yml l) = Zpr l from funext hbm] at hn6
    obtain ⟨na, nc, ne, rfl⟩ := hn6.shape
    have hat := Zoc b1 hu1
    rw [← hu2] at hat
    have hal := Zua b1 t
    simp only [Zdp, Zah, Zav, Zaj, Zan, Zax]
    rw [Zhm]
    generalize hh7 : h6 ++ [Zcg.cells Zaf [.int .u8 ((subst (Zpr l) u).hd : Int), .slice na (subst (Zpr l) u).ps.length nc ne] false] = h7
    have s7 : Zbd h6.length h6 h7 := by rw [← hh7]; exact Zam
    have o7 : h7[h6.length]? = some (.cells Zaf [.int .u8 ((subst (Zpr l) u).hd : Int), .slice na (subst (Zpr l) u).ps.length nc ne] false) := by rw [← hh7]; simp
    have S7 := (SS.cat s6).cat s7
    simp only [Zba, Zds o7 (show 0 + 2 ≤ _ by simp), List.drop_zero, List.take_succ_cons, List.take_zero, Zas, Zah, Zan, Zav, Zaj]
    refine (Zrz _ (Nat.le_refl _) (by rw [← hat.1]; omega) (hn6.same s7)).mono ?_
    rintro v h8 ⟨rfl, s8⟩
    have o8 := s8.get o7 (Own.lt o7)
    simp only [Zav]
    rw [← hat.1]
    refine Zar (fun hbig => ⟨by unfold Zmq Zff; rw [if_neg (by simp; omega)], S7.cat s8⟩) (fun hsm => ?_)
    simp only [Zds o8 (show 0 + 2 ≤ _ by simp), List.drop_zero, List.take_succ_cons, List.take_zero, Zas, Zah, Zan, Zav, Zaj]
    refine (Zqe _ (Nat.le_refl _) (by rw [← hat.1]; omega) hat.2 ((hn6.same s7).same s8)).mono ?_
    rintro v h9 ⟨rfl, s9⟩
    simp only [Zai]
    refine ⟨?_, (S7.cat s8).cat s9⟩
    unfold Zmq Zff
    rw [if_pos (by rw [b1, hto]; simp; omega), hat.1]
theorem Zzs (p s : List Nat) : (∀ q ∈ Zjv p s, q.2.length ≤ 1048576) ∧ (∀ q ∈ Zjv p s, ∀ x ∈ q.1, x < 256) ∧ (Zjv p s).length ≤ 6 := by
  unfold Zjv
  cases hm : Zkf p s with
  | none => simp
  | some m =>
    have b := Zxh hm
    refine ⟨fun q hq => ?_, fun q hq x hx => ?_, Yke m⟩
    · have hq' := Zqu (Yho b) hq
      have := Zyz hq'.2; omega
    · simp only [Yfc, List.mem_map, List.mem_filter] at hq
      obtain ⟨v, ⟨hv, _⟩, rfl⟩ := hq
      simp at hx; subst hx
      have := (Zpq x).1 hv
      simp only [Zdj, Bool.or_eq_true, beq_iff_eq] at this; omega
theorem Ymf {h : Zaa} {a : Pt} {n c : Nat} {e : Bool} {i : Ins} {t : List Nat} (r : Row h.length h a (n * 2) (Zeg eP i.2)) (hn : n ≤ 1048576) (hi : i.1.2.length ≤ 1048576) (ht : t.length ≤ 1048576) (hns : ∀ p ∈ i.2, p.2.length ≤ 1048576) :
    Zag pg Zgz [.agg [.str i.1.1, .str i.1.2, .slice a n c e], .str t] h (Yly i t h) := by
  have hl : i.2.length = n := by have := r.1; rw [Zbb Zdd] at this; omega
  apply Zip.call
  simp only [Zax]
  generalize hh0 : h ++ [Zcg.cells Zao [.str i.1.1, .str i.1.2, .slice a n c e] false] = h0
  generalize hh1 : h0 ++ [Zcg.cells Zab [] false] = h1
  have s0 : Zbd h.length h h0 := by rw [← hh0]; exact Zam
  have s1 : Zbd h0.length h0 h1 := by rw [← hh1]; exact Zam
  have o0 : h0[h.length]? = some (.cells Zao [.str i.1.1, .str i.1.2, .slice a n c e] false) := by rw [← hh0]; simp
  have x1 := s1.get o0 (Own.lt o0)
  have o1 : h1[h0.length]? = some (.cells Zab [] false) := by rw [← hh1]; simp
  have l0 : h0.length = h.length + 1 := by rw [← hh0]; simp
  simp only [Zak x1, Nat.zero_add, List.getElem?_cons_succ, List.getElem?_cons_zero, Zai]
  refine (Ztb i.1.2 t hi ht h1).mono ?_
  rintro v h2 ⟨s2, ma, mn, mc, me, rfl, hmc, fm⟩
  simp only [Zde, Zah, Zaj, Zap, Zan]
  have S2 := (s0.cat s1).cat s2
  have o2 := s2.get o1 (Own.lt o1)
  have x2 := s2.get x1 (Own.lt x1)
  obtain ⟨hmb1, hmb2, hml⟩ := Zzs i.1.2 t
  have hmn := fm.1
  have hS1le : h.length ≤ h1.length := (s0.cat s1).le
  have hnw0 : Zpj i.1.2 t = false → Zho i t = none := fun hno => by
    unfold Zho Zpj at *
    cases hm : Zkf i.1.2 t with
    | none => rfl
    | some m => rw [hm] at hno; cases hno
  refine Zbp (fun b1 => ⟨S2, _, 0, 0, true, by rw [hnw0 b1]; rfl, by rw [hnw0 b1]; exact ⟨rfl, .inl rfl⟩⟩) (fun b1 => ?_)
  simp only [Zak x2, List.getElem?_cons_succ, List.getElem?_cons_zero, Zaj]
  have hnw : Zho i t = if i.2.all (fun p => (Zff (Zjv i.1.2 t) p.2).isSome) then some (i.2.map (Yoy (Zjv i.1.2 t))) else none := by
    unfold Zho Zpj at *
    cases hm : Zkf i.1.2 t with
    | none => rw [hm] at b1; cases b1
    | some m =>
      have hml' : Zjv i.1.2 t = bdL m := by unfold Zjv; rw [hm]
      simp only [hml']
      by_cases hall : i.2.all (fun p => (Zff (bdL m) p.2).isSome) = true
      · rw [if_pos hall, if_pos hall, Yff hall]
      · rw [if_neg hall, if_neg hall]
  generalize Zjv i.1.2 t = ml at *
  refine Zip.L6ind _ _ _ _ _ _ _ _ _ _ (J := fun (g : Nat) a8 n8 c8 e8 x28 h' => x28 = (g : Int) ∧ g ≤ n ∧ Zbd h.length h h' ∧ h2.length ≤ h'.length ∧ Row h'.length h' ma (mn * 2) (Zeg eP ml) ∧ (i.2.take g).all (fun p => (Zff ml p.2).isSome) = true ∧ n8 = g ∧ Vec Zab h' a8 n8 c8 (Zeg eP ((i.2.take g).map (Yoy ml))) ∧ (∀ j, a8 = some (j, 0) → j = h0.length ∨ h2.length ≤ j)) (fun g => n - g) ?_ 0 _ _ _ _ _ _
    ⟨rfl, by omega, S2, Nat.le_refl _, fm.row Zdd, rfl, rfl, Vec.mk1 (by simpa using o2), fun j hj => by cases hj; exact .inl rfl⟩
  rintro g a8 n8 c8 e8 x28 h' ⟨rfl, hg, hS, hl1, hrm, hall, rfl, hv, ha⟩ R hR
  unfold Zip.L6t
  have hl2 : h1.length ≤ h2.length := s2.le
  refine Zar (fun hlt => ?_) (fun hge => ?_)
  · obtain ⟨j, o, hgl, rfl, hj, hr, _, _⟩ := (r.same hS).pr (k := n8) (by omega)
    simp only [Zau, Int.toNat_natCast, hr, Zas, Zah, Zan, Zai, Zax]
    rw [Zhm]
    generalize hq : h' ++ [Zcg.cells Zab [.str i.2[n8].1, .str i.2[n8].2] false] = hq'
    have sq : Zbd h'.length h' hq' := by rw [← hq]; exact Zam
    have oq : hq'[h'.length]? = some (.cells Zab [.str i.2[n8].1, .str i.2[n8].2] false) := by rw [← hq]; simp
    simp only [Zba, Zak oq, Nat.zero_add, List.getElem?_cons_succ, List.getElem?_cons_zero, Zai]
    refine ⟨by omega, (Ztn (hrm.same' sq) (by omega) hmb1 hmb2 (hns _ (List.getElem_mem hgl))).mono ?_⟩
    rintro v h3 ⟨rfl, s3⟩
    have hshape : Zmq ml i.2[n8].2 = .tup [.str ((Zff ml i.2[n8].2).getD []), .bool (Zff ml i.2[n8].2).isSome] := by
      unfold Zmq; cases Zff ml i.2[n8].2 <;> rfl
    rw [hshape]
    simp only [Zde, Zah, Zai, Zap, Zan]
    have S3 := (hS.cat sq).cat s3
    have o3 := s3.get oq (Own.lt oq)
    refine Zbp (fun b2 => ?_) (fun b2 => ?_)
    · have : Zho i t = none := by rw [hnw, Zpz hgl b2]; rfl
      exact ⟨S3.cat Zam, _, 0, 0, true, by rw [this]; rfl, by rw [this]; exact ⟨rfl, .inl rfl⟩⟩
    · simp only [Zak o3, List.getElem?_cons_zero, Zai]
      refine ((hv.same sq).same s3).pushN Ycj Yli Ykh Ykv (by rw [Zbb Zdd]; simp; omega) rfl (by omega) rfl (by omega) (fun h6 hl6 hi6 hk6 => ?_)
      simp only [Zaj]
      rw [Zbt (by omega)]
      have hle := S3.le
      have hlq := sq.le
      have hl3 := s3.le
      have hb8 : ∀ j, a8 = some (j, 0) → h.length ≤ j := fun j hj => by rcases ha j hj with hh | hh <;> omega
      have hlast : ∀ j, (some (h3.length + 1, 0) : Pt) = some (j, 0) → j = h0.length ∨ h2.length ≤ j := fun j hj => by
        cases hj
        exact .inr (by omega)
      refine hR (n8 + 1) _ _ _ _ _ _ (by omega) ⟨rfl, by omega, ⟨by omega, fun j hj => ?_⟩, by omega, ?_, Zfv hgl hall b2, rfl, Vec.mk1 ?_, hlast⟩
      · rw [hk6 j (by omega) fun q hq => by have := hb8 q hq; omega]; exact S3.eq j hj
      · have hr3 := (hrm.same' sq).same' s3
        obtain ⟨hx1, hx2⟩ := hr3
        rcases fm.2 with h0' | ⟨q2, hq2, hqb2, hq3⟩
        · exact ⟨hx1, .inl (by omega)⟩
        · refine ⟨hx1, hx2.imp id ?_⟩
          rintro ⟨q, o', ty, all, ro, hqa, hqb, hqg, hq4, hq5⟩
          refine ⟨q, o', ty, all, ro, hqa, by omega, ?_, hq4, hq5⟩
          rw [hk6 q hqb fun q' hq' => ?_]
          · exact hqg
          · intro e
            subst e
            rw [hqa] at hq2; cases hq2
            have := Own.lt hq3
            rcases ha _ hq' with hh | hh
            · have := Own.lt o1; omega
            · omega
      · rw [hi6, List.take_succ_eq_append_getElem hgl, List.map_append, Zgt]; rfl
  · apply Zip.A6x0i
    have : n8 = n := by omega
    subst this
    rw [show i.2.take n8 = i.2 from List.take_of_length_le (by omega)] at hv hall
    have : Zho i t = some (i.2.map (Yoy ml)) := by rw [hnw, hall]; rfl
    refine ⟨hS, a8, n8, c8, e8, by rw [this]; rfl, ?_⟩
    rw [this]
    exact hv.fresh (b := h.length) (by simp; omega) fun j hj => by rcases ha j hj with hh | hh <;> omega
end Go.Sim

set_option linter.unusedSimpArgs false
set_option linter.unusedVariables false
namespace Go.Sim

def Up (cs : List Nd) (a b : Nat) : Prop := ∃ i, ∃ h : i < cs.length, cs[i].1 = [a] ∧ b ∈ cs[i].2
inductive Rch (cs : List Nd) (a : Nat) : Nat → Prop
  | one {b : Nat} : Up cs a b → Rch cs a b
  | more {b c : Nat} : Rch cs a b → Up cs b c → Rch cs a c
theorem Zzo {cs : List Nd} (h : Zki cs = true) {i : Nat} (hi : i < cs.length) : Zxw cs i = true := by
  unfold Zki at h
  simp only [Bool.and_eq_true, List.all_eq_true] at h
  exact h.1 i (List.mem_range.2 hi)
theorem Ynq {cs : List Nd} (h : Zki cs = true) {i : Nat} (hi : i < cs.length) : ∃ d, cs[i].1 = [d] ∧ 65 ≤ d ∧ d ≤ 84 := by
  have := Zzo h hi
  unfold Zxw at this
  rw [Zfi hi] at this
  simp only [Bool.and_eq_true] at this
  have h1 := this.1.1
  unfold Zuu at h1
  split at h1
  · rename_i d hd; exact ⟨d, hd, by simpa using h1⟩
  · cases h1
theorem Yas {cs : List Nd} (h : Zki cs = true) {i : Nat} (hi : i + 1 < cs.length) {a b : Nat} (ha : cs[i].1 = [a]) (hb : cs[i + 1].1 = [b]) : a < b := by
  have := Zzo h hi
  unfold Zxw at this
  rw [Zfi hi, Nat.add_sub_cancel, Zfi (by omega), ha, hb] at this
  simp only [Bool.and_eq_true] at this
  have h1 := this.1.2
  simpa [Zec] using h1
theorem Yae {cs : List Nd} (h : Zki cs = true) : ∀ (k i : Nat) (hi : i + k + 1 < cs.length) {a b : Nat}, cs[i].1 = [a] → cs[i + k + 1].1 = [b] → a < b
  | 0, i, hi, a, b, ha, hb => Yas h hi ha hb
  | k + 1, i, hi, a, b, ha, hb => by
    obtain ⟨d, hd, _⟩ := Ynq h (show i + k + 1 < cs.length by omega)
    have h1 := Yae h k i (by omega) ha hd
    have h2 := Yas h (i := i + k + 1) (by omega) hd hb
    omega
theorem Ydq {cs : List Nd} (h : Zki cs = true) {i j : Nat} (hi : i < cs.length) (hj : j < cs.length) {a : Nat} (ha : cs[i].1 = [a]) (hb : cs[j].1 = [a]) : i = j := by
  rcases Nat.lt_trichotomy i j with hl | he | hl
  · obtain ⟨k, rfl⟩ : ∃ k, j = i + k + 1 := ⟨j - i - 1, by omega⟩
    have := Yae h k i hj ha hb; omega
  · exact he
  · obtain ⟨k, rfl⟩ : ∃ k, i = j + k + 1 := ⟨i - j - 1, by omega⟩
    have := Yae h k j hi hb ha; omega
theorem Zsr {cs : List Nd} (h : Zki cs = true) {i : Nat} (hi : i < cs.length) {b : Nat} (hb : b ∈ cs[i].2) : ∃ j, ∃ hj : j < i, cs[j].1 = [b] := by
  have := Zzo h hi
  unfold Zxw at this
  rw [Zfi hi] at this
  simp only [Bool.and_eq_true] at this
  have h1 := this.2
  unfold Yce at h1
  rw [List.all_eq_true] at h1
  obtain ⟨k, hk, rfl⟩ := List.mem_iff_getElem.1 hb
  have h2 := h1 k (List.mem_range.2 hk)
  unfold Zxo at h2
  rw [Zfi hk] at h2
  simp only [Bool.and_eq_true] at h2
  have h3 := h2.1
  unfold Zhe at h3
  rw [List.any_eq_true] at h3
  obtain ⟨x, hx, he⟩ := h3
  obtain ⟨j, hj, rfl⟩ := List.mem_iff_getElem.1 hx
  rw [List.length_take] at hj
  exact ⟨j, by omega, by simpa using he⟩
theorem Up.ix {cs : List Nd} (h : Zki cs = true) {a b i : Nat} (u : Up cs a b) (hi : i < cs.length) (ha : cs[i].1 = [a]) : b ∈ cs[i].2 := by
  obtain ⟨j, hj, hja, hb⟩ := u
  have := Ydq h hi hj ha hja
  subst this; exact hb
theorem Rch.ix {cs : List Nd} (h : Zki cs = true) {a b i : Nat} (r : Rch cs a b) (hi : i < cs.length) (ha : cs[i].1 = [a]) : ∃ j, ∃ hj : j < i, cs[j].1 = [b] := by
  induction r with
  | one u => exact Zsr h hi (u.ix h hi ha)
  | more _ u ih =>
    obtain ⟨j, hj, hb⟩ := ih
    obtain ⟨k, hk, hc⟩ := Zsr h (show j < cs.length by omega) (u.ix h (by omega) hb)
    exact ⟨k, by omega, hc⟩
structure Yao (cs : List Nd) (a : Nat) (i : Nat) (ab : List Nat) : Prop where
  sound : ∀ d ∈ ab, Rch cs a d
  done : ∀ j, i ≤ j → ∀ hj : j < cs.length, (cs[j].1 = [a] ∨ ∃ d, cs[j].1 = [d] ∧ d ∈ ab) → ∀ b ∈ cs[j].2, b ∈ ab
theorem Yao.step {cs : List Nd} (h : Zki cs = true) {a i : Nat} {ab : List Nat} (D : Yao cs a (i + 1) ab) (hi : i < cs.length) (hc : cs[i].1 = [a] ∨ ∃ d, cs[i].1 = [d] ∧ d ∈ ab) : Yao cs a i (ab ++ cs[i].2) := by
  refine ⟨fun d hd => ?_, fun j hj hjl hcj b hb => ?_⟩
  · rcases List.mem_append.1 hd with hd | hd
    · exact D.sound d hd
    · rcases hc with hc | ⟨e, he, hm⟩
      · exact .one ⟨i, hi, hc, hd⟩
      · exact .more (D.sound e hm) ⟨i, hi, he, hd⟩
  · by_cases hji : j = i
    · subst hji; exact List.mem_append_right _ hb
    · refine List.mem_append_left _ (D.done j (by omega) hjl ?_ b hb)
      rcases hcj with hcj | ⟨e, he, hm⟩
      · exact .inl hcj
      · rcases List.mem_append.1 hm with hm | hm
        · exact .inr ⟨e, he, hm⟩
        · exfalso
          obtain ⟨k, hk, hke⟩ := Zsr h hi hm
          have := Ydq h hjl (show k < cs.length by omega) he hke
          omega
theorem Yao.skip {cs : List Nd} {a i : Nat} {ab : List Nat} (D : Yao cs a (i + 1) ab) (hc : ∀ hi : i < cs.length, ¬ (cs[i].1 = [a] ∨ ∃ d, cs[i].1 = [d] ∧ d ∈ ab)) : Yao cs a i ab :=
  ⟨D.sound, fun j hj hjl hcj b hb => by
    by_cases hji : j = i
    · subst hji; exact absurd hcj (hc hjl)
    · exact D.done j (by omega) hjl hcj b hb⟩
theorem Yao.all {cs : List Nd} (h : Zki cs = true) {a i : Nat} {ab : List Nat} (D : Yao cs a 0 ab) (hi : i < cs.length) (ha : cs[i].1 = [a]) (d : Nat) : d ∈ ab ↔ Rch cs a d := by
  refine ⟨D.sound d, fun r => ?_⟩
  induction r with
  | one u => exact D.done i (by omega) hi (.inl ha) _ (u.ix h hi ha)
  | more r u ih =>
    obtain ⟨j, hj, hb⟩ := r.ix h hi ha
    exact D.done j (by omega) (by omega) (.inr ⟨_, hb, ih⟩) _ (u.ix h (by omega) hb)
structure Yrv (cs : List Nd) (a i : Nat) (r : Nat) (ab : List Nat) : Prop where
  sound : ∀ d ∈ ab, Rch cs a d
  first : ∀ d, Up cs a d → d ∈ ab
  near : ∀ j, j < i → i ≤ j + 1 + r → ∀ hj : j < cs.length, ∀ d, cs[j].1 = [d] → Rch cs a d → d ∈ ab
theorem Yrv.next {cs : List Nd} (h : Zki cs = true) {a i r : Nat} {ab ab' : List Nat} (R : Yrv cs a i r ab) (hi : i < cs.length) (ha : cs[i].1 = [a])
    (hs : ∀ d ∈ ab', d ∈ ab ∨ ∃ e ∈ ab, Up cs e d) (hc : ∀ d, (d ∈ ab ∨ ∃ e ∈ ab, Up cs e d) → d ∈ ab') : Yrv cs a i (r + 1) ab' := by
  refine ⟨fun d hd => ?_, fun d u => hc d (.inl (R.first d u)), fun j hj hn hjl d hd rc => ?_⟩
  · rcases hs d hd with hd | ⟨e, he, u⟩
    · exact R.sound d hd
    · exact .more (R.sound e he) u
  · cases rc with
    | one u => exact hc d (.inl (R.first d u))
    | more rc u =>
      rename_i e
      obtain ⟨k, hk, hb⟩ := rc.ix h hi ha
      have hjk : j < k := by
        obtain ⟨q, hq, hcq⟩ := Zsr h (show k < cs.length by omega) (u.ix h (by omega) hb)
        have := Ydq h hjl (show q < cs.length by omega) hd hcq
        omega
      exact hc d (.inr ⟨e, R.near k hk (by omega) (by omega) e hb rc, u⟩)
theorem Yrv.all {cs : List Nd} (h : Zki cs = true) {a i r : Nat} {ab : List Nat} (R : Yrv cs a i r ab) (hi : i < cs.length) (ha : cs[i].1 = [a]) (hr : i ≤ r + 1) (d : Nat) : d ∈ ab ↔ Rch cs a d := by
  refine ⟨R.sound d, fun rc => ?_⟩
  obtain ⟨j, hj, hd⟩ := rc.ix h hi ha
  exact R.near j hj (by omega) (by omega) d hd rc
end Go.Sim

set_option linter.unusedVariables false
set_option linter.unusedSimpArgs false
set_option maxRecDepth 20000
namespace Go.Sim
open Go Go.RowKit

end Go.Sim

set_option linter.unusedVariables false
set_option linter.unusedSimpArgs false
set_option maxRecDepth 20000
namespace Go.Sim
open Go Go.RowKit

end Go.Sim
