/- A part of the proof of a statement of this seat: see the text that holds the theorem. No condition. -/
import Derived.Test.YtpbfjfcildpehaaGreatDoorPTCSApply
import Derived.Test.YtpbfjfcildpehaaGreatDoorCSMatch2
import Derived.Test.YtpbfjfcildpehaaGreatDoorPMatch
import Derived.Test.YtpbfjfcildpehaaGreatDoorPTCFind
import Derived.Test.YtpbfjfcildpehaaGreatDoorNm
import Derived.Test.YtpbfjfcildpehaaGreatDoorCWRep
set_option linter.unusedVariables false
set_option linter.unusedSimpArgs false
set_option linter.all false
set_option linter.unusedVariables false
set_option linter.unusedSimpArgs false
set_option maxRecDepth 20000
namespace Go.Sim
open Go Go.RowKit

theorem isVarS_len {s : List Nat} (h : ((s.length : Nat) : Int) ≠ 1) : isVarS s = false := by
  match s, h with
  | [], _ => rfl
  | [x], h => exact absurd rfl h
  | _ :: _ :: _, _ => rfl
theorem one_of {s : List Nat} (h : ((s.length : Nat) : Int) = 1) : ∃ v, s = [v] := by
  match s, h with
  | [], h => simp at h
  | [x], _ => exact ⟨x, rfl⟩
  | _ :: _ :: _, h => simp at h; omega
theorem sBindingsValid_ok {h : AHeap} {a : Pt} {n c : Nat} {e : Bool} {l : List Nd} (r : Row h.length h a (n * 2) (flat eP l)) (hn : n ≤ 1048576) (hb : ∀ p ∈ l, p.2.length ≤ 1048576) (hb1 : ∀ p ∈ l, ∀ x ∈ p.1, x < 256) :
    SCall pg n_spec_BindingsValid [.slice a n c e] h fun v h' => v = .bool (bindOk l) ∧ Same h.length h h' := by
  have hl : l.length = n := by have := r.1; rw [flat_length eP_len] at this; omega
  apply F_spec_BindingsValid.call
  refine F_spec_BindingsValid.L2ind _ _ _ _ _ _ _ _ _ _ (J := fun (g : Nat) x7 h' => x7 = (g : Int) ∧ g ≤ n ∧ Same h.length h h' ∧ (List.range g).all (bindAt l) = true) (fun g => n - g) ?_ 0 _ _ ⟨rfl, by omega, Same.refl _ _, rfl⟩
  rintro g x7 h' ⟨rfl, hg, hS, hk⟩ R hR
  unfold F_spec_BindingsValid.L2t
  refine bcase_dec (fun hlt => ?_) (fun hge => ?_)
  · obtain ⟨i, o, hgl, rfl, hi, hr, _, _⟩ := (r.same hS).pr (k := g) (by omega)
    have hat : bindAt l g = (isVarS l[g].1 && tyOk l[g].2 && (g == 0 || natLess (l.getD (g - 1) ([], [])).1 l[g].1)) := by unfold bindAt; rw [getD_at hgl]
    have no : bindAt l g = false → bindOk l = false := fun hno => range_not_all hgl hno
    have hbg := hb _ (List.getElem_mem hgl)
    have hbg1 := hb1 _ (List.getElem_mem hgl)
    simp only [xSome_some, Int.toNat_natCast, hr, xRow_some, xCons_cons, xNil_nil, xStr_some, letH_def]
    rw [store2]
    generalize hq : h' ++ [AObj.cells t_impl_Binding [.str l[g].1, .str l[g].2] false] = hq'
    have sq : Same h'.length h' hq' := by rw [← hq]; exact same_last
    have oq : hq'[h'.length]? = some (.cells t_impl_Binding [.str l[g].1, .str l[g].2] false) := by rw [← hq]; simp
    have Sq := hS.cat sq
    simp only [xHeap_some, hCell_of oq, Nat.zero_add, List.getElem?_cons_succ, List.getElem?_cons_zero, xStr_some, true_and]
    refine ⟨by omega, bcase_nbeq (fun b0 => ⟨by rw [no (by rw [hat, isVarS_len b0]; rfl)], Sq⟩) (fun b0 => ?_)⟩
    obtain ⟨v, hv⟩ := one_of b0
    rw [hv] at hbg1
    have hvl := hbg1 v (by simp)
    rw [hv]
    refine ⟨by simp, ?_⟩
    simp only [Int.toNat_zero, List.getD_cons_zero]
    refine (l1Variable_ok v).mono ?_
    rintro v' h2 ⟨rfl, rfl⟩
    simp only [xBool_some]
    have hiv : isVarS l[g].1 = isVarN v := by rw [hv]; rfl
    refine bcase_not (fun b1 => ⟨by rw [no (by rw [hat, hiv, b1]; rfl)], Sq⟩) (fun b1 => ?_)
    simp only [hCell_of oq, List.getElem?_cons_succ, List.getElem?_cons_zero, xStr_some]
    refine (sTypeValid_ok l[g].2 (by omega) h2).mono ?_
    rintro v' h3 ⟨rfl, s3⟩
    simp only [xBool_some]
    have S3 := Sq.cat s3
    refine bcase_not (fun b2 => ⟨by rw [no (by rw [hat, b2]; simp)], S3⟩) (fun b2 => ?_)
    have go : (g = 0 ∨ natLess (l.getD (g - 1) ([], [])).1 l[g].1 = true) → F_spec_BindingsValid.J6 (fun v h' => v = .bool (bindOk l) ∧ Same h.length h h') R (g : Int) (((n : Nat) : Int)) (some (i, o)) n c e (some (i, o)) n c e h3 := by
      intro hz
      apply F_spec_BindingsValid.J6i
      rw [wrap_nat (by omega)]
      refine hR (g + 1) _ _ (by omega) ⟨rfl, by omega, S3, range_succ_all hk ?_⟩
      rw [hat, hiv, b1, b2]
      rcases hz with rfl | hz
      · rfl
      · rw [hz]; simp
    refine bcase_dec (fun hpos => ?_) (fun hz => go (.inl (by omega)))
    have hg0 : 0 < g := by omega
    obtain ⟨i', o', hgl', he, _, _, hc', _⟩ := (r.same S3).pr (k := g - 1) (by omega)
    cases he
    rw [wrap_pred1 hg0 (by omega)]
    simp only [xSome_some, Int.toNat_natCast, Nat.add_zero, hc', hCell_of (s3.get oq (Own.lt oq)), List.getElem?_cons_zero, xStr_some, true_and]
    have hgd : l.getD (g - 1) ([], []) = l[g - 1] := getD_at hgl'
    refine ⟨by omega, bcase_not (fun b3 => ⟨by rw [no (by rw [hat, hiv, b1, b2, hgd, b3]; simp; omega)], S3⟩) (fun b3 => go (.inr (by rw [hgd]; exact b3)))⟩
  · apply F_spec_BindingsValid.A2x0i
    have : g = n := by omega
    subst this
    exact ⟨by unfold bindOk; rw [hl, hk], hS⟩
theorem SRep.below {S : Nat → Prop} {h : AHeap} : ∀ {t : Ty} {v : List AVal}, SRep S h t v → SRep (fun j => S j ∧ j < h.length) h t v
  | .k d, _, h => h
  | .u d x, _, ⟨j, c, e, r, hv, sj, hj, hr⟩ => ⟨j, c, e, r, hv, ⟨sj, Own.lt hj⟩, hj, hr.below⟩
  | .w d x y, _, ⟨j, c, e, r, r', hv, sj, hj, hr, hr'⟩ => ⟨j, c, e, r, r', hv, ⟨sj, Own.lt hj⟩, hj, hr.below, hr'.below⟩
theorem subst_ps {f : Nat → Option Ty} {t : Ty} (h : f t.hd = none ∨ t.ps ≠ []) : (subst f t).hd = t.hd ∧ (subst f t).ps = t.ps.map (subst f) := by
  cases t with
  | k c =>
    have : f c = none := by rcases h with h | h; exact h; exact absurd rfl h
    simp [subst, this, Ty.hd, Ty.ps]
  | u c a => simp [subst, Ty.hd, Ty.ps]
  | w c a b => simp [subst, Ty.hd, Ty.ps]
theorem vu_L_l1Node : pg.underlying t_L_spec_l1Node = some (.slice t_spec_l1Node) := by kernel_rfl
theorem vc_l1Node : pg.cellsOf t_spec_l1Node = 2 := by kernel_rfl
theorem vk_l1Node : pg.okElem t_spec_l1Node = true := by kernel_rfl
theorem vb_l1Node : pg.bytesOf t_spec_l1Node ≤ 127 := Nat.le_of_ble_eq_true (by kernel_rfl)
theorem flatten_len2 {vs : List (List AVal)} (h : ∀ v ∈ vs, v.length = 2) : vs.flatten.length = vs.length * 2 := by
  rw [List.length_flatten]
  induction vs with
  | nil => rfl
  | cons v vs ih =>
    have h1 := h v (by simp)
    have h2 := ih (fun x hx => h x (by simp [hx]))
    simp only [List.map_cons, List.sum_cons, List.length_cons]; omega
/-- Putting what variables stand for into a tree. -/
theorem l2Put_ok : ∀ (N : Nat) {t : Ty} {S : Nat → Prop} {h : AHeap} {vt : List AVal} {i : Nat} {m : Bd}, t.size ≤ N → t.ok = true → (∀ j, S j → j < h.length ∧ j ≠ i) → SRep S h t vt → MapR S h i m → (∀ v u, bget m v = some u → u.ok = true) → (∀ v, isVarN v = false → bget m v = none) →
    SCall pg n_spec_l2Put [.ptr (some (i, 0)), .agg vt] h fun x h' => Same h.length h h' ∧ ∃ vs, x = .agg vs ∧ SRep (fun j => S j ∨ h.length ≤ j) h' (subst (bget m) t) vs
  | 0, t, S, h, vt, i, m, hN, _, _, _, _, _, _ => by have := t.size_ps; omega
  | N + 1, t, S, h, vt, i, m, hN, ht, hSi, rt, rm, hmo, hmn => by
    obtain ⟨at', ct, et, vts, rfl, rowt, hSt, hvtl, hvt⟩ := id rt.parts
    have hps2 : t.ps.length ≤ 2 := by cases t <;> simp [Ty.ps]
    have hil := rm.lt
    apply F_spec_l2Put.call
    simp only [letH_def]
    generalize hh0 : h ++ [AObj.cells t_spec_l1Node [.int .u8 (t.hd : Int), .slice at' t.ps.length ct et] false] = h0
    generalize hh1 : h0 ++ [AObj.cells t_spec_l1Node [.int .u8 0, .slice none 0 0 true] false] = h1
    have s0 : Same h.length h h0 := by rw [← hh0]; exact same_last
    have s1 : Same h0.length h0 h1 := by rw [← hh1]; exact same_last
    have o0 : h0[h.length]? = some (.cells t_spec_l1Node [.int .u8 (t.hd : Int), .slice at' t.ps.length ct et] false) := by rw [← hh0]; simp
    have oa := s1.get o0 (Own.lt o0)
    have oz : h1[h0.length]? = some (.cells t_spec_l1Node [.int .u8 0, .slice none 0 0 true] false) := by rw [← hh1]; simp
    have S1 := s0.cat s1
    have l0 : h0.length = h.length + 1 := by rw [← hh0]; simp
    have l1 : h1.length = h.length + 2 := by rw [← hh1]; simp [l0]
    simp only [hCell_of oa, Nat.zero_add, List.getElem?_cons_succ, List.getElem?_cons_zero, xInt_some]
    refine (l2Index_ok t.hd).mono ?_
    rintro v h2 ⟨rfl, rfl⟩
    have rm1 := rm.same S1
    simp only [xInt_some, xSome_some]
    -- nothing stands for the letter
    have main : bget m t.hd = none → F_spec_l2Put.J4 (fun x h' => Same h.length h h' ∧ ∃ vs, x = .agg vs ∧ SRep (fun j => S j ∨ h.length ≤ j) h' (subst (bget m) t) vs) h.length 0 (some (i, 0)) h0.length 0 h2 := by
      intro hno
      obtain ⟨hsh, hsp⟩ := subst_ps (f := bget m) (t := t) (.inl hno)
      apply F_spec_l2Put.J4i
      simp only [hCell_of oa, Nat.zero_add, List.getElem?_cons_succ, List.getElem?_cons_zero, xInt_some, letH_def]
      generalize hh3 : h2 ++ [AObj.cells t_spec_l1Node [] false] = h3
      have s3 : Same h2.length h2 h3 := by rw [← hh3]; exact same_last
      have o3 : h3[h2.length]? = some (.cells t_spec_l1Node [] false) := by rw [← hh3]; simp
      have l3 : h3.length = h2.length + 1 := by rw [← hh3]; simp
      rw [store2]
      generalize hh4 : h3 ++ [AObj.cells t_spec_l1Node [.int .u8 (t.hd : Int), .slice (some (h2.length, 0)) 0 0 true] false] = h4
      have s4 : Same h3.length h3 h4 := by rw [← hh4]; exact same_last
      have o4 : h4[h3.length]? = some (.cells t_spec_l1Node [.int .u8 (t.hd : Int), .slice (some (h2.length, 0)) 0 0 true] false) := by rw [← hh4]; simp
      have l4 : h4.length = h3.length + 1 := by rw [← hh4]; simp
      have oa4 := s4.get (s3.get oa (Own.lt oa)) (by have := Own.lt oa; omega)
      have oz4 := s4.get (s3.get oz (Own.lt oz)) (by have := Own.lt oz; omega)
      have o34 := s4.get o3 (Own.lt o3)
      have S4 := (S1.cat s3).cat s4
      simp only [xHeap_some, hCell_of oa4, List.getElem?_cons_succ, List.getElem?_cons_zero, xSl_some]
      refine F_spec_l2Put.L6ind _ _ _ _ _ _ _ _ _ _ _ (J := fun (g : Nat) x35 h' => x35 = (g : Int) ∧ g ≤ t.ps.length ∧ Same h.length h h' ∧ h4.length ≤ h'.length ∧ h'[h0.length]? = some (.cells t_spec_l1Node [.int .u8 0, .slice none 0 0 true] false) ∧
        ∃ (a : Pt) (cp : Nat) (e : Bool) (vs : List (List AVal)), h'[h3.length]? = some (.cells t_spec_l1Node [.int .u8 (t.hd : Int), .slice a g cp e] false) ∧ vs.length = g ∧ Vec t_spec_l1Node h' a g cp vs.flatten ∧ (∀ j, a = some (j, 0) → j = h2.length ∨ h4.length ≤ j) ∧
          ∀ (k : Nat) (v : List AVal) (x : Ty), vs[k]? = some v → t.ps[k]? = some x → SRep (fun j => (S j ∨ h4.length ≤ j) ∧ ∀ j0, a = some (j0, 0) → j ≠ j0) h' (subst (bget m) x) v)
        (fun g => t.ps.length - g) ?_ 0 _ _ ⟨rfl, by omega, S4, Nat.le_refl _, oz4, some (h2.length, 0), 0, true, [], o4, rfl, Vec.mk1 (by simpa using o34), fun j hj => by cases hj; exact .inl rfl, by simp⟩
      rintro g x35 h' ⟨rfl, hg, hS, hl4, hz, a, cp, e, vs, ho, hvl, hv, ha, hp⟩ R hR
      unfold F_spec_l2Put.L6t
      have hz2 : ∀ v ∈ vs, v.length = 2 := fun v hv => by
        obtain ⟨k, hk, rfl⟩ := List.mem_iff_getElem.1 hv
        exact (hp k vs[k] (t.ps[k]'(by omega)) (List.getElem?_eq_getElem hk) (List.getElem?_eq_getElem (by omega))).len
      refine bcase_dec (fun hlt => ?_) (fun hge => ?_)
      · have hgt : g < t.ps.length := by omega
        obtain ⟨jt, oft, a4, c4, e4, rfl, hrt, hkt⟩ := SRep.get (rowt.same' hS) hvtl (fun k w x h1 h2 => (hvt k w x h1 h2).same hS) hgt
        simp only [xSome_some, Int.toNat_natCast, hrt, xRow_some, xCons_cons, xNil_nil, xInt_some, xSl_some, letH_def]
        rw [store2]
        generalize hq : h' ++ [AObj.cells t_spec_l1Node [.int .u8 (t.ps[g].hd : Int), .slice a4 t.ps[g].ps.length c4 e4] false] = hq'
        have sq : Same h'.length h' hq' := by rw [← hq]; exact same_last
        have oq := sq.get ho (Own.lt ho)
        simp only [xHeap_some, hCell_of oq, Nat.zero_add, List.getElem?_cons_succ, List.getElem?_cons_zero, xSl_some]
        rw [← hq, rowL2, hq]
        simp only [xRow_some, xCons_cons, xNil_nil, xInt_some, xSl_some, true_and]
        have hmt := List.getElem_mem hgt
        have h1 := Ty.size_part hmt
        have hlq := sq.le
        have hSle := hS.le
        refine ⟨by omega, (l2Put_ok N (by omega) (Ty.ok_ps ht _ hmt) (S := S) (fun j hj => ⟨by have := (hSi j hj).1; omega, (hSi j hj).2⟩) (hkt.same sq) (rm.same (hS.cat sq)) hmo hmn).mono ?_⟩
        rintro v h5 ⟨s5, nv, rfl, hn5⟩
        obtain ⟨na, nc, ne, hnv⟩ := hn5.shape
        rw [hnv] at hn5
        have o5 := s5.get oq (Own.lt oq)
        simp only [hnv, xAgg_agg, xCons_cons, xNil_nil, xInt_some, xSl_some, hCell_of o5, List.getElem?_cons_succ, List.getElem?_cons_zero, true_and]
        have hc6 : hCell (h5 ++ [AObj.cells t_spec_l1Node [.int .u8 ((subst (bget m) t.ps[g]).hd : Int), .slice na (subst (bget m) t.ps[g]).ps.length nc ne] false]) (.ptr (some (h3.length, 1))) = some (.slice a g cp e) := by rw [hCell_of (app_old o5)]; rfl
        refine ⟨by rw [hc6], ?_⟩
        have v5 := (hv.same sq).same s5
        have hl5 := s5.le
        refine v5.pushN vu_L_l1Node vc_l1Node vk_l1Node vb_l1Node (by rw [flatten_len2 hz2]; omega) rfl (by omega) rfl (by omega) (fun h7 hl7 hi7 hk7 => ?_)
        simp only [xSl_some]
        have hz5 := s5.get (sq.get hz (Own.lt hz)) (by have := Own.lt hz; omega)
        have ha5 : ∀ j, a = some (j, 0) → j = h2.length ∨ h4.length ≤ j := ha
        have o7 : h7[h3.length]? = some (.cells t_spec_l1Node [.int .u8 (t.hd : Int), .slice a g cp e] false) := by
          rw [hk7 _ (Own.lt o5) fun j hj => by rcases ha j hj with hh | hh <;> omega]; exact o5
        rw [hStore_of o7 (by simp)]
        simp only [xHeap_some, putRow, List.take_succ_cons, List.take_zero, List.length_cons, List.length_nil, List.drop_succ_cons, List.drop_nil, List.cons_append, List.nil_append, List.append_nil]
        rw [wrap_nat (by omega)]
        have hS5 := (hS.cat sq).cat s5
        have h7o : ∀ j, j < h5.length → (∀ j0, a = some (j0, 0) → j ≠ j0) → j ≠ h3.length → (h7.set h3.length (AObj.cells t_spec_l1Node [.int .u8 (t.hd : Int), .slice (some (h5.length + 1, 0)) (g + 1) (g + 1) false] false))[j]? = h5[j]? := fun j hj hne hne2 => by rw [set_ne (by omega), hk7 j hj hne]
        refine hR (g + 1) _ _ (by omega) ⟨rfl, by omega, ⟨by simp; omega, fun j hj => ?_⟩, by simp; omega, ?_, some (h5.length + 1, 0), g + 1, false, vs ++ [[.int .u8 ((subst (bget m) t.ps[g]).hd : Int), .slice na (subst (bget m) t.ps[g]).ps.length nc ne]], set_get o7, by simp [hvl], Vec.mk1 ?_, fun j hj => by cases hj; right; omega, ?_⟩
        · rw [h7o j (by omega) (fun j0 hj0 => by rcases ha j0 hj0 with hh | hh <;> omega) (by omega)]; exact hS5.eq j hj
        · rw [h7o _ (Own.lt hz5) (fun j0 hj0 => by rcases ha j0 hj0 with hh | hh <;> omega) (by omega)]; exact hz5
        · rw [set_ne (by omega), hi7]; simp
        · intro k v x hv' hx
          have hkeep : ∀ {t' : Ty} {v' : List AVal}, SRep (fun j => (S j ∨ h4.length ≤ j) ∧ ∀ j0, a = some (j0, 0) → j ≠ j0) h5 t' v' → SRep (fun j => (S j ∨ h4.length ≤ j) ∧ ∀ j0, (some (h5.length + 1, 0) : Pt) = some (j0, 0) → j ≠ j0) (h7.set h3.length (AObj.cells t_spec_l1Node [.int .u8 (t.hd : Int), .slice (some (h5.length + 1, 0)) (g + 1) (g + 1) false] false)) t' v' := by
            intro t' v' hr
            have hr2 := hr.below
            refine SRep.mono (S := fun j => ((S j ∨ h4.length ≤ j) ∧ ∀ j0, a = some (j0, 0) → j ≠ j0) ∧ j < h5.length) (fun j hj => ⟨hj.1.1, fun j0 e0 => by cases e0; have := hj.2; omega⟩) (hr2.agree fun j hj => ?_)
            refine h7o j hj.2 hj.1.2 ?_
            rcases hj.1.1 with h8 | h8
            · have := (hSi j h8).1; omega
            · omega
          by_cases hkl : k < vs.length
          · rw [List.getElem?_append_left hkl] at hv'
            exact hkeep (((hp k v x hv' hx).same sq).same s5)
          · rw [List.getElem?_append_right (by omega)] at hv'
            have hk0 : k = vs.length := by
              by_cases e : k - vs.length = 0
              · omega
              · rw [List.getElem?_eq_none (by simp; omega)] at hv'; cases hv'
            subst hk0
            simp at hv'
            subst hv'
            rw [hvl, List.getElem?_eq_getElem hgt] at hx
            cases hx
            refine hkeep (SRep.mono (S := fun j => S j ∨ hq'.length ≤ j) (fun j hj => ⟨?_, fun j0 e0 => ?_⟩) hn5)
            · rcases hj with h8 | h8
              · exact .inl h8
              · exact .inr (by omega)
            · have hj0 := (hv.same sq).lt' e0
              rcases hj with h8 | h8
              · have := (hSi j h8).1
                rcases ha j0 e0 with hh | hh <;> omega
              · omega
      · apply F_spec_l2Put.A6x0i
        have : g = t.ps.length := by omega
        subst this
        have hrow := hRow_of (o := 0) (n := 2) ho (by simp)
        rw [hrow]
        simp only [List.drop_zero, List.take_succ_cons, List.take_zero, xRow_some, xCons_cons, xNil_nil, xInt_some, xSl_some]
        rw [hStore_of hz (by simp)]
        simp only [xHeap_some]
        rw [hRow_of (set_get hz) (by simp [putRow])]
        simp only [putRow, List.take_zero, List.nil_append, List.length_cons, List.length_nil, List.cons_append, List.drop_succ_cons, List.drop_zero, List.drop_nil, List.append_nil, List.take_succ_cons, xRow_some, xCons_cons, xInt_some, xSl_some, xNil_nil]
        refine ⟨⟨by simp; exact hS.le, fun j hj => by rw [set_ne (by omega)]; exact hS.eq j hj⟩, _, rfl, ?_⟩
        have hget : ∀ j, j ≠ h0.length → (h'.set h0.length (AObj.cells t_spec_l1Node [.int .u8 (t.hd : Int), .slice a t.ps.length cp e] false))[j]? = h'[j]? := fun j hj => set_ne (fun e => hj e.symm)
        rcases hv with ⟨rfl, h0', _, hvs⟩ | ⟨j0, rfl, hj0⟩
        · -- no parts
          have hps : t.ps = [] := List.eq_nil_of_length_eq_zero h0'
          cases t with
          | k d =>
            simp only [subst, show bget m d = none from hno, Option.getD_none]
            exact ⟨_, _, _, rfl⟩
          | u d x => simp [Ty.ps] at hps
          | w d x y => simp [Ty.ps] at hps
        · have hj0n : j0 ≠ h0.length := by rcases ha j0 rfl with hh | hh <;> omega
          have hS4 := ha j0 rfl
          have := SRep.make (S := fun j => S j ∨ h.length ≤ j) (h := h'.set h0.length (AObj.cells t_spec_l1Node [.int .u8 (t.hd : Int), .slice (some (j0, 0)) t.ps.length cp e] false)) (t := subst (bget m) t) (j := j0) (n := t.ps.length) (c := cp) (e := e) (vs := vs)
            (by rw [hsp, List.length_map]) (.inr (by rcases hS4 with hh | hh <;> omega)) (by rw [hget j0 hj0n]; exact hj0) hvl (fun k w x hw hx => by
              rw [hsp, List.getElem?_map] at hx
              obtain ⟨y, hy, rfl⟩ := Option.map_eq_some_iff.1 hx
              have hr := hp k w y hw hy
              refine SRep.mono (S := fun j => (S j ∨ h4.length ≤ j) ∧ ∀ j1, (some (j0, 0) : Pt) = some (j1, 0) → j ≠ j1) (fun j hj => hj.1.imp id (fun h => by omega)) (hr.agree fun j hj => hget j ?_)
              rcases hj.1 with h8 | h8
              · have := (hSi j h8).1; omega
              · omega)
          rw [hsh] at this
          exact this
    cases hv : isVarN t.hd with
    | true =>
      obtain ⟨k, hk6, hkv, hix⟩ := l2idx_var hv
      rw [hix]
      obtain ⟨x, hx1, hx2, hx3⟩ := rm1.get (k := k) (by omega)
      rw [hkv, Option.bind_some] at hx3
      have hge : decide ((k : Int) ≥ 0) = true := by simp
      simp only [hge, bcase_true, Int.toNat_natCast, hx1, hx2, xRow_some, xCons_cons, xNil_nil]
      refine ⟨by omega, ?_⟩
      cases hg : bget m t.hd with
      | none =>
        rw [hg] at hx3
        simp only at hx3
        subst hx3
        simp only [xInt_some, show ((0 : Int) == 0) = true from rfl, Bool.not_true, bcase_false]
        exact main hg
      | some u =>
        rw [hg] at hx3
        simp only at hx3
        have hu := hmo _ _ hg
        obtain ⟨ux, uc, ue, hux⟩ := hx3.shape
        simp only [List.cons.injEq, and_true] at hux
        obtain ⟨hux1, hux2⟩ := hux
        rw [hux1, hux2] at hx3
        rw [hux1, hux2]
        have hu0 : (((u.hd : Nat) : Int) == 0) = false := by
          have := ok_letter hu
          have hne : u.hd ≠ 0 := fun e => by rw [e] at this; simp at this
          simp; omega
        simp only [xInt_some, xSl_some, hu0, Bool.not_false, bcase_true]
        rw [hStore_of oz (by simp)]
        simp only [xHeap_some]
        rw [hRow_of (set_get oz) (by simp [putRow])]
        simp only [putRow, List.take_zero, List.nil_append, List.length_cons, List.length_nil, List.cons_append, List.drop_succ_cons, List.drop_zero, List.drop_nil, List.append_nil, List.take_succ_cons, xRow_some, xCons_cons, xInt_some, xSl_some, xNil_nil]
        refine ⟨by omega, ⟨by simp; omega, fun j hj => by rw [set_ne (by omega)]; exact S1.eq j hj⟩, _, rfl, ?_⟩
        have hsub : subst (bget m) t = u := by rw [ok_hd_var ht hv]; simp [subst, hg]
        rw [hsub]
        refine SRep.mono (S := S) (fun j hj => .inl hj) (hx3.agree fun j hj => set_ne (by have := (hSi j hj).1; omega))
    | false =>
      rw [l2idx_not ht hv]
      have hge : decide ((-1 : Int) ≥ 0) = false := by decide
      simp only [hge, bcase_false]
      exact main (hmn _ hv)
end Go.Sim

set_option linter.unusedVariables false
set_option linter.unusedSimpArgs false
set_option maxRecDepth 20000
namespace Go.Sim
open Go Go.RowKit

/-- What is known of a pair that came in. -/
def PBig (p : Nd) : Prop := NBig p.1.length ∧ NBig p.2.length ∧ (∀ b ∈ p.1, b < 256) ∧ ∀ b ∈ p.2, b < 256
theorem rd_pair {P : Program} {h : AHeap} {f : Nat} {e : TypeId} {f0 f1 : Field} {v : List AVal} {d : Dt} (he : P.underlying e = some (.struct #[f0, f1])) (h0 : P.underlying f0.type = some .string) (h1 : P.underlying f1.type = some .string) (hr : rd P h (f + 2) e v d) :
    ∃ p : Nd, v = eP p ∧ PBig p := by
  unfold rd at hr
  rw [he] at hr
  obtain ⟨ds', vs', rfl, hd1, hd2, rfl, hall'⟩ := hr
  match vs', ds', hd2, hd1 with
  | [u, w], [x, y], _, _ =>
    have g0 := (hall' 0 f0 u x rfl rfl rfl).2
    have g1 := (hall' 1 f1 w y rfl rfl rfl).2
    simp only [rd, h0] at g0
    simp only [rd, h1] at g1
    obtain ⟨s, rfl, _, hs1, hs2⟩ := g0
    obtain ⟨t, rfl, _, ht1, ht2⟩ := g1
    exact ⟨(s, t), rfl, hs1, ht1, hs2, ht2⟩
theorem list_of {P : Program} {h : AHeap} {f : Nat} {e : TypeId} {α : Type} {enc : α → List AVal} {G : α → Prop} (el : ∀ v d, rd P h f e v d → ∃ x : α, v = enc x ∧ G x) :
    ∀ (vs : List (List AVal)) (ds : List Dt), ds.length = vs.length → (∀ (i : Nat) (v : List AVal) (x : Dt), vs[i]? = some v → ds[i]? = some x → v.length = P.cellsOf e ∧ rd P h f e v x) →
    ∃ l : List α, l.length = vs.length ∧ vs.flatten = flat enc l ∧ ∀ x ∈ l, G x
  | [], _, _, _ => ⟨[], rfl, rfl, by simp⟩
  | v :: vs, [], h, _ => by simp at h
  | v :: vs, d :: ds, hl, hall => by
    obtain ⟨l, hll, hfl, hs⟩ := list_of el vs ds (by simpa using hl) fun i v x hv hx => hall (i + 1) v x (by simpa using hv) (by simpa using hx)
    obtain ⟨x, rfl, hx⟩ := el v d (hall 0 v d rfl rfl).2
    exact ⟨x :: l, by simp [hll], by simp [hfl], fun y hy => (List.mem_cons.1 hy).elim (fun e => e ▸ hx) (hs y)⟩
theorem rd_list {P : Program} {h : AHeap} {f : Nat} {t e : TypeId} {α : Type} {enc : α → List AVal} {G : α → Prop} {cs : List AVal} {d : Dt} (ht : P.underlying t = some (.slice e)) (el : ∀ v d, rd P h f e v d → ∃ x : α, v = enc x ∧ G x) (hr : rd P h (f + 1) t cs d) :
    ∃ a n c ex, ∃ l : List α, cs = [.slice a n c ex] ∧ Row h.length h a (n * P.cellsOf e) (flat enc l) ∧ NBig n ∧ l.length = n ∧ ∀ x ∈ l, G x := by
  unfold rd at hr
  rw [ht] at hr
  obtain ⟨a, n, c, ex, ds, vs, rfl, rfl, hdl, hn, hvl, hrow, hall⟩ := hr
  obtain ⟨l, hll, hfl, hs⟩ := list_of el vs ds (by omega) hall
  rw [hfl] at hrow
  exact ⟨a, n, c, ex, l, rfl, hrow, hn, by omega, hs⟩
theorem rd_pairs {P : Program} {h : AHeap} {f : Nat} {t e : TypeId} {f0 f1 : Field} {cs : List AVal} {d : Dt} (ht : P.underlying t = some (.slice e)) (he : P.underlying e = some (.struct #[f0, f1])) (h0 : P.underlying f0.type = some .string) (h1 : P.underlying f1.type = some .string) (hc : P.cellsOf e = 2)
    (hr : rd P h (f + 3) t cs d) : ∃ a n c ex, ∃ l : List Nd, cs = [.slice a n c ex] ∧ Row h.length h a (n * 2) (flat eP l) ∧ NBig n ∧ l.length = n ∧ ∀ p ∈ l, PBig p := by
  have := rd_list (enc := eP) (G := PBig) ht (fun v d hr => rd_pair he h0 h1 hr) hr
  rwa [hc] at this
/-- An instance that came in. -/
def IBig (h : AHeap) (x : EI) : Prop := ∃ i : Ins, IRep h x i ∧ PBig i.1 ∧ NBig i.2.length ∧ ∀ p ∈ i.2, PBig p
theorem rd_inst {P : Program} {h : AHeap} {f : Nat} {ti tn ts : TypeId} {g0 g1 f0 f1 : Field} {v : List AVal} {d : Dt} (hi : P.underlying ti = some (.struct #[g0, g1])) (hg0 : g0.type = tn) (hg1 : g1.type = ts)
    (he : P.underlying tn = some (.struct #[f0, f1])) (h0 : P.underlying f0.type = some .string) (h1 : P.underlying f1.type = some .string) (hc : P.cellsOf tn = 2) (ht : P.underlying ts = some (.slice tn)) (hr : rd P h (f + 4) ti v d) :
    ∃ x : EI, v = eN x ∧ IBig h x := by
  unfold rd at hr
  rw [hi] at hr
  obtain ⟨ds', vs', rfl, hd1, hd2, rfl, hall'⟩ := hr
  match vs', ds', hd2, hd1 with
  | [u, w], [x, y], _, _ =>
    have k0 := (hall' 0 g0 u x rfl rfl rfl).2
    have k1 := (hall' 1 g1 w y rfl rfl rfl).2
    rw [hg0] at k0
    rw [hg1] at k1
    obtain ⟨p, rfl, hp⟩ := rd_pair (f := f + 1) he h0 h1 k0
    obtain ⟨a, n, c, ex, l, rfl, hrow, hn, hll, hl⟩ := rd_pairs (f := f) ht he h0 h1 hc k1
    exact ⟨⟨p.1, p.2, a, n, c, ex⟩, rfl, (p, l), ⟨rfl, rfl, hrow⟩, hp, by rw [hll]; exact hn, hl⟩
theorem ints_of_big {h : AHeap} : ∀ {xs : List EI}, (∀ x ∈ xs, IBig h x) → ∃ is : List Ins, IsRep h xs is ∧ ∀ i ∈ is, PBig i.1 ∧ NBig i.2.length ∧ ∀ p ∈ i.2, PBig p
  | [], _ => ⟨[], ⟨rfl, by simp⟩, by simp⟩
  | x :: xs, hx => by
    obtain ⟨is, ⟨hl, hr⟩, hb⟩ := ints_of_big (xs := xs) fun y hy => hx y (by simp [hy])
    obtain ⟨i, hi, hib⟩ := hx x (by simp)
    refine ⟨i :: is, ⟨by simp [hl], fun k y j hy hj => ?_⟩, fun j hj => (List.mem_cons.1 hj).elim (fun e => e ▸ hib) (hb j)⟩
    cases k with
    | zero => simp at hy hj; subst hy; subst hj; exact hi
    | succ k => simp at hy hj; exact hr k y j hy hj
/-- A world that came in. -/
theorem rd_world {P : Program} {h : AHeap} {f : Nat} {tw tc tcs ti tis tn ts : TypeId} {w0 w1 q0 q1 g0 g1 f0 f1 : Field} {cs : List AVal} {d : Dt} (hw : P.underlying tw = some (.struct #[w0, w1])) (hw0 : w0.type = tcs) (hw1 : w1.type = tis)
    (hcs : P.underlying tcs = some (.slice tc)) (hct : P.underlying tc = some (.struct #[q0, q1])) (hq0 : P.underlying q0.type = some .string) (hq1 : P.underlying q1.type = some .string) (hcc : P.cellsOf tc = 2)
    (his : P.underlying tis = some (.slice ti)) (hic : P.cellsOf ti = 3) (hi : P.underlying ti = some (.struct #[g0, g1])) (hg0 : g0.type = tn) (hg1 : g1.type = ts)
    (he : P.underlying tn = some (.struct #[f0, f1])) (h0 : P.underlying f0.type = some .string) (h1 : P.underlying f1.type = some .string) (hc : P.cellsOf tn = 2) (ht : P.underlying ts = some (.slice tn)) (hr : rd P h (f + 6) tw cs d) :
    ∃ a0 n0 c0 e0 a1 n1 c1 e1, ∃ w : Wd, cs = [.slice a0 n0 c0 e0, .slice a1 n1 c1 e1] ∧ (n0 ≤ c0 → n1 ≤ c1 → WRep h a0 n0 c0 a1 n1 c1 w) ∧ WBig w := by
  unfold rd at hr
  rw [hw] at hr
  obtain ⟨ds', vs', rfl, hd1, hd2, rfl, hall'⟩ := hr
  match vs', ds', hd2, hd1 with
  | [u, v], [x, y], _, _ =>
    have k0 := (hall' 0 w0 u x rfl rfl rfl).2
    have k1 := (hall' 1 w1 v y rfl rfl rfl).2
    rw [hw0] at k0
    rw [hw1] at k1
    obtain ⟨a0, n0, c0, e0, l0, rfl, hrow0, hn0, hl0, hb0⟩ := rd_pairs (f := f + 2) hcs hct hq0 hq1 hcc k0
    obtain ⟨a1, n1, c1, e1, l1, rfl, hrow1, hn1, hl1, hb1⟩ := rd_list (f := f + 4) (enc := eN) (G := IBig h) his (fun v d hr => rd_inst hi hg0 hg1 he h0 h1 hc ht hr) k1
    rw [hic] at hrow1
    obtain ⟨is, hrep, hib⟩ := ints_of_big hb1
    refine ⟨a0, n0, c0, e0, a1, n1, c1, e1, ⟨l0, is⟩, rfl, fun k0 k1 => ⟨hrow0, ⟨l1, hrow1, hrep⟩, k0, k1⟩, ?_⟩
    refine ⟨by rw [show (Wd.mk l0 is).cs.length = n0 from hl0]; exact hn0, ?_, fun p hp => ⟨(hb0 p hp).1, (hb0 p hp).2.1, (hb0 p hp).2.2.1⟩, fun i hi => ?_⟩
    · have : is.length = n1 := by have := hrep.1; omega
      show NBig is.length
      rw [this]; exact hn1
    · obtain ⟨p1, p2, p3⟩ := hib i hi
      exact ⟨p1.1, p1.2.1, p2, fun p hp => ⟨(p3 p hp).1, (p3 p hp).2.1⟩⟩

end Go.Sim

/- What matching finds: plain Lean. -/
set_option linter.unusedSimpArgs false
set_option linter.unusedVariables false
namespace Go.Sim

/-- Variables of a type. -/
def tvars : Ty → List Nat
  | .k c => if isVarN c then [c] else []
  | .u c a => tvars a
  | .w c a b => tvars a ++ tvars b
/-- What is noted stays, what is matched is the type, and what is noted beyond are the pattern's variables. -/
structure MOut (m m' : Bd) (a t : Ty) : Prop where
  keep : ∀ v u, bget m v = some u → bget m' v = some u
  sub : subst (bget m') a = t
  vars : ∀ v, (bget m' v).isSome = true ↔ ((bget m v).isSome = true ∨ v ∈ tvars a)
end Go.Sim

/- Which pattern fits which type; candidates; the most special: plain Lean. -/
set_option linter.unusedSimpArgs false
set_option linter.unusedVariables false
namespace Go.Sim

/-- A substitution speaks of variables alone, and of types. -/
structure SubOk (f : Nat → Option Ty) : Prop where
  nv : ∀ v, isVarN v = false → f v = none
  ok : ∀ v t, f v = some t → t.ok = true
/-- One substitution behind another one. -/
noncomputable def after (f g : Nat → Option Ty) (v : Nat) : Option Ty := if isVarN v then some (subst g ((f v).getD (.k v))) else none
/-- One instance is special to another one. -/
noncomputable def specI (a b : Ins) : Bool := decide (a.1.1 = b.1.1) && instS b.1.2 a.1.2
end Go.Sim

set_option linter.unusedVariables false
set_option linter.unusedSimpArgs false
set_option maxRecDepth 20000
namespace Go.Sim
open Go Go.RowKit

noncomputable def inIx (w : Wd) (x : Int) : Bool := decide (x ≥ 0) && decide (x < (w.is.length : Nat))
noncomputable def specW (w : Wd) (x y : Int) : Bool := worldOk w && inIx w x && inIx w y && specI (w.is.getD x.toNat (([], []), [])) (w.is.getD y.toNat (([], []), []))
theorem inIx_at {w : Wd} {k : Nat} (h : k < w.is.length) : inIx w (k : Int) = true := by unfold inIx; simp; omega
theorem inIx_iff {w : Wd} {x : Int} (h : inIx w x = true) : ∃ k : Nat, x = k ∧ k < w.is.length := by
  unfold inIx at h; simp at h; exact ⟨x.toNat, by omega, by omega⟩
theorem special_ok {h : AHeap} {a a' : Pt} {n c n' c' : Nat} {e e' : Bool} {i k : Ins} :
    SCall pg n_impl_special [.agg [.str i.1.1, .str i.1.2, .slice a n c e], .agg [.str k.1.1, .str k.1.2, .slice a' n' c' e']] h fun v h' => v = .bool (specI i k) ∧ Same h.length h h' := by
  apply F_impl_special.call
  simp only [letH_def]
  generalize hh0 : h ++ [AObj.cells t_impl_Instance [.str i.1.1, .str i.1.2, .slice a n c e] false] = h0
  generalize hh1 : h0 ++ [AObj.cells t_impl_Instance [.str k.1.1, .str k.1.2, .slice a' n' c' e'] false] = h1
  have s0 : Same h.length h h0 := by rw [← hh0]; exact same_last
  have s1 : Same h0.length h0 h1 := by rw [← hh1]; exact same_last
  have o0 : h0[h.length]? = some (.cells t_impl_Instance [.str i.1.1, .str i.1.2, .slice a n c e] false) := by rw [← hh0]; simp
  have o1 := s1.get o0 (Own.lt o0)
  have k1 : h1[h0.length]? = some (.cells t_impl_Instance [.str k.1.1, .str k.1.2, .slice a' n' c' e'] false) := by rw [← hh1]; simp
  have S1 := s0.cat s1
  simp only [hCell_of o1, hCell_of k1, Nat.zero_add, List.getElem?_cons_succ, List.getElem?_cons_zero, xStr_some]
  refine bcase_dec (fun he => ?_) (fun he => ⟨by unfold specI; simp [he], S1⟩)
  refine (isInstance_ok k.1.2 i.1.2 h1).mono ?_
  rintro v h2 ⟨rfl, s2⟩
  simp only [xBool_some]
  exact ⟨by unfold specI; simp [he], S1.cat s2⟩
theorem inst_get {h : AHeap} {a0 a1 : Pt} {n0 c0 n1 c1 : Nat} {w : Wd} (r : WRep h a0 n0 c0 a1 n1 c1 w) {k : Nat} (hk : k < w.is.length) :
    ∃ i o a n cp e, a1 = some (i, o) ∧ i < h.length ∧ hRow h (.ptr (some (i, o + k * 3))) 3 = some [.str w.is[k].1.1, .str w.is[k].1.2, .slice a n cp e] ∧ hCell h (.ptr (some (i, o + k * 3))) = some (.str w.is[k].1.1) ∧ hCell h (.ptr (some (i, o + k * 3 + 1))) = some (.str w.is[k].1.2) ∧ Row h.length h a (n * 2) (flat eP w.is[k].2) ∧ w.is[k].2.length = n := by
  have hl := r.len1
  obtain ⟨i, o, hk', a, n, cp, e, h1, h2, h3, h4, h5, h6, h7, h8⟩ := r.inst (k := k) (by omega)
  exact ⟨i, o, a, n, cp, e, h1, h2, h3, h4, h5, h7, h8⟩
theorem sIsSpecial_ok {h : AHeap} {a0 a1 : Pt} {n0 c0 n1 c1 : Nat} {e0 e1 : Bool} {w : Wd} {x y : Int} (r : WRep h a0 n0 c0 a1 n1 c1 w) (b : WB w) :
    SCall pg n_spec_IsSpecial [.agg [.slice a0 n0 c0 e0, .slice a1 n1 c1 e1], .int .i64 x, .int .i64 y] h fun v h' => v = .bool (specW w x y) ∧ Same h.length h h' := by
  have hl1 := r.len1
  have hli := b.li
  apply F_spec_IsSpecial.call
  simp only [letH_def]
  generalize hh0 : h ++ [AObj.cells t_impl_World [.slice a0 n0 c0 e0, .slice a1 n1 c1 e1] false] = h0
  have s0 : Same h.length h h0 := by rw [← hh0]; exact same_last
  have w0 : h0[h.length]? = some (wObj a0 n0 c0 e0 a1 n1 c1 e1) := by rw [← hh0]; simp [wObj]
  rw [wRow w0]
  simp only [xRow_some, xCons_cons, xNil_nil, xSl_some]
  refine (sWorldValid_ok (r.same s0) b).mono ?_
  rintro v h2 ⟨rfl, s2⟩
  have S2 := s0.cat s2
  have w2 := s2.get w0 (Own.lt w0)
  simp only [xBool_some]
  refine bcase_not (fun b1 => ⟨by unfold specW; rw [b1]; rfl, S2⟩) (fun b1 => ?_)
  simp only [wCell w2, Nat.zero_add, List.getElem?_cons_succ, List.getElem?_cons_zero, xSl_some]
  rw [IntWalk.i64_in _ (by omega)]
  have hin : ∀ z : Int, decide (0 ≤ z ∧ z ≤ ((n1 : Nat) : Int) - 1) = inIx w z := fun z => by
    unfold inIx; rw [hl1, Bool.eq_iff_iff]; simp; omega
  refine l1In_ok.mono ?_
  rintro v h3 ⟨rfl, rfl⟩
  simp only [xBool_some, hin]
  refine bcase_not (fun b2 => ⟨by unfold specW; rw [b2]; simp, S2⟩) (fun b2 => ?_)
  simp only [wCell w2, List.getElem?_cons_succ, List.getElem?_cons_zero, xSl_some]
  rw [IntWalk.i64_in _ (by omega)]
  refine l1In_ok.mono ?_
  rintro v h3 ⟨rfl, rfl⟩
  simp only [xBool_some, hin]
  refine bcase_not (fun b3 => ⟨by unfold specW; rw [b3]; simp, S2⟩) (fun b3 => ?_)
  obtain ⟨k, rfl, hk⟩ := inIx_iff b2
  obtain ⟨l, rfl, hl⟩ := inIx_iff b3
  apply F_spec_IsSpecial.J3i
  obtain ⟨i, o, ka, kn, kc, ke, rfl, hi, _, hc1, hd1, _⟩ := inst_get (r.same S2) hk
  obtain ⟨i', o', la, ln, lc, le, he, hi', _, hc2, hd2, _⟩ := inst_get (r.same S2) hl
  cases he
  simp only [wCell w2, Nat.zero_add, Nat.add_zero, List.getElem?_cons_succ, List.getElem?_cons_zero, xSl_some, xSome_some, Int.toNat_natCast, hc1, hc2, hd1, hd2, xStr_some, true_and]
  have hval : specW w (k : Int) (l : Int) = specI w.is[k] w.is[l] := by
    unfold specW
    rw [b1, inIx_at hk, inIx_at hl, Int.toNat_natCast, Int.toNat_natCast, getD_at hk, getD_at hl]; rfl
  refine ⟨by omega, by omega, bcase_dec (fun he => ?_) (fun he => ⟨by rw [hval]; unfold specI; simp [he], S2⟩)⟩
  have hbk := b.is _ (List.getElem_mem hk)
  have hbl := b.is _ (List.getElem_mem hl)
  refine ⟨by omega, by omega, (sIsInstance_ok _ _ hbl.2.1 hbk.2.1 _).mono ?_⟩
  rintro v h4 ⟨rfl, s4⟩
  have hce : ∀ z, hCell h4 (.ptr (some (i, z))) = hCell h3 (.ptr (some (i, z))) := fun z => by simp only [hCell, s4.eq i hi]
  simp only [xBool_some, wCell (s4.get w2 (Own.lt w2)), hce, hc1, List.getElem?_cons_succ, List.getElem?_cons_zero, true_and]
  exact ⟨by rw [hval]; unfold specI; simp [he], S2.cat s4⟩
end Go.Sim

set_option linter.unusedVariables false
set_option linter.unusedSimpArgs false
set_option maxRecDepth 20000
namespace Go.Sim
open Go Go.RowKit

theorem u_L_int : pg.underlying t_L_int = some (.slice t_int) := by kernel_rfl
theorem c_int : pg.cellsOf t_int = 1 := by kernel_rfl
theorem k_int : pg.okElem t_int = true := by kernel_rfl
theorem b_int : pg.bytesOf t_int ≤ 127 := Nat.le_of_ble_eq_true (by kernel_rfl)
/-- The indices of the elements for which something holds. -/
def ixs {α : Type} (f : α → Bool) (l : List α) : List Int := (l.zipIdx.filter fun p => f p.1).map fun p => (p.2 : Int)
theorem ixs_take {α : Type} (f : α → Bool) {l : List α} {g : Nat} (h : g < l.length) : ixs f (l.take (g + 1)) = ixs f (l.take g) ++ if f l[g] then [(g : Int)] else [] := by
  unfold ixs
  rw [List.take_succ_eq_append_getElem h, List.zipIdx_append, List.filter_append, List.map_append]
  congr 1
  simp only [List.length_take, Nat.min_eq_left (by omega : g ≤ l.length), Nat.zero_add, List.zipIdx_singleton, List.filter_cons, List.filter_nil]
  split <;> simp
theorem ixs_len {α : Type} (f : α → Bool) (l : List α) : (ixs f l).length ≤ l.length := by
  unfold ixs; rw [List.length_map]; exact Nat.le_trans (List.length_filter_le _ _) (by simp)
theorem fa1 {j o : Nat} {K : AVal → Prop} : fieldAddrA pg t_impl_Need (.ptr (some (j, o))) 1 K = K (.ptr (some (j, o + 1))) := by kernel_rfl
end Go.Sim

set_option linter.unusedVariables false
set_option linter.unusedSimpArgs false
set_option maxRecDepth 20000
namespace Go.Sim
open Go Go.RowKit

/-- An instance is a candidate for a need. -/
noncomputable def candF (n : Nd) (i : Ins) : Bool := decide (i.1.1 = n.1) && instS i.1.2 n.2
noncomputable def candW (w : Wd) (n : Nd) : List Int := ixs (candF n) w.is
noncomputable def candL (w : Wd) (n : Nd) : List Int := if worldOk w && needOkW w n then candW w n else []
theorem ixs_mem {α : Type} {f : α → Bool} {l : List α} {x : Int} (h : x ∈ ixs f l) : ∃ k : Nat, ∃ hk : k < l.length, x = k ∧ f l[k] = true := by
  unfold ixs at h
  obtain ⟨p, hp, rfl⟩ := List.mem_map.1 h
  obtain ⟨h1, h2⟩ := List.mem_filter.1 hp
  obtain ⟨a, k⟩ := p
  have h3 := List.mem_zipIdx h1
  simp only [Nat.zero_add, Nat.zero_le, Nat.sub_zero, true_and] at h3
  exact ⟨k, h3.1, rfl, by simp only at h2; rw [← h3.2]; exact h2⟩
theorem iNeedValid_ok {h : AHeap} {a0 a1 : Pt} {n0 c0 n1 c1 : Nat} {e0 e1 : Bool} {w : Wd} {ct tt : List Nat} (r : WRep h a0 n0 c0 a1 n1 c1 w) (b : WB w) :
    SCall pg n_impl_NeedValid [.agg [.slice a0 n0 c0 e0, .slice a1 n1 c1 e1], .agg [.str ct, .str tt]] h fun v h' => v = .bool (worldOk w && needOkW w (ct, tt)) ∧ Same h.length h h' := by
  apply F_impl_NeedValid.call
  simp only [letH_def]
  generalize hh0 : h ++ [AObj.cells t_impl_World [.slice a0 n0 c0 e0, .slice a1 n1 c1 e1] false] = h0
  generalize hh1 : h0 ++ [AObj.cells t_impl_Need [.str ct, .str tt] false] = h1
  have s0 : Same h.length h h0 := by rw [← hh0]; exact same_last
  have s1 : Same h0.length h0 h1 := by rw [← hh1]; exact same_last
  have w0 : h0[h.length]? = some (wObj a0 n0 c0 e0 a1 n1 c1 e1) := by rw [← hh0]; simp [wObj]
  have w1 := s1.get w0 (Own.lt w0)
  have i1 : h1[h0.length]? = some (.cells t_impl_Need [.str ct, .str tt] false) := by rw [← hh1]; simp
  rw [wRow w1]
  simp only [xRow_some, xCons_cons, xNil_nil, xSl_some]
  refine (worldValid_ok (r.same (s0.cat s1)) b).mono ?_
  rintro v h2 ⟨rfl, s2⟩
  simp only [xBool_some]
  have i2 := s2.get i1 (Own.lt i1)
  have w2 := s2.get w1 (Own.lt w1)
  refine bcase_intro (fun b1 => ?_) (fun b1 => ⟨by rw [b1]; rfl, (s0.cat s1).cat s2⟩)
  rw [wRow w2, hRow_of i2 (by simp)]
  simp only [List.drop_zero, List.take_succ_cons, List.take_zero, xRow_some, xCons_cons, xNil_nil, xSl_some, xStr_some]
  refine (needOk_ok (r.same ((s0.cat s1).cat s2)) b).mono ?_
  rintro v h3 ⟨rfl, s3⟩
  simp only [xBool_some]
  exact ⟨by rw [b1]; rfl, ((s0.cat s1).cat s2).cat s3⟩
theorem candLit_ok {h : AHeap} {a : Pt} {n c j : Nat} {e : Bool} {ct tt nc nt : List Nat} (hj : h[j]? = some (.cells t_impl_Need [.str nc, .str nt] false)) :
    SCall pg n_impl_candidates_lit1 [.agg [.str ct, .str tt, .slice a n c e], .ptr (some (j, 0))] h fun v h' => v = .bool (instS tt nt) ∧ Same h.length h h' := by
  apply F_impl_candidates_lit1.call
  have s1 : Same h.length h (h ++ [.cells t_impl_Instance [.str ct, .str tt, .slice a n c e] false]) := same_last
  simp only [letH_def, hCell_last, Nat.zero_add, List.getElem?_cons_succ, List.getElem?_cons_zero, xStr_some, fa1, hCell_of (s1.get hj (Own.lt hj))]
  refine (isInstance_ok tt nt _).mono ?_
  rintro v h2 ⟨rfl, s2⟩
  simp only [xBool_some]
  exact ⟨by trivial, s1.cat s2⟩
theorem store3' {h : AHeap} {t : TypeId} {x y z a b c : AVal} : hStore (h ++ [.cells t [x, y, z] false]) (.ptr (some (h.length, 0))) [a, b, c] = some (h ++ [.cells t [a, b, c] false]) := store_last rfl
theorem among_cand {h : AHeap} {a0 a1 : Pt} {n0 c0 n1 c1 j : Nat} {e0 e1 : Bool} {w : Wd} {nd : Nd} (r : WRep h a0 n0 c0 a1 n1 c1 w) (b : WB w) (hj : h[j]? = some (.cells t_impl_Need [.str nd.1, .str nd.2] false)) :
    SCall pg n_impl_among [.agg [.slice a0 n0 c0 e0, .slice a1 n1 c1 e1], .str nd.1, .fn n_impl_candidates_lit1 [.ptr (some (j, 0))]] h fun v h' => Same h.length h h' ∧ ∃ a n c e, v = .slice a n c e ∧ FreshR t_int eI h.length h' a n (candW w nd) := by
  have hl1 := r.len1
  have hli := b.li
  apply F_impl_among__impl_candidates_lit1.call
  simp only [letH_def]
  generalize hh0 : h ++ [AObj.cells t_impl_World [.slice a0 n0 c0 e0, .slice a1 n1 c1 e1] false] = h0
  generalize hh1 : h0 ++ [AObj.cells t_int [] false] = h1
  have s0 : Same h.length h h0 := by rw [← hh0]; exact same_last
  have s1 : Same h0.length h0 h1 := by rw [← hh1]; exact same_last
  have w0 : h0[h.length]? = some (wObj a0 n0 c0 e0 a1 n1 c1 e1) := by rw [← hh0]; simp [wObj]
  have w1 := s1.get w0 (Own.lt w0)
  have o1 : h1[h0.length]? = some (.cells t_int [] false) := by rw [← hh1]; simp
  have l0 : h0.length = h.length + 1 := by rw [← hh0]; simp
  have S1 := s0.cat s1
  simp only [wCell w1, Nat.zero_add, List.getElem?_cons_succ, List.getElem?_cons_zero, xSl_some]
  refine F_impl_among__impl_candidates_lit1.L3ind _ _ _ _ _ _ _ _ (J := fun (g : Nat) a4 n4 c4 e4 x14 h' => x14 = (g : Int) ∧ g ≤ n1 ∧ Same h.length h h' ∧ n4 = (ixs (candF nd) (w.is.take g)).length ∧ Vec t_int h' a4 n4 c4 (flat eI (ixs (candF nd) (w.is.take g))) ∧ (∀ i, a4 = some (i, 0) → h.length ≤ i)) (fun g => n1 - g) ?_ 0 _ _ _ _ _ _
    ⟨rfl, by omega, S1, rfl, Vec.mk1 (by simpa [ixs] using o1), fun i hi => by cases hi; omega⟩
  rintro g a4 n4 c4 e4 x14 h' ⟨rfl, hg, hS, rfl, hv, ha⟩ R hR
  unfold F_impl_among__impl_candidates_lit1.L3t
  refine bcase_dec (fun hlt => ?_) (fun hge => ?_)
  · have hgl : g < w.is.length := by omega
    obtain ⟨i, o, a2, n2, c2, e2, rfl, _, hr, _, _, hrow, hn⟩ := inst_get (r.same hS) hgl
    simp only [xSome_some, Int.toNat_natCast, hr, xRow_some, xCons_cons, xNil_nil, xStr_some, xSl_some, letH_def]
    rw [store3']
    simp only [xHeap_some, hCell_last, Nat.zero_add, List.getElem?_cons_succ, List.getElem?_cons_zero, xStr_some]
    have hil := ixs_len (candF nd) (w.is.take g)
    rw [List.length_take] at hil
    have htk := ixs_take (candF nd) hgl
    generalize hq : h' ++ [AObj.cells t_impl_Instance [.str w.is[g].1.1, .str w.is[g].1.2, .slice a2 n2 c2 e2] false] = hq'
    have sq : Same h'.length h' hq' := by rw [← hq]; exact same_last
    have skip : ∀ hz, Same hq'.length hq' hz → candF nd w.is[g] = false → F_impl_among__impl_candidates_lit1.J7 (fun v h' => Same h.length h h' ∧ ∃ a n c e, v = .slice a n c e ∧ FreshR t_int eI h.length h' a n (candW w nd)) R (g : Int) (((n1 : Nat) : Int)) (some (i, o)) n1 c1 e1 nd.1 (.ptr (some (j, 0))) a4 (ixs (candF nd) (w.is.take g)).length c4 e4 hz := by
      intro hz sz hno
      apply F_impl_among__impl_candidates_lit1.J7i
      rw [hno] at htk
      simp only [Bool.false_eq_true, if_false, List.append_nil] at htk
      rw [wrap_nat (by omega)]
      exact hR (g + 1) _ _ _ _ _ _ (by omega) ⟨rfl, by omega, (hS.cat sq).cat sz, by rw [htk], by rw [htk]; exact (hv.same sq).same sz, ha⟩
    refine ⟨by omega, bcase_dec (fun hc => ?_) (fun hc => skip _ (Same.refl _ _) (by unfold candF; simp [hc]))⟩
    rw [← hq, rowL3, hq]
    simp only [xRow_some, xCons_cons, xNil_nil, xStr_some, xSl_some]
    refine (candLit_ok (sq.get (hS.get hj (Own.lt hj)) (by have := Own.lt hj; have := hS.le; omega))).mono ?_
    rintro v h3 ⟨rfl, s3⟩
    simp only [xBool_some]
    refine bcase_intro (fun hi => ?_) (fun hi => skip _ s3 (by unfold candF; simp [hi]))
    have hyes : candF nd w.is[g] = true := by unfold candF; simp [hc, hi]
    rw [hyes, if_pos rfl] at htk
    have S3 := (hS.cat sq).cat s3
    refine ((hv.same sq).same s3).push u_L_int c_int k_int b_int (by rw [flat_length eI_len]; omega) rfl (by omega) (fun h6 hl6 hi6 hk6 => ?_)
    simp only [xSl_some]
    apply F_impl_among__impl_candidates_lit1.J7i
    rw [wrap_nat (by omega)]
    have hle := S3.le
    refine hR (g + 1) _ _ _ _ _ _ (by omega) ⟨rfl, by omega, ⟨by omega, fun j hj => ?_⟩, by rw [htk]; simp, Vec.mk1 ?_, fun i hi => by cases hi; omega⟩
    · rw [hk6 j (by omega) fun i hi => by have := ha i hi; omega]; exact S3.eq j hj
    · rw [hi6, htk, flat_append]; rfl
  · apply F_impl_among__impl_candidates_lit1.A3x0i
    have : g = n1 := by omega
    subst this
    rw [List.take_of_length_le (by omega)] at hv ⊢
    exact ⟨hS, _, _, _, _, rfl, hv.fresh (b := h.length) rfl fun i hi => ha i hi⟩
/-- Candidates: a list of one's own. -/
def CandR (w : Wd) (n : Nd) (h : AHeap) (v : AVal) (h' : AHeap) : Prop := Same h.length h h' ∧ ∃ a m c e, v = .slice a m c e ∧ FreshR t_int eI h.length h' a m (candW w n)
theorem FreshR.low {α : Type} {ty : TypeId} {enc : α → List AVal} {b b' : Nat} {h : AHeap} {a : Pt} {n : Nat} {l : List α} (f : FreshR ty enc b h a n l) (hb : b' ≤ b) : FreshR ty enc b' h a n l :=
  ⟨f.1, f.2.imp id fun ⟨i, ha, hbi, hi⟩ => ⟨i, ha, by omega, hi⟩⟩
theorem candidates_ok {h : AHeap} {a0 a1 : Pt} {n0 c0 n1 c1 : Nat} {e0 e1 : Bool} {w : Wd} {nd : Nd} (r : WRep h a0 n0 c0 a1 n1 c1 w) (b : WB w) :
    SCall pg n_impl_candidates [.agg [.slice a0 n0 c0 e0, .slice a1 n1 c1 e1], .agg [.str nd.1, .str nd.2]] h (CandR w nd h) := by
  apply F_impl_candidates.call
  simp only [letH_def]
  generalize hh0 : h ++ [AObj.cells t_impl_World [.slice a0 n0 c0 e0, .slice a1 n1 c1 e1] false] = h0
  generalize hh1 : h0 ++ [AObj.cells t_impl_Need [.str nd.1, .str nd.2] false] = h1
  have s0 : Same h.length h h0 := by rw [← hh0]; exact same_last
  have s1 : Same h0.length h0 h1 := by rw [← hh1]; exact same_last
  have w0 : h0[h.length]? = some (wObj a0 n0 c0 e0 a1 n1 c1 e1) := by rw [← hh0]; simp [wObj]
  have w1 := s1.get w0 (Own.lt w0)
  have i1 : h1[h0.length]? = some (.cells t_impl_Need [.str nd.1, .str nd.2] false) := by rw [← hh1]; simp
  have S1 := s0.cat s1
  rw [wRow w1]
  simp only [xRow_some, xCons_cons, xNil_nil, xSl_some, hCell_of i1, Nat.zero_add, List.getElem?_cons_zero, xStr_some]
  refine (among_cand (r.same S1) b i1).mono ?_
  rintro v h2 ⟨s2, a, n, c, e, rfl, f⟩
  simp only [xSl_some]
  exact ⟨S1.cat s2, a, n, c, e, rfl, f.low S1.le⟩
/-- What CandidatesOf answers. -/
def CandQ (w : Wd) (n : Nd) (h : AHeap) (v : AVal) (h' : AHeap) : Prop := Same h.length h h' ∧ ∃ a m c e, v = .tup [.slice a m c e, .bool (worldOk w && needOkW w n)] ∧ FreshR t_int eI h.length h' a m (candL w n)
theorem sCandidates_ok {h : AHeap} {a0 a1 : Pt} {n0 c0 n1 c1 : Nat} {e0 e1 : Bool} {w : Wd} {nd : Nd} (r : WRep h a0 n0 c0 a1 n1 c1 w) (b : WB w) (hnt : nd.2.length ≤ 1048576) :
    SCall pg n_spec_l4Candidates [.agg [.slice a0 n0 c0 e0, .slice a1 n1 c1 e1], .agg [.str nd.1, .str nd.2]] h (CandR w nd h) := by
  have hl1 := r.len1
  have hli := b.li
  apply F_spec_l4Candidates.call
  simp only [letH_def]
  generalize hh0 : h ++ [AObj.cells t_impl_World [.slice a0 n0 c0 e0, .slice a1 n1 c1 e1] false] = h0
  generalize hh1 : h0 ++ [AObj.cells t_impl_Need [.str nd.1, .str nd.2] false] = h1
  generalize hh2 : h1 ++ [AObj.cells t_int [] false] = h2
  have s0 : Same h.length h h0 := by rw [← hh0]; exact same_last
  have s1 : Same h0.length h0 h1 := by rw [← hh1]; exact same_last
  have s2 : Same h1.length h1 h2 := by rw [← hh2]; exact same_last
  have w0 : h0[h.length]? = some (wObj a0 n0 c0 e0 a1 n1 c1 e1) := by rw [← hh0]; simp [wObj]
  have w2 := s2.get (s1.get w0 (Own.lt w0)) (by have := Own.lt w0; have := s1.le; omega)
  have i1 : h1[h0.length]? = some (.cells t_impl_Need [.str nd.1, .str nd.2] false) := by rw [← hh1]; simp
  have i2 := s2.get i1 (Own.lt i1)
  have o2 : h2[h1.length]? = some (.cells t_int [] false) := by rw [← hh2]; simp
  have S2 := (s0.cat s1).cat s2
  have hle1 := (s0.cat s1).le
  have l1' : h1.length = h0.length + 1 := by rw [← hh1]; simp
  simp only [wCell w2, Nat.zero_add, List.getElem?_cons_succ, List.getElem?_cons_zero, xSl_some]
  refine F_spec_l4Candidates.L3ind _ _ _ _ _ _ _ _ (J := fun (g : Nat) a4 n4 c4 e4 x12 h' => x12 = (g : Int) ∧ g ≤ n1 ∧ Same h.length h h' ∧ h'[h0.length]? = some (.cells t_impl_Need [.str nd.1, .str nd.2] false) ∧ n4 = (ixs (candF nd) (w.is.take g)).length ∧ Vec t_int h' a4 n4 c4 (flat eI (ixs (candF nd) (w.is.take g))) ∧ (∀ i, a4 = some (i, 0) → h1.length ≤ i)) (fun g => n1 - g) ?_ 0 _ _ _ _ _ _
    ⟨rfl, by omega, S2, i2, rfl, Vec.mk1 (by simpa [ixs] using o2), fun i hi => by cases hi; omega⟩
  rintro g a4 n4 c4 e4 x12 h' ⟨rfl, hg, hS, hi0, rfl, hv, ha⟩ R hR
  have hlt1 := Own.lt i1
  unfold F_spec_l4Candidates.L3t
  refine bcase_dec (fun hlt => ?_) (fun hge => ?_)
  · have hgl : g < w.is.length := by omega
    obtain ⟨i, o, a2, n2, c2, e2, rfl, _, hr, _, _, hrow, hn⟩ := inst_get (r.same hS) hgl
    simp only [xSome_some, Int.toNat_natCast, hr, xRow_some, xCons_cons, xNil_nil, xStr_some, xSl_some, letH_def]
    rw [store3']
    have hil := ixs_len (candF nd) (w.is.take g)
    rw [List.length_take] at hil
    have htk := ixs_take (candF nd) hgl
    have hb := b.is _ (List.getElem_mem hgl)
    generalize hq : h' ++ [AObj.cells t_impl_Instance [.str w.is[g].1.1, .str w.is[g].1.2, .slice a2 n2 c2 e2] false] = hq'
    have sq : Same h'.length h' hq' := by rw [← hq]; exact same_last
    have oq : hq'[h'.length]? = some (.cells t_impl_Instance [.str w.is[g].1.1, .str w.is[g].1.2, .slice a2 n2 c2 e2] false) := by rw [← hq]; simp
    have iq := sq.get hi0 (Own.lt hi0)
    simp only [xHeap_some, hCell_of oq, hCell_of iq, Nat.zero_add, List.getElem?_cons_succ, List.getElem?_cons_zero, xStr_some]
    have skip : ∀ hz, Same hq'.length hq' hz → candF nd w.is[g] = false → F_spec_l4Candidates.J7 (CandR w nd h) R (g : Int) (((n1 : Nat) : Int)) (some (i, o)) n1 c1 e1 h0.length 0 a4 (ixs (candF nd) (w.is.take g)).length c4 e4 hz := by
      intro hz sz hno
      apply F_spec_l4Candidates.J7i
      rw [hno] at htk
      simp only [Bool.false_eq_true, if_false, List.append_nil] at htk
      rw [wrap_nat (by omega)]
      exact hR (g + 1) _ _ _ _ _ _ (by omega) ⟨rfl, by omega, (hS.cat sq).cat sz, sz.get iq (Own.lt iq), by rw [htk], by rw [htk]; exact (hv.same sq).same sz, ha⟩
    refine ⟨by omega, bcase_dec (fun hc => ?_) (fun hc => skip _ (Same.refl _ _) (by unfold candF; simp [hc]))⟩
    refine (sIsInstance_ok _ _ hb.2.1 hnt _).mono ?_
    rintro v h3 ⟨rfl, s3⟩
    simp only [xBool_some]
    refine bcase_intro (fun hi => ?_) (fun hi => skip _ s3 (by unfold candF; simp [hi]))
    have hyes : candF nd w.is[g] = true := by unfold candF; simp [hc, hi]
    rw [hyes, if_pos rfl] at htk
    have S3 := (hS.cat sq).cat s3
    have i3 := s3.get iq (Own.lt iq)
    refine ((hv.same sq).same s3).push u_L_int c_int k_int b_int (by rw [flat_length eI_len]; omega) rfl (by omega) (fun h6 hl6 hi6 hk6 => ?_)
    simp only [xSl_some]
    apply F_spec_l4Candidates.J7i
    rw [wrap_nat (by omega)]
    have hle := S3.le
    have hle3 := Own.lt i3
    refine hR (g + 1) _ _ _ _ _ _ (by omega) ⟨rfl, by omega, ⟨by omega, fun j hj => ?_⟩, ?_, by rw [htk]; simp, Vec.mk1 ?_, fun i hi => by cases hi; have := s3.le; have := sq.le; have := Own.lt hi0; omega⟩
    · rw [hk6 j (by omega) fun i hi => by have := ha i hi; omega]; exact S3.eq j hj
    · rw [hk6 _ hle3 fun i hi => by have := ha i hi; omega]; exact i3
    · rw [hi6, htk, flat_append]; rfl
  · apply F_spec_l4Candidates.A3x0i
    have : g = n1 := by omega
    subst this
    rw [List.take_of_length_le (by omega)] at hv ⊢
    exact ⟨hS, _, _, _, _, rfl, hv.fresh (b := h.length) rfl fun i hi => by have := ha i hi; omega⟩
theorem sCandidatesOf_ok {h : AHeap} {a0 a1 : Pt} {n0 c0 n1 c1 : Nat} {e0 e1 : Bool} {w : Wd} {nd : Nd} (r : WRep h a0 n0 c0 a1 n1 c1 w) (b : WB w) (hnt : nd.2.length ≤ 1048576) :
    SCall pg n_spec_CandidatesOf [.agg [.slice a0 n0 c0 e0, .slice a1 n1 c1 e1], .agg [.str nd.1, .str nd.2]] h (CandQ w nd h) := by
  apply F_spec_CandidatesOf.call
  simp only [letH_def]
  generalize hh0 : h ++ [AObj.cells t_impl_World [.slice a0 n0 c0 e0, .slice a1 n1 c1 e1] false] = h0
  generalize hh1 : h0 ++ [AObj.cells t_impl_Need [.str nd.1, .str nd.2] false] = h1
  have s0 : Same h.length h h0 := by rw [← hh0]; exact same_last
  have s1 : Same h0.length h0 h1 := by rw [← hh1]; exact same_last
  have w0 : h0[h.length]? = some (wObj a0 n0 c0 e0 a1 n1 c1 e1) := by rw [← hh0]; simp [wObj]
  have w1 := s1.get w0 (Own.lt w0)
  have i1 : h1[h0.length]? = some (.cells t_impl_Need [.str nd.1, .str nd.2] false) := by rw [← hh1]; simp
  have S1 := s0.cat s1
  rw [wRow w1, hRow_of i1 (by simp)]
  simp only [List.drop_zero, List.take_succ_cons, List.take_zero, xRow_some, xCons_cons, xNil_nil, xSl_some, xStr_some]
  refine (needValid_ok (r.same S1) b hnt).mono ?_
  rintro v h2 ⟨rfl, s2⟩
  have i2 := s2.get i1 (Own.lt i1)
  have w2 := s2.get w1 (Own.lt w1)
  have S2 := S1.cat s2
  simp only [xBool_some]
  refine bcase_not (fun b1 => ⟨S2.cat same_last, _, 0, 0, true, by rw [b1], by unfold candL; rw [b1]; exact ⟨rfl, .inl rfl⟩⟩) (fun b1 => ?_)
  rw [wRow w2, hRow_of i2 (by simp)]
  simp only [List.drop_zero, List.take_succ_cons, List.take_zero, xRow_some, xCons_cons, xNil_nil, xSl_some, xStr_some]
  refine (sCandidates_ok (r.same S2) b hnt).mono ?_
  rintro v h3 ⟨s3, a, n, c, e, rfl, f⟩
  simp only [xSl_some]
  exact ⟨S2.cat s3, a, n, c, e, by rw [b1], by unfold candL; rw [if_pos b1]; exact f.low S2.le⟩
end Go.Sim

set_option linter.unusedVariables false
set_option linter.unusedSimpArgs false
set_option maxRecDepth 20000
namespace Go.Sim
open Go Go.RowKit

def insAt (w : Wd) (x : Int) : Ins := w.is.getD x.toNat (([], []), [])
theorem insAt_of {w : Wd} {k : Nat} (h : k < w.is.length) : insAt w (k : Int) = w.is[k] := by unfold insAt; rw [Int.toNat_natCast, getD_at h]
/-- Special to all of some. -/
noncomputable def topOf (w : Wd) (l : List Int) (x : Int) : Bool := l.all fun k => specI (insAt w x) (insAt w k)
noncomputable def mostI (w : Wd) (l : List Int) : Int := match l.find? (topOf w l) with | some x => x | none => -1
noncomputable def mostW (w : Wd) (n : Nd) : Int := mostI w (candL w n)
theorem find_take {α : Type} {f : α → Bool} {l : List α} {g : Nat} (hg : g < l.length) (h : (l.take g).find? f = none) (k : f l[g] = true) : l.find? f = some l[g] := by
  have h1 : l = l.take g ++ l[g] :: l.drop (g + 1) := by rw [← List.drop_eq_getElem_cons hg, List.take_append_drop]
  conv => lhs; rw [h1]
  rw [List.find?_append, h, List.find?_cons, k]; rfl
theorem find_take_succ {α : Type} {f : α → Bool} {l : List α} {g : Nat} (hg : g < l.length) (h : (l.take g).find? f = none) (k : f l[g] = false) : (l.take (g + 1)).find? f = none := by
  rw [List.take_succ_eq_append_getElem hg, List.find?_append, h]; simp [k]
def InW (w : Wd) (l : List Int) : Prop := ∀ x ∈ l, ∃ k : Nat, x = k ∧ k < w.is.length
theorem candW_in (w : Wd) (n : Nd) : InW w (candW w n) := fun x hx => by obtain ⟨k, hk, e, _⟩ := ixs_mem hx; exact ⟨k, e, hk⟩
theorem candL_in (w : Wd) (n : Nd) : InW w (candL w n) := fun x hx => by
  unfold candL at hx
  split at hx
  · exact candW_in w n x hx
  · cases hx
theorem faW1 {j o : Nat} {K : AVal → Prop} : fieldAddrA pg t_impl_World (.ptr (some (j, o))) 1 K = K (.ptr (some (j, o + 1))) := by kernel_rfl
theorem Row.i64 {b : Nat} {h : AHeap} {a : Pt} {n : Nat} {l : List Int} (r : Row b h a n (flat eI l)) {k : Nat} (hk : k < n) : ∃ i o, ∃ hk' : k < l.length, a = some (i, o) ∧ i < b ∧ hCell h (.ptr (some (i, o + k * 1))) = some (.int .i64 l[k]) := by
  obtain ⟨i, o, hk', ha, hi, hc⟩ := Row.el1 eI_len r hk
  exact ⟨i, o, hk', ha, hi, hc⟩
theorem mostLit_ok {h : AHeap} {a0 a1 : Pt} {n0 c0 n1 c1 j j2 : Nat} {e0 e1 : Bool} {w : Wd} {x y : Int} (r : WRep h a0 n0 c0 a1 n1 c1 w) (hj : h[j]? = some (wObj a0 n0 c0 e0 a1 n1 c1 e1)) (hj2 : h[j2]? = some (.cells t_int [.int .i64 x] false))
    (hx : ∃ k : Nat, x = k ∧ k < w.is.length) (hy : ∃ k : Nat, y = k ∧ k < w.is.length) :
    SCall pg n_impl_mostSpecial_lit1 [.int .i64 y, .ptr (some (j, 0)), .ptr (some (j2, 0))] h fun v h' => v = .bool (!specI (insAt w x) (insAt w y)) ∧ Same h.length h h' := by
  obtain ⟨k, rfl, hk⟩ := hx
  obtain ⟨l, rfl, hl⟩ := hy
  have hl1 := r.len1
  apply F_impl_mostSpecial_lit1.call
  obtain ⟨i, o, ka, kn, kc, ke, rfl, hi, hr1, _⟩ := inst_get r hk
  obtain ⟨i', o', la, ln, lc, le, he, hi', hr2, _⟩ := inst_get r hl
  cases he
  simp only [faW1, wCell hj, hCell_of hj2, Nat.zero_add, List.getElem?_cons_succ, List.getElem?_cons_zero, xSl_some, xSome_some, Int.toNat_natCast, hr1, hr2, xRow_some, xCons_cons, xNil_nil, xStr_some, xInt_some, true_and]
  refine ⟨by omega, by omega, special_ok.mono ?_⟩
  rintro v h3 ⟨rfl, s3⟩
  simp only [xBool_some]
  refine ⟨by rw [hCell_of (s3.get hj2 (Own.lt hj2))]; rfl, by rw [wCell (s3.get hj (Own.lt hj))]; rfl, ?_, s3⟩
  rw [insAt_of hk, insAt_of hl]
theorem index_most {h : AHeap} {a0 a1 : Pt} {n0 c0 n1 c1 j j2 : Nat} {e0 e1 : Bool} {w : Wd} {x : Int} {a : Pt} {n c : Nat} {e : Bool} {l : List Int} (r : WRep h a0 n0 c0 a1 n1 c1 w) (hj : h[j]? = some (wObj a0 n0 c0 e0 a1 n1 c1 e1)) (hj2 : h[j2]? = some (.cells t_int [.int .i64 x] false))
    (rl : Row h.length h a n (flat eI l)) (hn : n ≤ 1048576) (hx : ∃ k : Nat, x = k ∧ k < w.is.length) (hin : InW w l) :
    SCall pg n_slices_IndexFunc_L_int_int [.slice a n c e, .fn n_impl_mostSpecial_lit1 [.ptr (some (j, 0)), .ptr (some (j2, 0))]] h fun v h' => (∃ z : Int, v = .int .i64 z ∧ decide (z ≥ 0) = !topOf w l x) ∧ Same h.length h h' := by
  have hll : l.length = n := by have := rl.1; rw [flat_length eI_len] at this; omega
  apply F_slices_IndexFunc_L_int_int__impl_mostSpecial_lit1.call
  refine F_slices_IndexFunc_L_int_int__impl_mostSpecial_lit1.L2ind _ _ _ _ _ _ _ _ (J := fun (g : Nat) x8 h' => x8 = (g : Int) ∧ g ≤ n ∧ Same h.length h h' ∧ (l.take g).all (fun k => specI (insAt w x) (insAt w k)) = true) (fun g => n - g) ?_ 0 _ _ ⟨rfl, by omega, Same.refl _ _, rfl⟩
  rintro g x8 h' ⟨rfl, hg, hS, hk⟩ R hR
  unfold F_slices_IndexFunc_L_int_int__impl_mostSpecial_lit1.L2t
  refine bcase_dec (fun hlt => ?_) (fun hge => ?_)
  · obtain ⟨i, o, hgl, rfl, _, hr⟩ := (rl.same hS).i64 (k := g) (by omega)
    simp only [xSome_some, Int.toNat_natCast, hr, xInt_some]
    refine ⟨by omega, (mostLit_ok (r.same hS) (hS.get hj (Own.lt hj)) (hS.get hj2 (Own.lt hj2)) hx (hin _ (List.getElem_mem hgl))).mono ?_⟩
    rintro v h2 ⟨rfl, s2⟩
    simp only [xBool_some]
    have hS2 := hS.cat s2
    refine bcase_not (fun he => ?_) (fun he => ?_)
    · exact ⟨⟨_, rfl, by unfold topOf; rw [not_all hgl he]; simp⟩, hS2⟩
    · rw [wrap_nat (by omega)]
      exact hR (g + 1) _ _ (by omega) ⟨rfl, by omega, hS2, take_succ_all hgl hk he⟩
  · apply F_slices_IndexFunc_L_int_int__impl_mostSpecial_lit1.A2x0i
    have : g = n := by omega
    subst this
    rw [List.take_of_length_le (by omega)] at hk
    exact ⟨⟨_, rfl, by unfold topOf; rw [hk]; rfl⟩, hS⟩
theorem store1 {h : AHeap} {t : TypeId} {x a : AVal} : hStore (h ++ [.cells t [x] false]) (.ptr (some (h.length, 0))) [a] = some (h ++ [.cells t [a] false]) := store_last rfl
theorem iMost_ok {h : AHeap} {a0 a1 : Pt} {n0 c0 n1 c1 : Nat} {e0 e1 : Bool} {w : Wd} {a : Pt} {n c : Nat} {e : Bool} {l : List Int} (r : WRep h a0 n0 c0 a1 n1 c1 w) (rl : Row h.length h a n (flat eI l)) (hn : n ≤ 1048576) (hin : InW w l) :
    SCall pg n_impl_mostSpecial [.agg [.slice a0 n0 c0 e0, .slice a1 n1 c1 e1], .slice a n c e] h fun v h' => v = .int .i64 (mostI w l) ∧ Same h.length h h' := by
  have hll : l.length = n := by have := rl.1; rw [flat_length eI_len] at this; omega
  apply F_impl_mostSpecial.call
  simp only [letH_def]
  generalize hh0 : h ++ [AObj.cells t_impl_World [.slice a0 n0 c0 e0, .slice a1 n1 c1 e1] false] = h0
  have s0 : Same h.length h h0 := by rw [← hh0]; exact same_last
  have w0 : h0[h.length]? = some (wObj a0 n0 c0 e0 a1 n1 c1 e1) := by rw [← hh0]; simp [wObj]
  have l0 : h0.length = h.length + 1 := by rw [← hh0]; simp
  refine F_impl_mostSpecial.L2ind _ _ _ _ _ _ _ _ _ _ _ _ (J := fun (g : Nat) x9 h' => x9 = (g : Int) ∧ g ≤ n ∧ Same h0.length h0 h' ∧ (l.take g).find? (topOf w l) = none) (fun g => n - g) ?_ 0 _ _ ⟨rfl, by omega, Same.refl _ _, rfl⟩
  rintro g x9 h' ⟨rfl, hg, hS, hk⟩ R hR
  have SS := s0.cat hS
  unfold F_impl_mostSpecial.L2t
  refine bcase_dec (fun hlt => ?_) (fun hge => ?_)
  · obtain ⟨i, o, hgl, rfl, _, hr⟩ := (rl.same SS).i64 (k := g) (by omega)
    simp only [xSome_some, Int.toNat_natCast, hr, xInt_some, letH_def]
    rw [store1]
    generalize hq : h' ++ [AObj.cells t_int [.int .i64 l[g]] false] = hq'
    have sq : Same h'.length h' hq' := by rw [← hq]; exact same_last
    have oq : hq'[h'.length]? = some (.cells t_int [.int .i64 l[g]] false) := by rw [← hq]; simp
    have Sq := SS.cat sq
    have wq := sq.get (hS.get w0 (Own.lt w0)) (by have := Own.lt w0; have := hS.le; omega)
    simp only [xHeap_some]
    refine ⟨by omega, ?_⟩
    apply F_slices_ContainsFunc_L_int_int__impl_mostSpecial_lit1.call
    refine (index_most (r.same Sq) wq oq (rl.same' Sq) hn (hin _ (List.getElem_mem hgl)) hin).mono ?_
    rintro v h5 ⟨⟨z, rfl, hz⟩, s5⟩
    simp only [xInt_some, xBool_some, hz, Bool.not_not]
    refine bcase_intro (fun ht => ?_) (fun ht => ?_)
    · simp only [hCell_of (s5.get oq (Own.lt oq)), List.getElem?_cons_zero, xInt_some]
      refine ⟨?_, Sq.cat s5⟩
      unfold mostI
      rw [find_take hgl hk ht]
    · rw [wrap_nat (by omega)]
      exact hR (g + 1) _ _ (by omega) ⟨rfl, by omega, (hS.cat sq).cat s5, find_take_succ hgl hk ht⟩
  · apply F_impl_mostSpecial.A2x0i
    have : g = n := by omega
    subst this
    rw [List.take_of_length_le (by omega)] at hk
    exact ⟨by unfold mostI; rw [hk], SS⟩
theorem specW_in {w : Wd} {x y : Int} (hw : worldOk w = true) (hx : ∃ k : Nat, x = k ∧ k < w.is.length) (hy : ∃ k : Nat, y = k ∧ k < w.is.length) : specW w x y = specI (insAt w x) (insAt w y) := by
  obtain ⟨k, rfl, hk⟩ := hx
  obtain ⟨l, rfl, hl⟩ := hy
  unfold specW
  rw [hw, inIx_at hk, inIx_at hl]; rfl
theorem sMostSpecial_ok {h : AHeap} {a0 a1 : Pt} {n0 c0 n1 c1 : Nat} {e0 e1 : Bool} {w : Wd} {nd : Nd} (r : WRep h a0 n0 c0 a1 n1 c1 w) (b : WB w) (hnt : nd.2.length ≤ 1048576) :
    SCall pg n_spec_MostSpecial [.agg [.slice a0 n0 c0 e0, .slice a1 n1 c1 e1], .agg [.str nd.1, .str nd.2]] h fun v h' => v = .int .i64 (mostW w nd) ∧ Same h.length h h' := by
  have hl1 := r.len1
  have hli := b.li
  apply F_spec_MostSpecial.call
  simp only [letH_def]
  generalize hh0 : h ++ [AObj.cells t_impl_World [.slice a0 n0 c0 e0, .slice a1 n1 c1 e1] false] = h0
  generalize hh1 : h0 ++ [AObj.cells t_impl_Need [.str nd.1, .str nd.2] false] = h1
  have s0 : Same h.length h h0 := by rw [← hh0]; exact same_last
  have s1 : Same h0.length h0 h1 := by rw [← hh1]; exact same_last
  have w0 : h0[h.length]? = some (wObj a0 n0 c0 e0 a1 n1 c1 e1) := by rw [← hh0]; simp [wObj]
  have w1 := s1.get w0 (Own.lt w0)
  have i1 : h1[h0.length]? = some (.cells t_impl_Need [.str nd.1, .str nd.2] false) := by rw [← hh1]; simp
  have S1 := s0.cat s1
  rw [wRow w1, hRow_of i1 (by simp)]
  simp only [List.drop_zero, List.take_succ_cons, List.take_zero, xRow_some, xCons_cons, xNil_nil, xSl_some, xStr_some]
  refine (sCandidatesOf_ok (r.same S1) b hnt).mono ?_
  rintro v h2 ⟨s2, a, n, c, e, rfl, f⟩
  have w2 := s2.get w1 (Own.lt w1)
  have S2 := S1.cat s2
  simp only [xTup_tup, xCons_cons, xSl_some, xBool_some, xNil_nil]
  have hcl := ixs_len (candF nd) w.is
  have hnl : n ≤ 1048576 := by
    have := f.1
    unfold candL at this
    split at this
    · unfold candW at this; omega
    · simp at this; omega
  have rl : Row h2.length h2 a n (flat eI (candL w nd)) := by simpa using f.row eI_len
  have hll : (candL w nd).length = n := f.1
  have hin := candL_in w nd
  have hwv : ∀ x ∈ candL w nd, worldOk w = true := fun x hx => by
    unfold candL at hx
    split at hx
    · rename_i h; simp only [Bool.and_eq_true] at h; exact h.1
    · cases hx
  generalize hlg : candL w nd = l at *
  refine F_spec_MostSpecial.L3ind _ _ _ _ _ _ _ _ _ _ _ _ (J := fun (g : Nat) x20 h' => x20 = (g : Int) ∧ g ≤ n ∧ Same h2.length h2 h' ∧ (l.take g).find? (topOf w l) = none) (fun g => n - g) ?_ 0 _ _ ⟨rfl, by omega, Same.refl _ _, rfl⟩
  rintro g x20 h' ⟨rfl, hg, hS, hk⟩ R hR
  unfold F_spec_MostSpecial.L3t
  refine bcase_dec (fun hlt => ?_) (fun hge => ?_)
  · obtain ⟨i, o, hgl, rfl, _, hr⟩ := (rl.same hS).i64 (k := g) (by omega)
    simp only [xSome_some, Int.toNat_natCast, hr, xInt_some]
    refine ⟨by omega, ?_⟩
    refine F_spec_MostSpecial.L7ind _ _ _ _ _ _ _ _ _ _ _ _ _ _ _ _ _ _ _ _ (J := fun (q : Nat) x9 x26 h3 => x26 = (q : Int) ∧ q ≤ n ∧ Same h'.length h' h3 ∧ x9 = (l.take q).all fun k => specI (insAt w l[g]) (insAt w k)) (fun q => n - q) ?_ 0 _ _ _ ⟨rfl, by omega, Same.refl _ _, rfl⟩
    rintro q x9 x26 h3 ⟨rfl, hq, hS3, rfl⟩ R7 hR7
    unfold F_spec_MostSpecial.L7t
    have SS := hS.cat hS3
    refine bcase_dec (fun hlt3 => ?_) (fun hge3 => ?_)
    · obtain ⟨i', o', hql, he, _, hr3⟩ := (rl.same SS).i64 (k := q) (by omega)
      cases he
      simp only [xSome_some, Int.toNat_natCast, hr3, xInt_some]
      have htk : (l.take (q + 1)).all (fun k => specI (insAt w l[g]) (insAt w k)) = ((l.take q).all (fun k => specI (insAt w l[g]) (insAt w k)) && specI (insAt w l[g]) (insAt w l[q])) := by
        rw [List.take_succ_eq_append_getElem hql, List.all_append]; simp
      have go : ∀ (h4 : AHeap) (b9 : Bool), Same h3.length h3 h4 → b9 = (l.take (q + 1)).all (fun k => specI (insAt w l[g]) (insAt w k)) → F_spec_MostSpecial.J10 (fun v h' => v = AVal.int .i64 (mostW w nd) ∧ Same h.length h h') R R7 (q : Int) (((n : Nat) : Int)) (some (i, o)) n c e b9 h.length 0 l[g] (g : Int) (((n : Nat) : Int)) (some (i, o)) n c e (some (i, o)) n c e h4 := by
        intro h4 b9 s4 hb9
        apply F_spec_MostSpecial.J10i
        rw [wrap_nat (by omega)]
        exact hR7 (q + 1) _ _ _ (by omega) ⟨rfl, by omega, hS3.cat s4, hb9⟩
      refine ⟨by omega, bcase_intro (fun hx => ?_) (fun hx => go _ _ (Same.refl _ _) (by rw [htk, hx]; rfl))⟩
      have w3 := SS.get w2 (Own.lt w2)
      rw [wRow w3]
      simp only [xRow_some, xCons_cons, xNil_nil, xSl_some]
      refine (sIsSpecial_ok (r.same (S2.cat SS)) b).mono ?_
      rintro v h4 ⟨rfl, s4⟩
      simp only [xBool_some]
      refine go _ _ s4 ?_
      rw [htk, hx, specW_in (hwv _ (List.getElem_mem hgl)) (hin _ (List.getElem_mem hgl)) (hin _ (List.getElem_mem hql))]; rfl
    · apply F_spec_MostSpecial.A7x2i
      have : q = n := by omega
      subst this
      rw [List.take_of_length_le (by omega)]
      refine bcase_intro (fun ht => ?_) (fun ht => ?_)
      · refine ⟨?_, S2.cat SS⟩
        unfold mostW mostI
        rw [hlg, find_take hgl hk ht]
      · rw [wrap_nat (by omega)]
        exact hR (g + 1) _ _ (by omega) ⟨rfl, by omega, SS, find_take_succ hgl hk ht⟩
  · apply F_spec_MostSpecial.A3x0i
    have : g = n := by omega
    subst this
    rw [List.take_of_length_le (by omega)] at hk
    exact ⟨by unfold mostW mostI; rw [hlg, hk], S2.cat hS⟩
end Go.Sim

/- The search for dictionaries, and the reduction of needs: plain Lean. -/
set_option linter.unusedSimpArgs false
set_option linter.unusedVariables false
namespace Go.Sim

/-- Valid instances have needs whose type is one. -/
theorem applyS_ok {l : List Nd} {t u : List Nat} (h : applyS l t = some u) : tyOk u = true := by
  unfold applyS at h
  split at h
  · rename_i hc
    cases h
    simp only [Bool.and_eq_true, decide_eq_true_eq] at hc
    obtain ⟨a, ha⟩ := tyOk_some hc.1.2
    obtain ⟨h1, h2, h3⟩ := ofTxt_some.1 ha
    have := applyT_txt hc.1.1 h1
    rw [← h2] at this
    exact tyOk_iff.2 ⟨_, this.2, this.1, hc.2⟩
  · cases h
theorem needsW_mem {i : Ins} {t : List Nat} {ms : List Nd} (h : needsW i t = some ms) : ms.length = i.2.length ∧ ∀ m ∈ ms, tyOk m.2 = true ∧ ∃ n ∈ i.2, m.1 = n.1 := by
  unfold needsW at h
  split at h
  · cases h
  · rename_i b hb
    split at h
    · rename_i hall
      cases h
      refine ⟨by simp, fun m hm => ?_⟩
      obtain ⟨n, hn, rfl⟩ := List.mem_map.1 hm
      have := List.all_eq_true.1 hall n hn
      obtain ⟨u, hu⟩ := Option.isSome_iff_exists.1 this
      have h2 := applyS_ok hu
      unfold applyS at hu
      split at hu
      · cases hu; exact ⟨h2, n, hn, rfl⟩
      · cases hu
    · cases h
/-- In a valid world the needs of an instance are valid, and there are at most three. -/
theorem needsW_ok {w : Wd} (hw : worldOk w = true) {i : Ins} (hi : i ∈ w.is) {t : List Nat} {ms : List Nd} (h : needsW i t = some ms) : ms.length ≤ 3 ∧ ∀ m ∈ ms, needOkW w m = true := by
  obtain ⟨h1, h2⟩ := needsW_mem h
  unfold worldOk at hw
  simp only [Bool.and_eq_true, List.all_eq_true] at hw
  have h3 := hw.2 i hi
  unfold insOk at h3
  simp only [Bool.and_eq_true, List.all_eq_true, decide_eq_true_eq] at h3
  refine ⟨by omega, fun m hm => ?_⟩
  obtain ⟨h4, n, hn, he⟩ := h2 m hm
  have h5 := h3.2 n hn
  unfold needIn at h5
  simp only [Bool.and_eq_true] at h5
  unfold needOkW
  rw [h4, he, h5.1.1.1]; rfl
end Go.Sim
