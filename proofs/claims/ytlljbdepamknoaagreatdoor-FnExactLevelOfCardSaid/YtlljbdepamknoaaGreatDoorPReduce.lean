/- A part of the proof of a statement of this seat: see the text that holds the theorem. No condition. -/
import Derived.Test.YtlljbdepamknoaaGreatDoorPTCMatch2
import Derived.Test.YtlljbdepamknoaaGreatDoorCSMatch2
import Derived.Test.YtlljbdepamknoaaGreatDoorPMatch
import Derived.Test.YtlljbdepamknoaaGreatDoorPTCMarkW
import Derived.Test.YtlljbdepamknoaaGreatDoorNm
import Derived.Test.YtlljbdepamknoaaGreatDoorCWRep
import Derived.Test.YtlljbdepamknoaaGreatDoorPTCMost
set_option linter.unusedVariables false
set_option linter.unusedSimpArgs false
set_option linter.all false
set_option linter.unusedVariables false
set_option linter.unusedSimpArgs false
set_option maxRecDepth 20000
namespace Go.Sim
open Go Go.RowKit

theorem isVarS_len {s : List Nat} (h : ((s.length : Nat) : Int) ≠ 1) : isVarS s = false := by
  match s, h with
  | [], _ => rfl
  | [x], h => exact absurd rfl h
  | _ :: _ :: _, _ => rfl
theorem one_of {s : List Nat} (h : ((s.length : Nat) : Int) = 1) : ∃ v, s = [v] := by
  match s, h with
  | [], h => simp at h
  | [x], _ => exact ⟨x, rfl⟩
  | _ :: _ :: _, h => simp at h; omega
theorem sBindingsValid_ok {h : AHeap} {a : Pt} {n c : Nat} {e : Bool} {l : List Nd} (r : Row h.length h a (n * 2) (flat eP l)) (hn : n ≤ 1048576) (hb : ∀ p ∈ l, p.2.length ≤ 1048576) (hb1 : ∀ p ∈ l, ∀ x ∈ p.1, x < 256) :
    SCall pg n_spec_BindingsValid [.slice a n c e] h fun v h' => v = .bool (bindOk l) ∧ Same h.length h h' := by
  have hl : l.length = n := by have := r.1; rw [flat_length eP_len] at this; omega
  apply F_spec_BindingsValid.call
  refine F_spec_BindingsValid.L2ind _ _ _ _ _ _ _ _ _ _ (J := fun (g : Nat) x7 h' => x7 = (g : Int) ∧ g ≤ n ∧ Same h.length h h' ∧ (List.range g).all (bindAt l) = true) (fun g => n - g) ?_ 0 _ _ ⟨rfl, by omega, Same.refl _ _, rfl⟩
  rintro g x7 h' ⟨rfl, hg, hS, hk⟩ R hR
  unfold F_spec_BindingsValid.L2t
  refine bcase_dec (fun hlt => ?_) (fun hge => ?_)
  · obtain ⟨i, o, hgl, rfl, hi, hr, _, _⟩ := (r.same hS).pr (k := g) (by omega)
    have hat : bindAt l g = (isVarS l[g].1 && tyOk l[g].2 && (g == 0 || natLess (l.getD (g - 1) ([], [])).1 l[g].1)) := by unfold bindAt; rw [getD_at hgl]
    have no : bindAt l g = false → bindOk l = false := fun hno => range_not_all hgl hno
    have hbg := hb _ (List.getElem_mem hgl)
    have hbg1 := hb1 _ (List.getElem_mem hgl)
    simp only [xSome_some, Int.toNat_natCast, hr, xRow_some, xCons_cons, xNil_nil, xStr_some, letH_def]
    rw [store2]
    generalize hq : h' ++ [AObj.cells t_impl_Binding [.str l[g].1, .str l[g].2] false] = hq'
    have sq : Same h'.length h' hq' := by rw [← hq]; exact same_last
    have oq : hq'[h'.length]? = some (.cells t_impl_Binding [.str l[g].1, .str l[g].2] false) := by rw [← hq]; simp
    have Sq := hS.cat sq
    simp only [xHeap_some, hCell_of oq, Nat.zero_add, List.getElem?_cons_succ, List.getElem?_cons_zero, xStr_some, true_and]
    refine ⟨by omega, bcase_nbeq (fun b0 => ⟨by rw [no (by rw [hat, isVarS_len b0]; rfl)], Sq⟩) (fun b0 => ?_)⟩
    obtain ⟨v, hv⟩ := one_of b0
    rw [hv] at hbg1
    have hvl := hbg1 v (by simp)
    rw [hv]
    refine ⟨by simp, ?_⟩
    simp only [Int.toNat_zero, List.getD_cons_zero]
    refine (l1Variable_ok v).mono ?_
    rintro v' h2 ⟨rfl, rfl⟩
    simp only [xBool_some]
    have hiv : isVarS l[g].1 = isVarN v := by rw [hv]; rfl
    refine bcase_not (fun b1 => ⟨by rw [no (by rw [hat, hiv, b1]; rfl)], Sq⟩) (fun b1 => ?_)
    simp only [hCell_of oq, List.getElem?_cons_succ, List.getElem?_cons_zero, xStr_some]
    refine (sTypeValid_ok l[g].2 (by omega) h2).mono ?_
    rintro v' h3 ⟨rfl, s3⟩
    simp only [xBool_some]
    have S3 := Sq.cat s3
    refine bcase_not (fun b2 => ⟨by rw [no (by rw [hat, b2]; simp)], S3⟩) (fun b2 => ?_)
    have go : (g = 0 ∨ natLess (l.getD (g - 1) ([], [])).1 l[g].1 = true) → F_spec_BindingsValid.J6 (fun v h' => v = .bool (bindOk l) ∧ Same h.length h h') R (g : Int) (((n : Nat) : Int)) (some (i, o)) n c e (some (i, o)) n c e h3 := by
      intro hz
      apply F_spec_BindingsValid.J6i
      rw [wrap_nat (by omega)]
      refine hR (g + 1) _ _ (by omega) ⟨rfl, by omega, S3, range_succ_all hk ?_⟩
      rw [hat, hiv, b1, b2]
      rcases hz with rfl | hz
      · rfl
      · rw [hz]; simp
    refine bcase_dec (fun hpos => ?_) (fun hz => go (.inl (by omega)))
    have hg0 : 0 < g := by omega
    obtain ⟨i', o', hgl', he, _, _, hc', _⟩ := (r.same S3).pr (k := g - 1) (by omega)
    cases he
    rw [wrap_pred1 hg0 (by omega)]
    simp only [xSome_some, Int.toNat_natCast, Nat.add_zero, hc', hCell_of (s3.get oq (Own.lt oq)), List.getElem?_cons_zero, xStr_some, true_and]
    have hgd : l.getD (g - 1) ([], []) = l[g - 1] := getD_at hgl'
    refine ⟨by omega, bcase_not (fun b3 => ⟨by rw [no (by rw [hat, hiv, b1, b2, hgd, b3]; simp; omega)], S3⟩) (fun b3 => go (.inr (by rw [hgd]; exact b3)))⟩
  · apply F_spec_BindingsValid.A2x0i
    have : g = n := by omega
    subst this
    exact ⟨by unfold bindOk; rw [hl, hk], hS⟩
theorem SRep.below {S : Nat → Prop} {h : AHeap} : ∀ {t : Ty} {v : List AVal}, SRep S h t v → SRep (fun j => S j ∧ j < h.length) h t v
  | .k d, _, h => h
  | .u d x, _, ⟨j, c, e, r, hv, sj, hj, hr⟩ => ⟨j, c, e, r, hv, ⟨sj, Own.lt hj⟩, hj, hr.below⟩
  | .w d x y, _, ⟨j, c, e, r, r', hv, sj, hj, hr, hr'⟩ => ⟨j, c, e, r, r', hv, ⟨sj, Own.lt hj⟩, hj, hr.below, hr'.below⟩
theorem subst_ps {f : Nat → Option Ty} {t : Ty} (h : f t.hd = none ∨ t.ps ≠ []) : (subst f t).hd = t.hd ∧ (subst f t).ps = t.ps.map (subst f) := by
  cases t with
  | k c =>
    have : f c = none := by rcases h with h | h; exact h; exact absurd rfl h
    simp [subst, this, Ty.hd, Ty.ps]
  | u c a => simp [subst, Ty.hd, Ty.ps]
  | w c a b => simp [subst, Ty.hd, Ty.ps]
theorem vu_L_l1Node : pg.underlying t_L_spec_l1Node = some (.slice t_spec_l1Node) := by kernel_rfl
theorem vc_l1Node : pg.cellsOf t_spec_l1Node = 2 := by kernel_rfl
theorem vk_l1Node : pg.okElem t_spec_l1Node = true := by kernel_rfl
theorem vb_l1Node : pg.bytesOf t_spec_l1Node ≤ 127 := Nat.le_of_ble_eq_true (by kernel_rfl)
theorem flatten_len2 {vs : List (List AVal)} (h : ∀ v ∈ vs, v.length = 2) : vs.flatten.length = vs.length * 2 := by
  rw [List.length_flatten]
  induction vs with
  | nil => rfl
  | cons v vs ih =>
    have h1 := h v (by simp)
    have h2 := ih (fun x hx => h x (by simp [hx]))
    simp only [List.map_cons, List.sum_cons, List.length_cons]; omega
/-- Putting what variables stand for into a tree. -/
theorem l2Put_ok : ∀ (N : Nat) {t : Ty} {S : Nat → Prop} {h : AHeap} {vt : List AVal} {i : Nat} {m : Bd}, t.size ≤ N → t.ok = true → (∀ j, S j → j < h.length ∧ j ≠ i) → SRep S h t vt → MapR S h i m → (∀ v u, bget m v = some u → u.ok = true) → (∀ v, isVarN v = false → bget m v = none) →
    SCall pg n_spec_l2Put [.ptr (some (i, 0)), .agg vt] h fun x h' => Same h.length h h' ∧ ∃ vs, x = .agg vs ∧ SRep (fun j => S j ∨ h.length ≤ j) h' (subst (bget m) t) vs
  | 0, t, S, h, vt, i, m, hN, _, _, _, _, _, _ => by have := t.size_ps; omega
  | N + 1, t, S, h, vt, i, m, hN, ht, hSi, rt, rm, hmo, hmn => by
    obtain ⟨at', ct, et, vts, rfl, rowt, hSt, hvtl, hvt⟩ := id rt.parts
    have hps2 : t.ps.length ≤ 2 := by cases t <;> simp [Ty.ps]
    have hil := rm.lt
    apply F_spec_l2Put.call
    simp only [letH_def]
    generalize hh0 : h ++ [AObj.cells t_spec_l1Node [.int .u8 (t.hd : Int), .slice at' t.ps.length ct et] false] = h0
    generalize hh1 : h0 ++ [AObj.cells t_spec_l1Node [.int .u8 0, .slice none 0 0 true] false] = h1
    have s0 : Same h.length h h0 := by rw [← hh0]; exact same_last
    have s1 : Same h0.length h0 h1 := by rw [← hh1]; exact same_last
    have o0 : h0[h.length]? = some (.cells t_spec_l1Node [.int .u8 (t.hd : Int), .slice at' t.ps.length ct et] false) := by rw [← hh0]; simp
    have oa := s1.get o0 (Own.lt o0)
    have oz : h1[h0.length]? = some (.cells t_spec_l1Node [.int .u8 0, .slice none 0 0 true] false) := by rw [← hh1]; simp
    have S1 := s0.cat s1
    have l0 : h0.length = h.length + 1 := by rw [← hh0]; simp
    have l1 : h1.length = h.length + 2 := by rw [← hh1]; simp [l0]
    simp only [hCell_of oa, Nat.zero_add, List.getElem?_cons_succ, List.getElem?_cons_zero, xInt_some]
    refine (l2Index_ok t.hd).mono ?_
    rintro v h2 ⟨rfl, rfl⟩
    have rm1 := rm.same S1
    simp only [xInt_some, xSome_some]
    -- nothing stands for the letter
    have main : bget m t.hd = none → F_spec_l2Put.J4 (fun x h' => Same h.length h h' ∧ ∃ vs, x = .agg vs ∧ SRep (fun j => S j ∨ h.length ≤ j) h' (subst (bget m) t) vs) h.length 0 (some (i, 0)) h0.length 0 h2 := by
      intro hno
      obtain ⟨hsh, hsp⟩ := subst_ps (f := bget m) (t := t) (.inl hno)
      apply F_spec_l2Put.J4i
      simp only [hCell_of oa, Nat.zero_add, List.getElem?_cons_succ, List.getElem?_cons_zero, xInt_some, letH_def]
      generalize hh3 : h2 ++ [AObj.cells t_spec_l1Node [] false] = h3
      have s3 : Same h2.length h2 h3 := by rw [← hh3]; exact same_last
      have o3 : h3[h2.length]? = some (.cells t_spec_l1Node [] false) := by rw [← hh3]; simp
      have l3 : h3.length = h2.length + 1 := by rw [← hh3]; simp
      rw [store2]
      generalize hh4 : h3 ++ [AObj.cells t_spec_l1Node [.int .u8 (t.hd : Int), .slice (some (h2.length, 0)) 0 0 true] false] = h4
      have s4 : Same h3.length h3 h4 := by rw [← hh4]; exact same_last
      have o4 : h4[h3.length]? = some (.cells t_spec_l1Node [.int .u8 (t.hd : Int), .slice (some (h2.length, 0)) 0 0 true] false) := by rw [← hh4]; simp
      have l4 : h4.length = h3.length + 1 := by rw [← hh4]; simp
      have oa4 := s4.get (s3.get oa (Own.lt oa)) (by have := Own.lt oa; omega)
      have oz4 := s4.get (s3.get oz (Own.lt oz)) (by have := Own.lt oz; omega)
      have o34 := s4.get o3 (Own.lt o3)
      have S4 := (S1.cat s3).cat s4
      simp only [xHeap_some, hCell_of oa4, List.getElem?_cons_succ, List.getElem?_cons_zero, xSl_some]
      refine F_spec_l2Put.L6ind _ _ _ _ _ _ _ _ _ _ _ (J := fun (g : Nat) x35 h' => x35 = (g : Int) ∧ g ≤ t.ps.length ∧ Same h.length h h' ∧ h4.length ≤ h'.length ∧ h'[h0.length]? = some (.cells t_spec_l1Node [.int .u8 0, .slice none 0 0 true] false) ∧
        ∃ (a : Pt) (cp : Nat) (e : Bool) (vs : List (List AVal)), h'[h3.length]? = some (.cells t_spec_l1Node [.int .u8 (t.hd : Int), .slice a g cp e] false) ∧ vs.length = g ∧ Vec t_spec_l1Node h' a g cp vs.flatten ∧ (∀ j, a = some (j, 0) → j = h2.length ∨ h4.length ≤ j) ∧
          ∀ (k : Nat) (v : List AVal) (x : Ty), vs[k]? = some v → t.ps[k]? = some x → SRep (fun j => (S j ∨ h4.length ≤ j) ∧ ∀ j0, a = some (j0, 0) → j ≠ j0) h' (subst (bget m) x) v)
        (fun g => t.ps.length - g) ?_ 0 _ _ ⟨rfl, by omega, S4, Nat.le_refl _, oz4, some (h2.length, 0), 0, true, [], o4, rfl, Vec.mk1 (by simpa using o34), fun j hj => by cases hj; exact .inl rfl, by simp⟩
      rintro g x35 h' ⟨rfl, hg, hS, hl4, hz, a, cp, e, vs, ho, hvl, hv, ha, hp⟩ R hR
      unfold F_spec_l2Put.L6t
      have hz2 : ∀ v ∈ vs, v.length = 2 := fun v hv => by
        obtain ⟨k, hk, rfl⟩ := List.mem_iff_getElem.1 hv
        exact (hp k vs[k] (t.ps[k]'(by omega)) (List.getElem?_eq_getElem hk) (List.getElem?_eq_getElem (by omega))).len
      refine bcase_dec (fun hlt => ?_) (fun hge => ?_)
      · have hgt : g < t.ps.length := by omega
        obtain ⟨jt, oft, a4, c4, e4, rfl, hrt, hkt⟩ := SRep.get (rowt.same' hS) hvtl (fun k w x h1 h2 => (hvt k w x h1 h2).same hS) hgt
        simp only [xSome_some, Int.toNat_natCast, hrt, xRow_some, xCons_cons, xNil_nil, xInt_some, xSl_some, letH_def]
        rw [store2]
        generalize hq : h' ++ [AObj.cells t_spec_l1Node [.int .u8 (t.ps[g].hd : Int), .slice a4 t.ps[g].ps.length c4 e4] false] = hq'
        have sq : Same h'.length h' hq' := by rw [← hq]; exact same_last
        have oq := sq.get ho (Own.lt ho)
        simp only [xHeap_some, hCell_of oq, Nat.zero_add, List.getElem?_cons_succ, List.getElem?_cons_zero, xSl_some]
        rw [← hq, rowL2, hq]
        simp only [xRow_some, xCons_cons, xNil_nil, xInt_some, xSl_some, true_and]
        have hmt := List.getElem_mem hgt
        have h1 := Ty.size_part hmt
        have hlq := sq.le
        have hSle := hS.le
        refine ⟨by omega, (l2Put_ok N (by omega) (Ty.ok_ps ht _ hmt) (S := S) (fun j hj => ⟨by have := (hSi j hj).1; omega, (hSi j hj).2⟩) (hkt.same sq) (rm.same (hS.cat sq)) hmo hmn).mono ?_⟩
        rintro v h5 ⟨s5, nv, rfl, hn5⟩
        obtain ⟨na, nc, ne, hnv⟩ := hn5.shape
        rw [hnv] at hn5
        have o5 := s5.get oq (Own.lt oq)
        simp only [hnv, xAgg_agg, xCons_cons, xNil_nil, xInt_some, xSl_some, hCell_of o5, List.getElem?_cons_succ, List.getElem?_cons_zero, true_and]
        have hc6 : hCell (h5 ++ [AObj.cells t_spec_l1Node [.int .u8 ((subst (bget m) t.ps[g]).hd : Int), .slice na (subst (bget m) t.ps[g]).ps.length nc ne] false]) (.ptr (some (h3.length, 1))) = some (.slice a g cp e) := by rw [hCell_of (app_old o5)]; rfl
        refine ⟨by rw [hc6], ?_⟩
        have v5 := (hv.same sq).same s5
        have hl5 := s5.le
        refine v5.pushN vu_L_l1Node vc_l1Node vk_l1Node vb_l1Node (by rw [flatten_len2 hz2]; omega) rfl (by omega) rfl (by omega) (fun h7 hl7 hi7 hk7 => ?_)
        simp only [xSl_some]
        have hz5 := s5.get (sq.get hz (Own.lt hz)) (by have := Own.lt hz; omega)
        have ha5 : ∀ j, a = some (j, 0) → j = h2.length ∨ h4.length ≤ j := ha
        have o7 : h7[h3.length]? = some (.cells t_spec_l1Node [.int .u8 (t.hd : Int), .slice a g cp e] false) := by
          rw [hk7 _ (Own.lt o5) fun j hj => by rcases ha j hj with hh | hh <;> omega]; exact o5
        rw [hStore_of o7 (by simp)]
        simp only [xHeap_some, putRow, List.take_succ_cons, List.take_zero, List.length_cons, List.length_nil, List.drop_succ_cons, List.drop_nil, List.cons_append, List.nil_append, List.append_nil]
        rw [wrap_nat (by omega)]
        have hS5 := (hS.cat sq).cat s5
        have h7o : ∀ j, j < h5.length → (∀ j0, a = some (j0, 0) → j ≠ j0) → j ≠ h3.length → (h7.set h3.length (AObj.cells t_spec_l1Node [.int .u8 (t.hd : Int), .slice (some (h5.length + 1, 0)) (g + 1) (g + 1) false] false))[j]? = h5[j]? := fun j hj hne hne2 => by rw [set_ne (by omega), hk7 j hj hne]
        refine hR (g + 1) _ _ (by omega) ⟨rfl, by omega, ⟨by simp; omega, fun j hj => ?_⟩, by simp; omega, ?_, some (h5.length + 1, 0), g + 1, false, vs ++ [[.int .u8 ((subst (bget m) t.ps[g]).hd : Int), .slice na (subst (bget m) t.ps[g]).ps.length nc ne]], set_get o7, by simp [hvl], Vec.mk1 ?_, fun j hj => by cases hj; right; omega, ?_⟩
        · rw [h7o j (by omega) (fun j0 hj0 => by rcases ha j0 hj0 with hh | hh <;> omega) (by omega)]; exact hS5.eq j hj
        · rw [h7o _ (Own.lt hz5) (fun j0 hj0 => by rcases ha j0 hj0 with hh | hh <;> omega) (by omega)]; exact hz5
        · rw [set_ne (by omega), hi7]; simp
        · intro k v x hv' hx
          have hkeep : ∀ {t' : Ty} {v' : List AVal}, SRep (fun j => (S j ∨ h4.length ≤ j) ∧ ∀ j0, a = some (j0, 0) → j ≠ j0) h5 t' v' → SRep (fun j => (S j ∨ h4.length ≤ j) ∧ ∀ j0, (some (h5.length + 1, 0) : Pt) = some (j0, 0) → j ≠ j0) (h7.set h3.length (AObj.cells t_spec_l1Node [.int .u8 (t.hd : Int), .slice (some (h5.length + 1, 0)) (g + 1) (g + 1) false] false)) t' v' := by
            intro t' v' hr
            have hr2 := hr.below
            refine SRep.mono (S := fun j => ((S j ∨ h4.length ≤ j) ∧ ∀ j0, a = some (j0, 0) → j ≠ j0) ∧ j < h5.length) (fun j hj => ⟨hj.1.1, fun j0 e0 => by cases e0; have := hj.2; omega⟩) (hr2.agree fun j hj => ?_)
            refine h7o j hj.2 hj.1.2 ?_
            rcases hj.1.1 with h8 | h8
            · have := (hSi j h8).1; omega
            · omega
          by_cases hkl : k < vs.length
          · rw [List.getElem?_append_left hkl] at hv'
            exact hkeep (((hp k v x hv' hx).same sq).same s5)
          · rw [List.getElem?_append_right (by omega)] at hv'
            have hk0 : k = vs.length := by
              by_cases e : k - vs.length = 0
              · omega
              · rw [List.getElem?_eq_none (by simp; omega)] at hv'; cases hv'
            subst hk0
            simp at hv'
            subst hv'
            rw [hvl, List.getElem?_eq_getElem hgt] at hx
            cases hx
            refine hkeep (SRep.mono (S := fun j => S j ∨ hq'.length ≤ j) (fun j hj => ⟨?_, fun j0 e0 => ?_⟩) hn5)
            · rcases hj with h8 | h8
              · exact .inl h8
              · exact .inr (by omega)
            · have hj0 := (hv.same sq).lt' e0
              rcases hj with h8 | h8
              · have := (hSi j h8).1
                rcases ha j0 e0 with hh | hh <;> omega
              · omega
      · apply F_spec_l2Put.A6x0i
        have : g = t.ps.length := by omega
        subst this
        have hrow := hRow_of (o := 0) (n := 2) ho (by simp)
        rw [hrow]
        simp only [List.drop_zero, List.take_succ_cons, List.take_zero, xRow_some, xCons_cons, xNil_nil, xInt_some, xSl_some]
        rw [hStore_of hz (by simp)]
        simp only [xHeap_some]
        rw [hRow_of (set_get hz) (by simp [putRow])]
        simp only [putRow, List.take_zero, List.nil_append, List.length_cons, List.length_nil, List.cons_append, List.drop_succ_cons, List.drop_zero, List.drop_nil, List.append_nil, List.take_succ_cons, xRow_some, xCons_cons, xInt_some, xSl_some, xNil_nil]
        refine ⟨⟨by simp; exact hS.le, fun j hj => by rw [set_ne (by omega)]; exact hS.eq j hj⟩, _, rfl, ?_⟩
        have hget : ∀ j, j ≠ h0.length → (h'.set h0.length (AObj.cells t_spec_l1Node [.int .u8 (t.hd : Int), .slice a t.ps.length cp e] false))[j]? = h'[j]? := fun j hj => set_ne (fun e => hj e.symm)
        rcases hv with ⟨rfl, h0', _, hvs⟩ | ⟨j0, rfl, hj0⟩
        · -- no parts
          have hps : t.ps = [] := List.eq_nil_of_length_eq_zero h0'
          cases t with
          | k d =>
            simp only [subst, show bget m d = none from hno, Option.getD_none]
            exact ⟨_, _, _, rfl⟩
          | u d x => simp [Ty.ps] at hps
          | w d x y => simp [Ty.ps] at hps
        · have hj0n : j0 ≠ h0.length := by rcases ha j0 rfl with hh | hh <;> omega
          have hS4 := ha j0 rfl
          have := SRep.make (S := fun j => S j ∨ h.length ≤ j) (h := h'.set h0.length (AObj.cells t_spec_l1Node [.int .u8 (t.hd : Int), .slice (some (j0, 0)) t.ps.length cp e] false)) (t := subst (bget m) t) (j := j0) (n := t.ps.length) (c := cp) (e := e) (vs := vs)
            (by rw [hsp, List.length_map]) (.inr (by rcases hS4 with hh | hh <;> omega)) (by rw [hget j0 hj0n]; exact hj0) hvl (fun k w x hw hx => by
              rw [hsp, List.getElem?_map] at hx
              obtain ⟨y, hy, rfl⟩ := Option.map_eq_some_iff.1 hx
              have hr := hp k w y hw hy
              refine SRep.mono (S := fun j => (S j ∨ h4.length ≤ j) ∧ ∀ j1, (some (j0, 0) : Pt) = some (j1, 0) → j ≠ j1) (fun j hj => hj.1.imp id (fun h => by omega)) (hr.agree fun j hj => hget j ?_)
              rcases hj.1 with h8 | h8
              · have := (hSi j h8).1; omega
              · omega)
          rw [hsh] at this
          exact this
    cases hv : isVarN t.hd with
    | true =>
      obtain ⟨k, hk6, hkv, hix⟩ := l2idx_var hv
      rw [hix]
      obtain ⟨x, hx1, hx2, hx3⟩ := rm1.get (k := k) (by omega)
      rw [hkv, Option.bind_some] at hx3
      have hge : decide ((k : Int) ≥ 0) = true := by simp
      simp only [hge, bcase_true, Int.toNat_natCast, hx1, hx2, xRow_some, xCons_cons, xNil_nil]
      refine ⟨by omega, ?_⟩
      cases hg : bget m t.hd with
      | none =>
        rw [hg] at hx3
        simp only at hx3
        subst hx3
        simp only [xInt_some, show ((0 : Int) == 0) = true from rfl, Bool.not_true, bcase_false]
        exact main hg
      | some u =>
        rw [hg] at hx3
        simp only at hx3
        have hu := hmo _ _ hg
        obtain ⟨ux, uc, ue, hux⟩ := hx3.shape
        simp only [List.cons.injEq, and_true] at hux
        obtain ⟨hux1, hux2⟩ := hux
        rw [hux1, hux2] at hx3
        rw [hux1, hux2]
        have hu0 : (((u.hd : Nat) : Int) == 0) = false := by
          have := ok_letter hu
          have hne : u.hd ≠ 0 := fun e => by rw [e] at this; simp at this
          simp; omega
        simp only [xInt_some, xSl_some, hu0, Bool.not_false, bcase_true]
        rw [hStore_of oz (by simp)]
        simp only [xHeap_some]
        rw [hRow_of (set_get oz) (by simp [putRow])]
        simp only [putRow, List.take_zero, List.nil_append, List.length_cons, List.length_nil, List.cons_append, List.drop_succ_cons, List.drop_zero, List.drop_nil, List.append_nil, List.take_succ_cons, xRow_some, xCons_cons, xInt_some, xSl_some, xNil_nil]
        refine ⟨by omega, ⟨by simp; omega, fun j hj => by rw [set_ne (by omega)]; exact S1.eq j hj⟩, _, rfl, ?_⟩
        have hsub : subst (bget m) t = u := by rw [ok_hd_var ht hv]; simp [subst, hg]
        rw [hsub]
        refine SRep.mono (S := S) (fun j hj => .inl hj) (hx3.agree fun j hj => set_ne (by have := (hSi j hj).1; omega))
    | false =>
      rw [l2idx_not ht hv]
      have hge : decide ((-1 : Int) ≥ 0) = false := by decide
      simp only [hge, bcase_false]
      exact main (hmn _ hv)
end Go.Sim

set_option linter.unusedVariables false
set_option linter.unusedSimpArgs false
set_option maxRecDepth 20000
namespace Go.Sim
open Go Go.RowKit

/-- What is known of a pair that came in. -/
def PBig (p : Nd) : Prop := NBig p.1.length ∧ NBig p.2.length ∧ (∀ b ∈ p.1, b < 256) ∧ ∀ b ∈ p.2, b < 256
theorem rd_pair {P : Program} {h : AHeap} {f : Nat} {e : TypeId} {f0 f1 : Field} {v : List AVal} {d : Dt} (he : P.underlying e = some (.struct #[f0, f1])) (h0 : P.underlying f0.type = some .string) (h1 : P.underlying f1.type = some .string) (hr : rd P h (f + 2) e v d) :
    ∃ p : Nd, v = eP p ∧ PBig p := by
  unfold rd at hr
  rw [he] at hr
  obtain ⟨ds', vs', rfl, hd1, hd2, rfl, hall'⟩ := hr
  match vs', ds', hd2, hd1 with
  | [u, w], [x, y], _, _ =>
    have g0 := (hall' 0 f0 u x rfl rfl rfl).2
    have g1 := (hall' 1 f1 w y rfl rfl rfl).2
    simp only [rd, h0] at g0
    simp only [rd, h1] at g1
    obtain ⟨s, rfl, _, hs1, hs2⟩ := g0
    obtain ⟨t, rfl, _, ht1, ht2⟩ := g1
    exact ⟨(s, t), rfl, hs1, ht1, hs2, ht2⟩
theorem list_of {P : Program} {h : AHeap} {f : Nat} {e : TypeId} {α : Type} {enc : α → List AVal} {G : α → Prop} (el : ∀ v d, rd P h f e v d → ∃ x : α, v = enc x ∧ G x) :
    ∀ (vs : List (List AVal)) (ds : List Dt), ds.length = vs.length → (∀ (i : Nat) (v : List AVal) (x : Dt), vs[i]? = some v → ds[i]? = some x → v.length = P.cellsOf e ∧ rd P h f e v x) →
    ∃ l : List α, l.length = vs.length ∧ vs.flatten = flat enc l ∧ ∀ x ∈ l, G x
  | [], _, _, _ => ⟨[], rfl, rfl, by simp⟩
  | v :: vs, [], h, _ => by simp at h
  | v :: vs, d :: ds, hl, hall => by
    obtain ⟨l, hll, hfl, hs⟩ := list_of el vs ds (by simpa using hl) fun i v x hv hx => hall (i + 1) v x (by simpa using hv) (by simpa using hx)
    obtain ⟨x, rfl, hx⟩ := el v d (hall 0 v d rfl rfl).2
    exact ⟨x :: l, by simp [hll], by simp [hfl], fun y hy => (List.mem_cons.1 hy).elim (fun e => e ▸ hx) (hs y)⟩
theorem rd_list {P : Program} {h : AHeap} {f : Nat} {t e : TypeId} {α : Type} {enc : α → List AVal} {G : α → Prop} {cs : List AVal} {d : Dt} (ht : P.underlying t = some (.slice e)) (el : ∀ v d, rd P h f e v d → ∃ x : α, v = enc x ∧ G x) (hr : rd P h (f + 1) t cs d) :
    ∃ a n c ex, ∃ l : List α, cs = [.slice a n c ex] ∧ Row h.length h a (n * P.cellsOf e) (flat enc l) ∧ NBig n ∧ l.length = n ∧ ∀ x ∈ l, G x := by
  unfold rd at hr
  rw [ht] at hr
  obtain ⟨a, n, c, ex, ds, vs, rfl, rfl, hdl, hn, hvl, hrow, hall⟩ := hr
  obtain ⟨l, hll, hfl, hs⟩ := list_of el vs ds (by omega) hall
  rw [hfl] at hrow
  exact ⟨a, n, c, ex, l, rfl, hrow, hn, by omega, hs⟩
theorem rd_pairs {P : Program} {h : AHeap} {f : Nat} {t e : TypeId} {f0 f1 : Field} {cs : List AVal} {d : Dt} (ht : P.underlying t = some (.slice e)) (he : P.underlying e = some (.struct #[f0, f1])) (h0 : P.underlying f0.type = some .string) (h1 : P.underlying f1.type = some .string) (hc : P.cellsOf e = 2)
    (hr : rd P h (f + 3) t cs d) : ∃ a n c ex, ∃ l : List Nd, cs = [.slice a n c ex] ∧ Row h.length h a (n * 2) (flat eP l) ∧ NBig n ∧ l.length = n ∧ ∀ p ∈ l, PBig p := by
  have := rd_list (enc := eP) (G := PBig) ht (fun v d hr => rd_pair he h0 h1 hr) hr
  rwa [hc] at this
/-- An instance that came in. -/
def IBig (h : AHeap) (x : EI) : Prop := ∃ i : Ins, IRep h x i ∧ PBig i.1 ∧ NBig i.2.length ∧ ∀ p ∈ i.2, PBig p
theorem rd_inst {P : Program} {h : AHeap} {f : Nat} {ti tn ts : TypeId} {g0 g1 f0 f1 : Field} {v : List AVal} {d : Dt} (hi : P.underlying ti = some (.struct #[g0, g1])) (hg0 : g0.type = tn) (hg1 : g1.type = ts)
    (he : P.underlying tn = some (.struct #[f0, f1])) (h0 : P.underlying f0.type = some .string) (h1 : P.underlying f1.type = some .string) (hc : P.cellsOf tn = 2) (ht : P.underlying ts = some (.slice tn)) (hr : rd P h (f + 4) ti v d) :
    ∃ x : EI, v = eN x ∧ IBig h x := by
  unfold rd at hr
  rw [hi] at hr
  obtain ⟨ds', vs', rfl, hd1, hd2, rfl, hall'⟩ := hr
  match vs', ds', hd2, hd1 with
  | [u, w], [x, y], _, _ =>
    have k0 := (hall' 0 g0 u x rfl rfl rfl).2
    have k1 := (hall' 1 g1 w y rfl rfl rfl).2
    rw [hg0] at k0
    rw [hg1] at k1
    obtain ⟨p, rfl, hp⟩ := rd_pair (f := f + 1) he h0 h1 k0
    obtain ⟨a, n, c, ex, l, rfl, hrow, hn, hll, hl⟩ := rd_pairs (f := f) ht he h0 h1 hc k1
    exact ⟨⟨p.1, p.2, a, n, c, ex⟩, rfl, (p, l), ⟨rfl, rfl, hrow⟩, hp, by rw [hll]; exact hn, hl⟩
theorem ints_of_big {h : AHeap} : ∀ {xs : List EI}, (∀ x ∈ xs, IBig h x) → ∃ is : List Ins, IsRep h xs is ∧ ∀ i ∈ is, PBig i.1 ∧ NBig i.2.length ∧ ∀ p ∈ i.2, PBig p
  | [], _ => ⟨[], ⟨rfl, by simp⟩, by simp⟩
  | x :: xs, hx => by
    obtain ⟨is, ⟨hl, hr⟩, hb⟩ := ints_of_big (xs := xs) fun y hy => hx y (by simp [hy])
    obtain ⟨i, hi, hib⟩ := hx x (by simp)
    refine ⟨i :: is, ⟨by simp [hl], fun k y j hy hj => ?_⟩, fun j hj => (List.mem_cons.1 hj).elim (fun e => e ▸ hib) (hb j)⟩
    cases k with
    | zero => simp at hy hj; subst hy; subst hj; exact hi
    | succ k => simp at hy hj; exact hr k y j hy hj
/-- A world that came in. -/
theorem rd_world {P : Program} {h : AHeap} {f : Nat} {tw tc tcs ti tis tn ts : TypeId} {w0 w1 q0 q1 g0 g1 f0 f1 : Field} {cs : List AVal} {d : Dt} (hw : P.underlying tw = some (.struct #[w0, w1])) (hw0 : w0.type = tcs) (hw1 : w1.type = tis)
    (hcs : P.underlying tcs = some (.slice tc)) (hct : P.underlying tc = some (.struct #[q0, q1])) (hq0 : P.underlying q0.type = some .string) (hq1 : P.underlying q1.type = some .string) (hcc : P.cellsOf tc = 2)
    (his : P.underlying tis = some (.slice ti)) (hic : P.cellsOf ti = 3) (hi : P.underlying ti = some (.struct #[g0, g1])) (hg0 : g0.type = tn) (hg1 : g1.type = ts)
    (he : P.underlying tn = some (.struct #[f0, f1])) (h0 : P.underlying f0.type = some .string) (h1 : P.underlying f1.type = some .string) (hc : P.cellsOf tn = 2) (ht : P.underlying ts = some (.slice tn)) (hr : rd P h (f + 6) tw cs d) :
    ∃ a0 n0 c0 e0 a1 n1 c1 e1, ∃ w : Wd, cs = [.slice a0 n0 c0 e0, .slice a1 n1 c1 e1] ∧ (n0 ≤ c0 → n1 ≤ c1 → WRep h a0 n0 c0 a1 n1 c1 w) ∧ WBig w := by
  unfold rd at hr
  rw [hw] at hr
  obtain ⟨ds', vs', rfl, hd1, hd2, rfl, hall'⟩ := hr
  match vs', ds', hd2, hd1 with
  | [u, v], [x, y], _, _ =>
    have k0 := (hall' 0 w0 u x rfl rfl rfl).2
    have k1 := (hall' 1 w1 v y rfl rfl rfl).2
    rw [hw0] at k0
    rw [hw1] at k1
    obtain ⟨a0, n0, c0, e0, l0, rfl, hrow0, hn0, hl0, hb0⟩ := rd_pairs (f := f + 2) hcs hct hq0 hq1 hcc k0
    obtain ⟨a1, n1, c1, e1, l1, rfl, hrow1, hn1, hl1, hb1⟩ := rd_list (f := f + 4) (enc := eN) (G := IBig h) his (fun v d hr => rd_inst hi hg0 hg1 he h0 h1 hc ht hr) k1
    rw [hic] at hrow1
    obtain ⟨is, hrep, hib⟩ := ints_of_big hb1
    refine ⟨a0, n0, c0, e0, a1, n1, c1, e1, ⟨l0, is⟩, rfl, fun k0 k1 => ⟨hrow0, ⟨l1, hrow1, hrep⟩, k0, k1⟩, ?_⟩
    refine ⟨by rw [show (Wd.mk l0 is).cs.length = n0 from hl0]; exact hn0, ?_, fun p hp => ⟨(hb0 p hp).1, (hb0 p hp).2.1, (hb0 p hp).2.2.1⟩, fun i hi => ?_⟩
    · have : is.length = n1 := by have := hrep.1; omega
      show NBig is.length
      rw [this]; exact hn1
    · obtain ⟨p1, p2, p3⟩ := hib i hi
      exact ⟨p1.1, p1.2.1, p2, fun p hp => ⟨(p3 p hp).1, (p3 p hp).2.1⟩⟩

end Go.Sim

/- What matching finds: plain Lean. -/
set_option linter.unusedSimpArgs false
set_option linter.unusedVariables false
namespace Go.Sim

/-- Variables of a type. -/
def tvars : Ty → List Nat
  | .k c => if isVarN c then [c] else []
  | .u c a => tvars a
  | .w c a b => tvars a ++ tvars b
/-- What is noted stays, what is matched is the type, and what is noted beyond are the pattern's variables. -/
structure MOut (m m' : Bd) (a t : Ty) : Prop where
  keep : ∀ v u, bget m v = some u → bget m' v = some u
  sub : subst (bget m') a = t
  vars : ∀ v, (bget m' v).isSome = true ↔ ((bget m v).isSome = true ∨ v ∈ tvars a)
end Go.Sim

/- Which pattern fits which type; candidates; the most special: plain Lean. -/
set_option linter.unusedSimpArgs false
set_option linter.unusedVariables false
namespace Go.Sim

/-- A substitution speaks of variables alone, and of types. -/
structure SubOk (f : Nat → Option Ty) : Prop where
  nv : ∀ v, isVarN v = false → f v = none
  ok : ∀ v t, f v = some t → t.ok = true
/-- One substitution behind another one. -/
noncomputable def after (f g : Nat → Option Ty) (v : Nat) : Option Ty := if isVarN v then some (subst g ((f v).getD (.k v))) else none
/-- One instance is special to another one. -/
noncomputable def specI (a b : Ins) : Bool := decide (a.1.1 = b.1.1) && instS b.1.2 a.1.2
end Go.Sim

set_option linter.unusedVariables false
set_option linter.unusedSimpArgs false
set_option maxRecDepth 20000
namespace Go.Sim
open Go Go.RowKit

theorem inst_get {h : AHeap} {a0 a1 : Pt} {n0 c0 n1 c1 : Nat} {w : Wd} (r : WRep h a0 n0 c0 a1 n1 c1 w) {k : Nat} (hk : k < w.is.length) :
    ∃ i o a n cp e, a1 = some (i, o) ∧ i < h.length ∧ hRow h (.ptr (some (i, o + k * 3))) 3 = some [.str w.is[k].1.1, .str w.is[k].1.2, .slice a n cp e] ∧ hCell h (.ptr (some (i, o + k * 3))) = some (.str w.is[k].1.1) ∧ hCell h (.ptr (some (i, o + k * 3 + 1))) = some (.str w.is[k].1.2) ∧ Row h.length h a (n * 2) (flat eP w.is[k].2) ∧ w.is[k].2.length = n := by
  have hl := r.len1
  obtain ⟨i, o, hk', a, n, cp, e, h1, h2, h3, h4, h5, h6, h7, h8⟩ := r.inst (k := k) (by omega)
  exact ⟨i, o, a, n, cp, e, h1, h2, h3, h4, h5, h7, h8⟩
end Go.Sim

set_option linter.unusedVariables false
set_option linter.unusedSimpArgs false
set_option maxRecDepth 20000
namespace Go.Sim
open Go Go.RowKit

theorem u_L_int : pg.underlying t_L_int = some (.slice t_int) := by kernel_rfl
theorem c_int : pg.cellsOf t_int = 1 := by kernel_rfl
theorem k_int : pg.okElem t_int = true := by kernel_rfl
theorem b_int : pg.bytesOf t_int ≤ 127 := Nat.le_of_ble_eq_true (by kernel_rfl)
/-- The indices of the elements for which something holds. -/
def ixs {α : Type} (f : α → Bool) (l : List α) : List Int := (l.zipIdx.filter fun p => f p.1).map fun p => (p.2 : Int)
theorem ixs_take {α : Type} (f : α → Bool) {l : List α} {g : Nat} (h : g < l.length) : ixs f (l.take (g + 1)) = ixs f (l.take g) ++ if f l[g] then [(g : Int)] else [] := by
  unfold ixs
  rw [List.take_succ_eq_append_getElem h, List.zipIdx_append, List.filter_append, List.map_append]
  congr 1
  simp only [List.length_take, Nat.min_eq_left (by omega : g ≤ l.length), Nat.zero_add, List.zipIdx_singleton, List.filter_cons, List.filter_nil]
  split <;> simp
theorem ixs_len {α : Type} (f : α → Bool) (l : List α) : (ixs f l).length ≤ l.length := by
  unfold ixs; rw [List.length_map]; exact Nat.le_trans (List.length_filter_le _ _) (by simp)
theorem fa1 {j o : Nat} {K : AVal → Prop} : fieldAddrA pg t_impl_Need (.ptr (some (j, o))) 1 K = K (.ptr (some (j, o + 1))) := by kernel_rfl
end Go.Sim

set_option linter.unusedVariables false
set_option linter.unusedSimpArgs false
set_option maxRecDepth 20000
namespace Go.Sim
open Go Go.RowKit

/-- An instance is a candidate for a need. -/
noncomputable def candF (n : Nd) (i : Ins) : Bool := decide (i.1.1 = n.1) && instS i.1.2 n.2
noncomputable def candW (w : Wd) (n : Nd) : List Int := ixs (candF n) w.is
theorem ixs_mem {α : Type} {f : α → Bool} {l : List α} {x : Int} (h : x ∈ ixs f l) : ∃ k : Nat, ∃ hk : k < l.length, x = k ∧ f l[k] = true := by
  unfold ixs at h
  obtain ⟨p, hp, rfl⟩ := List.mem_map.1 h
  obtain ⟨h1, h2⟩ := List.mem_filter.1 hp
  obtain ⟨a, k⟩ := p
  have h3 := List.mem_zipIdx h1
  simp only [Nat.zero_add, Nat.zero_le, Nat.sub_zero, true_and] at h3
  exact ⟨k, h3.1, rfl, by simp only at h2; rw [← h3.2]; exact h2⟩
theorem iNeedValid_ok {h : AHeap} {a0 a1 : Pt} {n0 c0 n1 c1 : Nat} {e0 e1 : Bool} {w : Wd} {ct tt : List Nat} (r : WRep h a0 n0 c0 a1 n1 c1 w) (b : WB w) :
    SCall pg n_impl_NeedValid [.agg [.slice a0 n0 c0 e0, .slice a1 n1 c1 e1], .agg [.str ct, .str tt]] h fun v h' => v = .bool (worldOk w && needOkW w (ct, tt)) ∧ Same h.length h h' := by
  apply F_impl_NeedValid.call
  simp only [letH_def]
  generalize hh0 : h ++ [AObj.cells t_impl_World [.slice a0 n0 c0 e0, .slice a1 n1 c1 e1] false] = h0
  generalize hh1 : h0 ++ [AObj.cells t_impl_Need [.str ct, .str tt] false] = h1
  have s0 : Same h.length h h0 := by rw [← hh0]; exact same_last
  have s1 : Same h0.length h0 h1 := by rw [← hh1]; exact same_last
  have w0 : h0[h.length]? = some (wObj a0 n0 c0 e0 a1 n1 c1 e1) := by rw [← hh0]; simp [wObj]
  have w1 := s1.get w0 (Own.lt w0)
  have i1 : h1[h0.length]? = some (.cells t_impl_Need [.str ct, .str tt] false) := by rw [← hh1]; simp
  rw [wRow w1]
  simp only [xRow_some, xCons_cons, xNil_nil, xSl_some]
  refine (worldValid_ok (r.same (s0.cat s1)) b).mono ?_
  rintro v h2 ⟨rfl, s2⟩
  simp only [xBool_some]
  have i2 := s2.get i1 (Own.lt i1)
  have w2 := s2.get w1 (Own.lt w1)
  refine bcase_intro (fun b1 => ?_) (fun b1 => ⟨by rw [b1]; rfl, (s0.cat s1).cat s2⟩)
  rw [wRow w2, hRow_of i2 (by simp)]
  simp only [List.drop_zero, List.take_succ_cons, List.take_zero, xRow_some, xCons_cons, xNil_nil, xSl_some, xStr_some]
  refine (needOk_ok (r.same ((s0.cat s1).cat s2)) b).mono ?_
  rintro v h3 ⟨rfl, s3⟩
  simp only [xBool_some]
  exact ⟨by rw [b1]; rfl, ((s0.cat s1).cat s2).cat s3⟩
theorem candLit_ok {h : AHeap} {a : Pt} {n c j : Nat} {e : Bool} {ct tt nc nt : List Nat} (hj : h[j]? = some (.cells t_impl_Need [.str nc, .str nt] false)) :
    SCall pg n_impl_candidates_lit1 [.agg [.str ct, .str tt, .slice a n c e], .ptr (some (j, 0))] h fun v h' => v = .bool (instS tt nt) ∧ Same h.length h h' := by
  apply F_impl_candidates_lit1.call
  have s1 : Same h.length h (h ++ [.cells t_impl_Instance [.str ct, .str tt, .slice a n c e] false]) := same_last
  simp only [letH_def, hCell_last, Nat.zero_add, List.getElem?_cons_succ, List.getElem?_cons_zero, xStr_some, fa1, hCell_of (s1.get hj (Own.lt hj))]
  refine (isInstance_ok tt nt _).mono ?_
  rintro v h2 ⟨rfl, s2⟩
  simp only [xBool_some]
  exact ⟨by trivial, s1.cat s2⟩
theorem store3' {h : AHeap} {t : TypeId} {x y z a b c : AVal} : hStore (h ++ [.cells t [x, y, z] false]) (.ptr (some (h.length, 0))) [a, b, c] = some (h ++ [.cells t [a, b, c] false]) := store_last rfl
theorem among_cand {h : AHeap} {a0 a1 : Pt} {n0 c0 n1 c1 j : Nat} {e0 e1 : Bool} {w : Wd} {nd : Nd} (r : WRep h a0 n0 c0 a1 n1 c1 w) (b : WB w) (hj : h[j]? = some (.cells t_impl_Need [.str nd.1, .str nd.2] false)) :
    SCall pg n_impl_among [.agg [.slice a0 n0 c0 e0, .slice a1 n1 c1 e1], .str nd.1, .fn n_impl_candidates_lit1 [.ptr (some (j, 0))]] h fun v h' => Same h.length h h' ∧ ∃ a n c e, v = .slice a n c e ∧ FreshR t_int eI h.length h' a n (candW w nd) := by
  have hl1 := r.len1
  have hli := b.li
  apply F_impl_among__impl_candidates_lit1.call
  simp only [letH_def]
  generalize hh0 : h ++ [AObj.cells t_impl_World [.slice a0 n0 c0 e0, .slice a1 n1 c1 e1] false] = h0
  generalize hh1 : h0 ++ [AObj.cells t_int [] false] = h1
  have s0 : Same h.length h h0 := by rw [← hh0]; exact same_last
  have s1 : Same h0.length h0 h1 := by rw [← hh1]; exact same_last
  have w0 : h0[h.length]? = some (wObj a0 n0 c0 e0 a1 n1 c1 e1) := by rw [← hh0]; simp [wObj]
  have w1 := s1.get w0 (Own.lt w0)
  have o1 : h1[h0.length]? = some (.cells t_int [] false) := by rw [← hh1]; simp
  have l0 : h0.length = h.length + 1 := by rw [← hh0]; simp
  have S1 := s0.cat s1
  simp only [wCell w1, Nat.zero_add, List.getElem?_cons_succ, List.getElem?_cons_zero, xSl_some]
  refine F_impl_among__impl_candidates_lit1.L3ind _ _ _ _ _ _ _ _ (J := fun (g : Nat) a4 n4 c4 e4 x14 h' => x14 = (g : Int) ∧ g ≤ n1 ∧ Same h.length h h' ∧ n4 = (ixs (candF nd) (w.is.take g)).length ∧ Vec t_int h' a4 n4 c4 (flat eI (ixs (candF nd) (w.is.take g))) ∧ (∀ i, a4 = some (i, 0) → h.length ≤ i)) (fun g => n1 - g) ?_ 0 _ _ _ _ _ _
    ⟨rfl, by omega, S1, rfl, Vec.mk1 (by simpa [ixs] using o1), fun i hi => by cases hi; omega⟩
  rintro g a4 n4 c4 e4 x14 h' ⟨rfl, hg, hS, rfl, hv, ha⟩ R hR
  unfold F_impl_among__impl_candidates_lit1.L3t
  refine bcase_dec (fun hlt => ?_) (fun hge => ?_)
  · have hgl : g < w.is.length := by omega
    obtain ⟨i, o, a2, n2, c2, e2, rfl, _, hr, _, _, hrow, hn⟩ := inst_get (r.same hS) hgl
    simp only [xSome_some, Int.toNat_natCast, hr, xRow_some, xCons_cons, xNil_nil, xStr_some, xSl_some, letH_def]
    rw [store3']
    simp only [xHeap_some, hCell_last, Nat.zero_add, List.getElem?_cons_succ, List.getElem?_cons_zero, xStr_some]
    have hil := ixs_len (candF nd) (w.is.take g)
    rw [List.length_take] at hil
    have htk := ixs_take (candF nd) hgl
    generalize hq : h' ++ [AObj.cells t_impl_Instance [.str w.is[g].1.1, .str w.is[g].1.2, .slice a2 n2 c2 e2] false] = hq'
    have sq : Same h'.length h' hq' := by rw [← hq]; exact same_last
    have skip : ∀ hz, Same hq'.length hq' hz → candF nd w.is[g] = false → F_impl_among__impl_candidates_lit1.J7 (fun v h' => Same h.length h h' ∧ ∃ a n c e, v = .slice a n c e ∧ FreshR t_int eI h.length h' a n (candW w nd)) R (g : Int) (((n1 : Nat) : Int)) (some (i, o)) n1 c1 e1 nd.1 (.ptr (some (j, 0))) a4 (ixs (candF nd) (w.is.take g)).length c4 e4 hz := by
      intro hz sz hno
      apply F_impl_among__impl_candidates_lit1.J7i
      rw [hno] at htk
      simp only [Bool.false_eq_true, if_false, List.append_nil] at htk
      rw [wrap_nat (by omega)]
      exact hR (g + 1) _ _ _ _ _ _ (by omega) ⟨rfl, by omega, (hS.cat sq).cat sz, by rw [htk], by rw [htk]; exact (hv.same sq).same sz, ha⟩
    refine ⟨by omega, bcase_dec (fun hc => ?_) (fun hc => skip _ (Same.refl _ _) (by unfold candF; simp [hc]))⟩
    rw [← hq, rowL3, hq]
    simp only [xRow_some, xCons_cons, xNil_nil, xStr_some, xSl_some]
    refine (candLit_ok (sq.get (hS.get hj (Own.lt hj)) (by have := Own.lt hj; have := hS.le; omega))).mono ?_
    rintro v h3 ⟨rfl, s3⟩
    simp only [xBool_some]
    refine bcase_intro (fun hi => ?_) (fun hi => skip _ s3 (by unfold candF; simp [hi]))
    have hyes : candF nd w.is[g] = true := by unfold candF; simp [hc, hi]
    rw [hyes, if_pos rfl] at htk
    have S3 := (hS.cat sq).cat s3
    refine ((hv.same sq).same s3).push u_L_int c_int k_int b_int (by rw [flat_length eI_len]; omega) rfl (by omega) (fun h6 hl6 hi6 hk6 => ?_)
    simp only [xSl_some]
    apply F_impl_among__impl_candidates_lit1.J7i
    rw [wrap_nat (by omega)]
    have hle := S3.le
    refine hR (g + 1) _ _ _ _ _ _ (by omega) ⟨rfl, by omega, ⟨by omega, fun j hj => ?_⟩, by rw [htk]; simp, Vec.mk1 ?_, fun i hi => by cases hi; omega⟩
    · rw [hk6 j (by omega) fun i hi => by have := ha i hi; omega]; exact S3.eq j hj
    · rw [hi6, htk, flat_append]; rfl
  · apply F_impl_among__impl_candidates_lit1.A3x0i
    have : g = n1 := by omega
    subst this
    rw [List.take_of_length_le (by omega)] at hv ⊢
    exact ⟨hS, _, _, _, _, rfl, hv.fresh (b := h.length) rfl fun i hi => ha i hi⟩
/-- Candidates: a list of one's own. -/
def CandR (w : Wd) (n : Nd) (h : AHeap) (v : AVal) (h' : AHeap) : Prop := Same h.length h h' ∧ ∃ a m c e, v = .slice a m c e ∧ FreshR t_int eI h.length h' a m (candW w n)
theorem FreshR.low {α : Type} {ty : TypeId} {enc : α → List AVal} {b b' : Nat} {h : AHeap} {a : Pt} {n : Nat} {l : List α} (f : FreshR ty enc b h a n l) (hb : b' ≤ b) : FreshR ty enc b' h a n l :=
  ⟨f.1, f.2.imp id fun ⟨i, ha, hbi, hi⟩ => ⟨i, ha, by omega, hi⟩⟩
theorem candidates_ok {h : AHeap} {a0 a1 : Pt} {n0 c0 n1 c1 : Nat} {e0 e1 : Bool} {w : Wd} {nd : Nd} (r : WRep h a0 n0 c0 a1 n1 c1 w) (b : WB w) :
    SCall pg n_impl_candidates [.agg [.slice a0 n0 c0 e0, .slice a1 n1 c1 e1], .agg [.str nd.1, .str nd.2]] h (CandR w nd h) := by
  apply F_impl_candidates.call
  simp only [letH_def]
  generalize hh0 : h ++ [AObj.cells t_impl_World [.slice a0 n0 c0 e0, .slice a1 n1 c1 e1] false] = h0
  generalize hh1 : h0 ++ [AObj.cells t_impl_Need [.str nd.1, .str nd.2] false] = h1
  have s0 : Same h.length h h0 := by rw [← hh0]; exact same_last
  have s1 : Same h0.length h0 h1 := by rw [← hh1]; exact same_last
  have w0 : h0[h.length]? = some (wObj a0 n0 c0 e0 a1 n1 c1 e1) := by rw [← hh0]; simp [wObj]
  have w1 := s1.get w0 (Own.lt w0)
  have i1 : h1[h0.length]? = some (.cells t_impl_Need [.str nd.1, .str nd.2] false) := by rw [← hh1]; simp
  have S1 := s0.cat s1
  rw [wRow w1]
  simp only [xRow_some, xCons_cons, xNil_nil, xSl_some, hCell_of i1, Nat.zero_add, List.getElem?_cons_zero, xStr_some]
  refine (among_cand (r.same S1) b i1).mono ?_
  rintro v h2 ⟨s2, a, n, c, e, rfl, f⟩
  simp only [xSl_some]
  exact ⟨S1.cat s2, a, n, c, e, rfl, f.low S1.le⟩
theorem sCandidates_ok {h : AHeap} {a0 a1 : Pt} {n0 c0 n1 c1 : Nat} {e0 e1 : Bool} {w : Wd} {nd : Nd} (r : WRep h a0 n0 c0 a1 n1 c1 w) (b : WB w) (hnt : nd.2.length ≤ 1048576) :
    SCall pg n_spec_l4Candidates [.agg [.slice a0 n0 c0 e0, .slice a1 n1 c1 e1], .agg [.str nd.1, .str nd.2]] h (CandR w nd h) := by
  have hl1 := r.len1
  have hli := b.li
  apply F_spec_l4Candidates.call
  simp only [letH_def]
  generalize hh0 : h ++ [AObj.cells t_impl_World [.slice a0 n0 c0 e0, .slice a1 n1 c1 e1] false] = h0
  generalize hh1 : h0 ++ [AObj.cells t_impl_Need [.str nd.1, .str nd.2] false] = h1
  generalize hh2 : h1 ++ [AObj.cells t_int [] false] = h2
  have s0 : Same h.length h h0 := by rw [← hh0]; exact same_last
  have s1 : Same h0.length h0 h1 := by rw [← hh1]; exact same_last
  have s2 : Same h1.length h1 h2 := by rw [← hh2]; exact same_last
  have w0 : h0[h.length]? = some (wObj a0 n0 c0 e0 a1 n1 c1 e1) := by rw [← hh0]; simp [wObj]
  have w2 := s2.get (s1.get w0 (Own.lt w0)) (by have := Own.lt w0; have := s1.le; omega)
  have i1 : h1[h0.length]? = some (.cells t_impl_Need [.str nd.1, .str nd.2] false) := by rw [← hh1]; simp
  have i2 := s2.get i1 (Own.lt i1)
  have o2 : h2[h1.length]? = some (.cells t_int [] false) := by rw [← hh2]; simp
  have S2 := (s0.cat s1).cat s2
  have hle1 := (s0.cat s1).le
  have l1' : h1.length = h0.length + 1 := by rw [← hh1]; simp
  simp only [wCell w2, Nat.zero_add, List.getElem?_cons_succ, List.getElem?_cons_zero, xSl_some]
  refine F_spec_l4Candidates.L3ind _ _ _ _ _ _ _ _ (J := fun (g : Nat) a4 n4 c4 e4 x12 h' => x12 = (g : Int) ∧ g ≤ n1 ∧ Same h.length h h' ∧ h'[h0.length]? = some (.cells t_impl_Need [.str nd.1, .str nd.2] false) ∧ n4 = (ixs (candF nd) (w.is.take g)).length ∧ Vec t_int h' a4 n4 c4 (flat eI (ixs (candF nd) (w.is.take g))) ∧ (∀ i, a4 = some (i, 0) → h1.length ≤ i)) (fun g => n1 - g) ?_ 0 _ _ _ _ _ _
    ⟨rfl, by omega, S2, i2, rfl, Vec.mk1 (by simpa [ixs] using o2), fun i hi => by cases hi; omega⟩
  rintro g a4 n4 c4 e4 x12 h' ⟨rfl, hg, hS, hi0, rfl, hv, ha⟩ R hR
  have hlt1 := Own.lt i1
  unfold F_spec_l4Candidates.L3t
  refine bcase_dec (fun hlt => ?_) (fun hge => ?_)
  · have hgl : g < w.is.length := by omega
    obtain ⟨i, o, a2, n2, c2, e2, rfl, _, hr, _, _, hrow, hn⟩ := inst_get (r.same hS) hgl
    simp only [xSome_some, Int.toNat_natCast, hr, xRow_some, xCons_cons, xNil_nil, xStr_some, xSl_some, letH_def]
    rw [store3']
    have hil := ixs_len (candF nd) (w.is.take g)
    rw [List.length_take] at hil
    have htk := ixs_take (candF nd) hgl
    have hb := b.is _ (List.getElem_mem hgl)
    generalize hq : h' ++ [AObj.cells t_impl_Instance [.str w.is[g].1.1, .str w.is[g].1.2, .slice a2 n2 c2 e2] false] = hq'
    have sq : Same h'.length h' hq' := by rw [← hq]; exact same_last
    have oq : hq'[h'.length]? = some (.cells t_impl_Instance [.str w.is[g].1.1, .str w.is[g].1.2, .slice a2 n2 c2 e2] false) := by rw [← hq]; simp
    have iq := sq.get hi0 (Own.lt hi0)
    simp only [xHeap_some, hCell_of oq, hCell_of iq, Nat.zero_add, List.getElem?_cons_succ, List.getElem?_cons_zero, xStr_some]
    have skip : ∀ hz, Same hq'.length hq' hz → candF nd w.is[g] = false → F_spec_l4Candidates.J7 (CandR w nd h) R (g : Int) (((n1 : Nat) : Int)) (some (i, o)) n1 c1 e1 h0.length 0 a4 (ixs (candF nd) (w.is.take g)).length c4 e4 hz := by
      intro hz sz hno
      apply F_spec_l4Candidates.J7i
      rw [hno] at htk
      simp only [Bool.false_eq_true, if_false, List.append_nil] at htk
      rw [wrap_nat (by omega)]
      exact hR (g + 1) _ _ _ _ _ _ (by omega) ⟨rfl, by omega, (hS.cat sq).cat sz, sz.get iq (Own.lt iq), by rw [htk], by rw [htk]; exact (hv.same sq).same sz, ha⟩
    refine ⟨by omega, bcase_dec (fun hc => ?_) (fun hc => skip _ (Same.refl _ _) (by unfold candF; simp [hc]))⟩
    refine (sIsInstance_ok _ _ hb.2.1 hnt _).mono ?_
    rintro v h3 ⟨rfl, s3⟩
    simp only [xBool_some]
    refine bcase_intro (fun hi => ?_) (fun hi => skip _ s3 (by unfold candF; simp [hi]))
    have hyes : candF nd w.is[g] = true := by unfold candF; simp [hc, hi]
    rw [hyes, if_pos rfl] at htk
    have S3 := (hS.cat sq).cat s3
    have i3 := s3.get iq (Own.lt iq)
    refine ((hv.same sq).same s3).push u_L_int c_int k_int b_int (by rw [flat_length eI_len]; omega) rfl (by omega) (fun h6 hl6 hi6 hk6 => ?_)
    simp only [xSl_some]
    apply F_spec_l4Candidates.J7i
    rw [wrap_nat (by omega)]
    have hle := S3.le
    have hle3 := Own.lt i3
    refine hR (g + 1) _ _ _ _ _ _ (by omega) ⟨rfl, by omega, ⟨by omega, fun j hj => ?_⟩, ?_, by rw [htk]; simp, Vec.mk1 ?_, fun i hi => by cases hi; have := s3.le; have := sq.le; have := Own.lt hi0; omega⟩
    · rw [hk6 j (by omega) fun i hi => by have := ha i hi; omega]; exact S3.eq j hj
    · rw [hk6 _ hle3 fun i hi => by have := ha i hi; omega]; exact i3
    · rw [hi6, htk, flat_append]; rfl
  · apply F_spec_l4Candidates.A3x0i
    have : g = n1 := by omega
    subst this
    rw [List.take_of_length_le (by omega)] at hv ⊢
    exact ⟨hS, _, _, _, _, rfl, hv.fresh (b := h.length) rfl fun i hi => by have := ha i hi; omega⟩
end Go.Sim

set_option linter.unusedVariables false
set_option linter.unusedSimpArgs false
set_option maxRecDepth 20000
namespace Go.Sim
open Go Go.RowKit

def insAt (w : Wd) (x : Int) : Ins := w.is.getD x.toNat (([], []), [])
theorem insAt_of {w : Wd} {k : Nat} (h : k < w.is.length) : insAt w (k : Int) = w.is[k] := by unfold insAt; rw [Int.toNat_natCast, getD_at h]
/-- Special to all of some. -/
noncomputable def topOf (w : Wd) (l : List Int) (x : Int) : Bool := l.all fun k => specI (insAt w x) (insAt w k)
noncomputable def mostI (w : Wd) (l : List Int) : Int := match l.find? (topOf w l) with | some x => x | none => -1
def InW (w : Wd) (l : List Int) : Prop := ∀ x ∈ l, ∃ k : Nat, x = k ∧ k < w.is.length
theorem candW_in (w : Wd) (n : Nd) : InW w (candW w n) := fun x hx => by obtain ⟨k, hk, e, _⟩ := ixs_mem hx; exact ⟨k, e, hk⟩
theorem Row.i64 {b : Nat} {h : AHeap} {a : Pt} {n : Nat} {l : List Int} (r : Row b h a n (flat eI l)) {k : Nat} (hk : k < n) : ∃ i o, ∃ hk' : k < l.length, a = some (i, o) ∧ i < b ∧ hCell h (.ptr (some (i, o + k * 1))) = some (.int .i64 l[k]) := by
  obtain ⟨i, o, hk', ha, hi, hc⟩ := Row.el1 eI_len r hk
  exact ⟨i, o, hk', ha, hi, hc⟩
end Go.Sim

/- The search for dictionaries, and the reduction of needs: plain Lean. -/
set_option linter.unusedSimpArgs false
set_option linter.unusedVariables false
namespace Go.Sim

/-- Valid instances have needs whose type is one. -/
theorem applyS_ok {l : List Nd} {t u : List Nat} (h : applyS l t = some u) : tyOk u = true := by
  unfold applyS at h
  split at h
  · rename_i hc
    cases h
    simp only [Bool.and_eq_true, decide_eq_true_eq] at hc
    obtain ⟨a, ha⟩ := tyOk_some hc.1.2
    obtain ⟨h1, h2, h3⟩ := ofTxt_some.1 ha
    have := applyT_txt hc.1.1 h1
    rw [← h2] at this
    exact tyOk_iff.2 ⟨_, this.2, this.1, hc.2⟩
  · cases h
theorem needsW_mem {i : Ins} {t : List Nat} {ms : List Nd} (h : needsW i t = some ms) : ms.length = i.2.length ∧ ∀ m ∈ ms, tyOk m.2 = true ∧ ∃ n ∈ i.2, m.1 = n.1 := by
  unfold needsW at h
  split at h
  · cases h
  · rename_i b hb
    split at h
    · rename_i hall
      cases h
      refine ⟨by simp, fun m hm => ?_⟩
      obtain ⟨n, hn, rfl⟩ := List.mem_map.1 hm
      have := List.all_eq_true.1 hall n hn
      obtain ⟨u, hu⟩ := Option.isSome_iff_exists.1 this
      have h2 := applyS_ok hu
      unfold applyS at hu
      split at hu
      · cases hu; exact ⟨h2, n, hn, rfl⟩
      · cases hu
    · cases h
/-- In a valid world the needs of an instance are valid, and there are at most three. -/
theorem needsW_ok {w : Wd} (hw : worldOk w = true) {i : Ins} (hi : i ∈ w.is) {t : List Nat} {ms : List Nd} (h : needsW i t = some ms) : ms.length ≤ 3 ∧ ∀ m ∈ ms, needOkW w m = true := by
  obtain ⟨h1, h2⟩ := needsW_mem h
  unfold worldOk at hw
  simp only [Bool.and_eq_true, List.all_eq_true] at hw
  have h3 := hw.2 i hi
  unfold insOk at h3
  simp only [Bool.and_eq_true, List.all_eq_true, decide_eq_true_eq] at h3
  refine ⟨by omega, fun m hm => ?_⟩
  obtain ⟨h4, n, hn, he⟩ := h2 m hm
  have h5 := h3.2 n hn
  unfold needIn at h5
  simp only [Bool.and_eq_true] at h5
  unfold needOkW
  rw [h4, he, h5.1.1.1]; rfl
end Go.Sim

set_option linter.unusedVariables false
set_option linter.unusedSimpArgs false
set_option maxRecDepth 20000
namespace Go.Sim
open Go Go.RowKit

noncomputable def bdOf (l : List Nd) : Bd := l.map fun p => (p.1.headD 0, (ofTxt p.2).getD default)
theorem bind_one {l : List Nd} (h : bindOk l = true) {p : Nd} (hp : p ∈ l) : ∃ v t, p.1 = [v] ∧ isVarN v = true ∧ ofTxt p.2 = some t := by
  obtain ⟨h1, h2⟩ := bindOk_mem h hp
  obtain ⟨t, ht⟩ := tyOk_some h2
  match hq : p.1 with
  | [] => rw [hq] at h1; cases h1
  | [v] => rw [hq] at h1; exact ⟨v, t, rfl, h1, ht⟩
  | _ :: _ :: _ => rw [hq] at h1; cases h1
theorem bget_bdOf : ∀ {l : List Nd}, (∀ p ∈ l, ∃ v t, p.1 = [v] ∧ isVarN v = true ∧ ofTxt p.2 = some t) → ∀ c, bget (bdOf l) c = btree l c
  | [], _, c => rfl
  | p :: l, h, c => by
    obtain ⟨v, t, h1, h2, h3⟩ := h p (by simp)
    have ih := bget_bdOf (l := l) (fun q hq => h q (by simp [hq])) c
    unfold bdOf btree at ih ⊢
    simp only [List.map_cons, bget, h1, List.headD_cons, h3, Option.getD_some, List.find?_cons]
    by_cases e : v = c
    · subst e; simp [h3]
    · have : ¬ ([v] : List Nat) = [c] := fun x => e (by simpa using x)
      simp only [e, if_false, this, decide_false]
      exact ih
theorem bind_lt {l : List Nd} (h : bindOk l = true) : ∀ (g : Nat) (hg : g < l.length) (k : Nat) (hk : k < g), (l[k]'(by omega)).1.headD 0 < l[g].1.headD 0
  | 0, _, k, hk => by omega
  | g + 1, hg, k, hk => by
    have h1 := (bindOk_at h hg).2.2
    rcases h1 with h1 | h1
    · omega
    · rw [Nat.add_sub_cancel, getD_at (by omega)] at h1
      obtain ⟨v, t, hv, _⟩ := bind_one h (List.getElem_mem (h := hg))
      obtain ⟨u, t', hu, _⟩ := bind_one h (List.getElem_mem (l := l) (n := g) (h := by omega))
      rw [hv, hu, natLess_one] at h1
      have h2 : u < v := of_decide_eq_true h1
      by_cases e : k = g
      · subst e; rw [hv, hu]; exact h2
      · have := bind_lt h g (by omega) k (by omega)
        rw [hu] at this; rw [hv]
        simp only [List.headD_cons] at this ⊢; omega
theorem bdOf_fresh {l : List Nd} (h : bindOk l = true) {g v : Nat} (hg : g < l.length) (hv : l[g].1 = [v]) : bget (bdOf (l.take g)) v = none := by
  rw [bget_none]
  intro hm
  unfold bdOf at hm
  rw [List.map_map] at hm
  obtain ⟨p, hp, he⟩ := List.mem_map.1 hm
  obtain ⟨k, hk, rfl⟩ := List.getElem_of_mem hp
  simp only [List.length_take] at hk
  have := bind_lt h g hg k (by omega)
  rw [hv] at this
  simp only [Function.comp_def, List.getElem_take, List.headD_cons] at he this
  omega
theorem MapR.mono {S S' : Nat → Prop} {h : AHeap} {i : Nat} {m : Bd} (r : MapR S h i m) (hs : ∀ j, S j → S' j) : MapR S' h i m := by
  obtain ⟨rows, h1, h2, h3⟩ := r
  refine ⟨rows, h1, h2, fun k x hx => ?_⟩
  have := h3 k x hx
  split at this
  · exact this.mono hs
  · exact this
theorem MapR.below {S : Nat → Prop} {h : AHeap} {i : Nat} {m : Bd} (r : MapR S h i m) : MapR (fun j => S j ∧ j < h.length) h i m := by
  obtain ⟨rows, h1, h2, h3⟩ := r
  refine ⟨rows, h1, h2, fun k x hx => ?_⟩
  have := h3 k x hx
  split at this
  · exact SRep.below this
  · exact this
theorem sApplyBindings_ok {h : AHeap} {a : Pt} {n c : Nat} {e : Bool} {l : List Nd} {t : List Nat} (r : Row h.length h a (n * 2) (flat eP l)) (hn : n ≤ 1048576) (hb : ∀ p ∈ l, p.2.length ≤ 1048576) (hb1 : ∀ p ∈ l, ∀ x ∈ p.1, x < 256) (ht : t.length ≤ 1048576) :
    SCall pg n_spec_ApplyBindings [.slice a n c e, .str t] h fun v h' => v = applyA l t ∧ Same h.length h h' := by
  have hl : l.length = n := by have := r.1; rw [flat_length eP_len] at this; omega
  apply F_spec_ApplyBindings.call
  refine (l1Read_ok t (by omega) h).mono ?_
  rintro v h1 ⟨s1, vs1, rfl, r1⟩
  obtain ⟨d1, a1, n1, c1, e1, rfl⟩ := read_shape r1
  simp only [xTup_tup, xCons_cons, xAgg_agg, xInt_some, xSl_some, xNil_nil, xBool_some, letH_def]
  rw [store2]
  generalize hh2 : h1 ++ [AObj.cells t_spec_l1Node [.int .u8 d1, .slice a1 n1 c1 e1] false] = h2
  have s2 : Same h1.length h1 h2 := by rw [← hh2]; exact same_last
  have o2 : h2[h1.length]? = some (.cells t_spec_l1Node [.int .u8 d1, .slice a1 n1 c1 e1] false) := by rw [← hh2]; simp
  have S2 := s1.cat s2
  simp only [xHeap_some]
  cases hto : tyOk t with
  | false =>
    simp only [Bool.not_false, bcase_true]
    exact ⟨by unfold applyA applyS; rw [hto]; simp, S2⟩
  | true =>
  simp only [Bool.not_true, bcase_false]
  obtain ⟨u, hu⟩ := tyOk_some hto
  obtain ⟨hu1, hu2, hu3⟩ := ofTxt_some.1 hu
  rw [hu] at r1
  simp only at r1
  refine (sBindingsValid_ok (r.same' S2) hn hb hb1).mono ?_
  rintro v h3 ⟨rfl, s3⟩
  simp only [xBool_some]
  have S3 := S2.cat s3
  refine bcase_not (fun b1 => ⟨by unfold applyA applyS; rw [b1]; rfl, S3⟩) (fun b1 => ?_)
  apply F_spec_ApplyBindings.J4i
  simp only [letH_def]
  rw [← zeros12]
  generalize hh4 : h3 ++ [AObj.cells t_spec_l2Map (flat eR (List.replicate 12 (AVal.int .u8 0, AVal.slice none 0 0 true))) false] = h4
  have s4 : Same h3.length h3 h4 := by rw [← hh4]; exact same_last
  have o4 : h4[h3.length]? = some (.cells t_spec_l2Map (flat eR (List.replicate 12 (AVal.int .u8 0, AVal.slice none 0 0 true))) false) := by rw [← hh4]; simp
  have l4 : h4.length = h3.length + 1 := by rw [← hh4]; simp
  have hone : ∀ p ∈ l, ∃ v t, p.1 = [v] ∧ isVarN v = true ∧ ofTxt p.2 = some t := fun p hp => bind_one b1 hp
  have o3 := s3.get o2 (Own.lt o2)
  refine F_spec_ApplyBindings.L6ind _ _ _ _ _ _ _ _ _ _ (J := fun (g : Nat) x28 h' => x28 = (g : Int) ∧ g ≤ n ∧ Same h3.length h3 h' ∧ h4.length ≤ h'.length ∧ MapR (fun j => j ≠ h3.length) h' h3.length (bdOf (l.take g))) (fun g => n - g) ?_ 0 _ _ ⟨rfl, by omega, s4, Nat.le_refl _, MapR.nil o4⟩
  rintro g x28 h' ⟨rfl, hg, hS, hl4, rm⟩ R hR
  have SS := S3.cat hS
  unfold F_spec_ApplyBindings.L6t
  refine bcase_dec (fun hlt => ?_) (fun hge => ?_)
  · obtain ⟨i, o, hgl, rfl, hi, hr, _, _⟩ := (r.same SS).pr (k := g) (by omega)
    obtain ⟨v, tt, hv1, hv2, hv3⟩ := hone _ (List.getElem_mem hgl)
    obtain ⟨ht1, ht2, ht3⟩ := ofTxt_some.1 hv3
    simp only [xSome_some, Int.toNat_natCast, hr, xRow_some, xCons_cons, xNil_nil, xStr_some, letH_def]
    rw [store2]
    generalize hq : h' ++ [AObj.cells t_impl_Binding [.str l[g].1, .str l[g].2] false] = hq'
    have sq : Same h'.length h' hq' := by rw [← hq]; exact same_last
    have oq : hq'[h'.length]? = some (.cells t_impl_Binding [.str l[g].1, .str l[g].2] false) := by rw [← hq]; simp
    have hlq := sq.le
    rw [hv1] at oq
    simp only [xHeap_some, hCell_of oq, Nat.zero_add, List.getElem?_cons_succ, List.getElem?_cons_zero, xStr_some]
    refine ⟨by omega, by simp, ?_⟩
    simp only [Int.toNat_zero, List.getD_cons_zero]
    refine (l2Index_ok v).mono ?_
    rintro v' h5 ⟨rfl, rfl⟩
    obtain ⟨k, hk6, hkv, hix⟩ := l2idx_var hv2
    simp only [hix, xInt_some, hCell_of oq, List.getElem?_cons_succ, List.getElem?_cons_zero, true_and]
    refine (l1Read_ok l[g].2 (by omega) h5).mono ?_
    rintro v' h6 ⟨s6, vs6, rfl, r6⟩
    obtain ⟨d6, a6, n6, c6, e6, rfl⟩ := read_shape r6
    rw [hv3] at r6
    simp only at r6
    have hl6 := s6.le
    have ho6 : hCell h6 (.ptr (some (h'.length, 0))) = hCell h5 (.ptr (some (h'.length, 0))) := by simp only [hCell, s6.eq _ (Own.lt oq)]
    simp only [xTup_tup, xCons_cons, xAgg_agg, xInt_some, xSl_some, xNil_nil, xBool_some, ho6, true_and]
    have rm6 := (rm.same sq).same s6
    obtain ⟨h7, hst, hK, rm7⟩ := rm6.put (fun j hj => hj) hkv (bdOf_fresh b1 hgl hv1) (r6.mono fun j hj => by have := hj.1; omega)
    rw [Int.toNat_natCast, Nat.zero_add] at *
    rw [hst]
    simp only [xHeap_some]
    rw [wrap_nat (by omega)]
    have hK7 := hK.le
    refine ⟨by rw [hCell_of oq]; rfl, ⟨by omega, by omega⟩, hR (g + 1) _ _ (by omega) ⟨rfl, by omega, ⟨by omega, fun j hj => ?_⟩, by omega, ?_⟩⟩
    · rw [hK.eq j (by omega) (by omega), s6.eq j (by omega), sq.eq j (by omega), hS.eq j hj]
    · have : bdOf (l.take (g + 1)) = bdOf (l.take g) ++ [(v, tt)] := by
        unfold bdOf
        rw [List.take_succ_eq_append_getElem hgl, List.map_append]
        simp [hv1, hv3]
      rw [this]; exact rm7
  · apply F_spec_ApplyBindings.A6x0i
    have : g = n := by omega
    subst this
    rw [List.take_of_length_le (by omega)] at rm
    have hS3 := S3.le
    have h31 : h1.length ≤ h3.length := (s2.cat s3).le
    have o5 := hS.get o3 (Own.lt o3)
    simp only [hRow_of o5 (show 0 + 2 ≤ _ by simp), List.drop_zero, List.take_succ_cons, List.take_zero, xRow_some, xCons_cons, xNil_nil, xInt_some, xSl_some]
    have hbm : ∀ c, bget (bdOf l) c = btree l c := bget_bdOf hone
    have rt := (((r1.same s2).same s3).same hS).mono (S' := fun j => j ≠ h3.length) (fun j hj => by have := hj.2; omega)
    refine (l2Put_ok _ (Nat.le_refl _) hu1 (S := fun j => j ≠ h3.length ∧ j < h'.length) (fun j hj => ⟨hj.2, hj.1⟩) rt.below rm.below (fun v w hw => ?_) (fun v hv => ?_)).mono ?_
    · rw [hbm] at hw; exact ((bfind_tree b1 v).2 w hw).1
    · rw [hbm]; exact (bfind_not b1 hv).2
    rintro v h6 ⟨s6, nv, rfl, hn6⟩
    rw [show bget (bdOf l) = btree l from funext hbm] at hn6
    obtain ⟨na, nc, ne, rfl⟩ := hn6.shape
    have hat := applyT_txt b1 hu1
    rw [← hu2] at hat
    have hal := applyT_len b1 t
    simp only [xAgg_agg, xCons_cons, xInt_some, xSl_some, xNil_nil, letH_def]
    rw [store2]
    generalize hh7 : h6 ++ [AObj.cells t_spec_l1Node [.int .u8 ((subst (btree l) u).hd : Int), .slice na (subst (btree l) u).ps.length nc ne] false] = h7
    have s7 : Same h6.length h6 h7 := by rw [← hh7]; exact same_last
    have o7 : h7[h6.length]? = some (.cells t_spec_l1Node [.int .u8 ((subst (btree l) u).hd : Int), .slice na (subst (btree l) u).ps.length nc ne] false) := by rw [← hh7]; simp
    have S7 := (SS.cat s6).cat s7
    simp only [xHeap_some, hRow_of o7 (show 0 + 2 ≤ _ by simp), List.drop_zero, List.take_succ_cons, List.take_zero, xRow_some, xCons_cons, xNil_nil, xInt_some, xSl_some]
    refine (l2Length_ok _ (Nat.le_refl _) (by rw [← hat.1]; omega) (hn6.same s7)).mono ?_
    rintro v h8 ⟨rfl, s8⟩
    have o8 := s8.get o7 (Own.lt o7)
    simp only [xInt_some]
    rw [← hat.1]
    refine bcase_dec (fun hbig => ⟨by unfold applyA applyS; rw [if_neg (by simp; omega)], S7.cat s8⟩) (fun hsm => ?_)
    simp only [hRow_of o8 (show 0 + 2 ≤ _ by simp), List.drop_zero, List.take_succ_cons, List.take_zero, xRow_some, xCons_cons, xNil_nil, xInt_some, xSl_some]
    refine (l1Text_ok _ (Nat.le_refl _) (by rw [← hat.1]; omega) hat.2 ((hn6.same s7).same s8)).mono ?_
    rintro v h9 ⟨rfl, s9⟩
    simp only [xStr_some]
    refine ⟨?_, (S7.cat s8).cat s9⟩
    unfold applyA applyS
    rw [if_pos (by rw [b1, hto]; simp; omega), hat.1]
theorem matchR_bounds (p s : List Nat) : (∀ q ∈ matchR p s, q.2.length ≤ 1048576) ∧ (∀ q ∈ matchR p s, ∀ x ∈ q.1, x < 256) ∧ (matchR p s).length ≤ 6 := by
  unfold matchR
  cases hm : matchS p s with
  | none => simp
  | some m =>
    have b := matchS_ok hm
    refine ⟨fun q hq => ?_, fun q hq x hx => ?_, bdL_len m⟩
    · have hq' := bindOk_mem (bindOk_bdL b) hq
      have := tyOk_len hq'.2; omega
    · simp only [bdL_eq, List.mem_map, List.mem_filter] at hq
      obtain ⟨v, ⟨hv, _⟩, rfl⟩ := hq
      simp at hx; subst hx
      have := (varsN_var x).1 hv
      simp only [isVarN, Bool.or_eq_true, beq_iff_eq] at this; omega
theorem sNeeds_ok {h : AHeap} {a : Pt} {n c : Nat} {e : Bool} {i : Ins} {t : List Nat} (r : Row h.length h a (n * 2) (flat eP i.2)) (hn : n ≤ 1048576) (hi : i.1.2.length ≤ 1048576) (ht : t.length ≤ 1048576) (hns : ∀ p ∈ i.2, p.2.length ≤ 1048576) :
    SCall pg n_spec_l4Needs [.agg [.str i.1.1, .str i.1.2, .slice a n c e], .str t] h (NeedsQ i t h) := by
  have hl : i.2.length = n := by have := r.1; rw [flat_length eP_len] at this; omega
  apply F_spec_l4Needs.call
  simp only [letH_def]
  generalize hh0 : h ++ [AObj.cells t_impl_Instance [.str i.1.1, .str i.1.2, .slice a n c e] false] = h0
  generalize hh1 : h0 ++ [AObj.cells t_impl_Need [] false] = h1
  have s0 : Same h.length h h0 := by rw [← hh0]; exact same_last
  have s1 : Same h0.length h0 h1 := by rw [← hh1]; exact same_last
  have o0 : h0[h.length]? = some (.cells t_impl_Instance [.str i.1.1, .str i.1.2, .slice a n c e] false) := by rw [← hh0]; simp
  have x1 := s1.get o0 (Own.lt o0)
  have o1 : h1[h0.length]? = some (.cells t_impl_Need [] false) := by rw [← hh1]; simp
  have l0 : h0.length = h.length + 1 := by rw [← hh0]; simp
  simp only [hCell_of x1, Nat.zero_add, List.getElem?_cons_succ, List.getElem?_cons_zero, xStr_some]
  refine (sMatchType_ok i.1.2 t hi ht h1).mono ?_
  rintro v h2 ⟨s2, ma, mn, mc, me, rfl, hmc, fm⟩
  simp only [xTup_tup, xCons_cons, xSl_some, xBool_some, xNil_nil]
  have S2 := (s0.cat s1).cat s2
  have o2 := s2.get o1 (Own.lt o1)
  have x2 := s2.get x1 (Own.lt x1)
  obtain ⟨hmb1, hmb2, hml⟩ := matchR_bounds i.1.2 t
  have hmn := fm.1
  have hS1le : h.length ≤ h1.length := (s0.cat s1).le
  have hnw0 : instS i.1.2 t = false → needsW i t = none := fun hno => by
    unfold needsW instS at *
    cases hm : matchS i.1.2 t with
    | none => rfl
    | some m => rw [hm] at hno; cases hno
  refine bcase_not (fun b1 => ⟨S2, _, 0, 0, true, by rw [hnw0 b1]; rfl, by rw [hnw0 b1]; exact ⟨rfl, .inl rfl⟩⟩) (fun b1 => ?_)
  simp only [hCell_of x2, List.getElem?_cons_succ, List.getElem?_cons_zero, xSl_some]
  have hnw : needsW i t = if i.2.all (fun p => (applyS (matchR i.1.2 t) p.2).isSome) then some (i.2.map (putN (matchR i.1.2 t))) else none := by
    unfold needsW instS at *
    cases hm : matchS i.1.2 t with
    | none => rw [hm] at b1; cases b1
    | some m =>
      have hml' : matchR i.1.2 t = bdL m := by unfold matchR; rw [hm]
      simp only [hml']
      by_cases hall : i.2.all (fun p => (applyS (bdL m) p.2).isSome) = true
      · rw [if_pos hall, if_pos hall, putN_all hall]
      · rw [if_neg hall, if_neg hall]
  generalize matchR i.1.2 t = ml at *
  refine F_spec_l4Needs.L6ind _ _ _ _ _ _ _ _ _ _ (J := fun (g : Nat) a8 n8 c8 e8 x28 h' => x28 = (g : Int) ∧ g ≤ n ∧ Same h.length h h' ∧ h2.length ≤ h'.length ∧ Row h'.length h' ma (mn * 2) (flat eP ml) ∧ (i.2.take g).all (fun p => (applyS ml p.2).isSome) = true ∧ n8 = g ∧ Vec t_impl_Need h' a8 n8 c8 (flat eP ((i.2.take g).map (putN ml))) ∧ (∀ j, a8 = some (j, 0) → j = h0.length ∨ h2.length ≤ j)) (fun g => n - g) ?_ 0 _ _ _ _ _ _
    ⟨rfl, by omega, S2, Nat.le_refl _, fm.row eP_len, rfl, rfl, Vec.mk1 (by simpa using o2), fun j hj => by cases hj; exact .inl rfl⟩
  rintro g a8 n8 c8 e8 x28 h' ⟨rfl, hg, hS, hl1, hrm, hall, rfl, hv, ha⟩ R hR
  unfold F_spec_l4Needs.L6t
  have hl2 : h1.length ≤ h2.length := s2.le
  refine bcase_dec (fun hlt => ?_) (fun hge => ?_)
  · obtain ⟨j, o, hgl, rfl, hj, hr, _, _⟩ := (r.same hS).pr (k := n8) (by omega)
    simp only [xSome_some, Int.toNat_natCast, hr, xRow_some, xCons_cons, xNil_nil, xStr_some, letH_def]
    rw [store2]
    generalize hq : h' ++ [AObj.cells t_impl_Need [.str i.2[n8].1, .str i.2[n8].2] false] = hq'
    have sq : Same h'.length h' hq' := by rw [← hq]; exact same_last
    have oq : hq'[h'.length]? = some (.cells t_impl_Need [.str i.2[n8].1, .str i.2[n8].2] false) := by rw [← hq]; simp
    simp only [xHeap_some, hCell_of oq, Nat.zero_add, List.getElem?_cons_succ, List.getElem?_cons_zero, xStr_some]
    refine ⟨by omega, (sApplyBindings_ok (hrm.same' sq) (by omega) hmb1 hmb2 (hns _ (List.getElem_mem hgl))).mono ?_⟩
    rintro v h3 ⟨rfl, s3⟩
    have hshape : applyA ml i.2[n8].2 = .tup [.str ((applyS ml i.2[n8].2).getD []), .bool (applyS ml i.2[n8].2).isSome] := by
      unfold applyA; cases applyS ml i.2[n8].2 <;> rfl
    rw [hshape]
    simp only [xTup_tup, xCons_cons, xStr_some, xBool_some, xNil_nil]
    have S3 := (hS.cat sq).cat s3
    have o3 := s3.get oq (Own.lt oq)
    refine bcase_not (fun b2 => ?_) (fun b2 => ?_)
    · have : needsW i t = none := by rw [hnw, not_all hgl b2]; rfl
      exact ⟨S3.cat same_last, _, 0, 0, true, by rw [this]; rfl, by rw [this]; exact ⟨rfl, .inl rfl⟩⟩
    · simp only [hCell_of o3, List.getElem?_cons_zero, xStr_some]
      refine ((hv.same sq).same s3).pushN u_L_iNeed c_iNeed k_iNeed b_iNeed (by rw [flat_length eP_len]; simp; omega) rfl (by omega) rfl (by omega) (fun h6 hl6 hi6 hk6 => ?_)
      simp only [xSl_some]
      rw [wrap_nat (by omega)]
      have hle := S3.le
      have hlq := sq.le
      have hl3 := s3.le
      have hb8 : ∀ j, a8 = some (j, 0) → h.length ≤ j := fun j hj => by rcases ha j hj with hh | hh <;> omega
      have hlast : ∀ j, (some (h3.length + 1, 0) : Pt) = some (j, 0) → j = h0.length ∨ h2.length ≤ j := fun j hj => by
        cases hj
        exact .inr (by omega)
      refine hR (n8 + 1) _ _ _ _ _ _ (by omega) ⟨rfl, by omega, ⟨by omega, fun j hj => ?_⟩, by omega, ?_, take_succ_all hgl hall b2, rfl, Vec.mk1 ?_, hlast⟩
      · rw [hk6 j (by omega) fun q hq => by have := hb8 q hq; omega]; exact S3.eq j hj
      · have hr3 := (hrm.same' sq).same' s3
        obtain ⟨hx1, hx2⟩ := hr3
        rcases fm.2 with h0' | ⟨q2, hq2, hqb2, hq3⟩
        · exact ⟨hx1, .inl (by omega)⟩
        · refine ⟨hx1, hx2.imp id ?_⟩
          rintro ⟨q, o', ty, all, ro, hqa, hqb, hqg, hq4, hq5⟩
          refine ⟨q, o', ty, all, ro, hqa, by omega, ?_, hq4, hq5⟩
          rw [hk6 q hqb fun q' hq' => ?_]
          · exact hqg
          · intro e
            subst e
            rw [hqa] at hq2; cases hq2
            have := Own.lt hq3
            rcases ha _ hq' with hh | hh
            · have := Own.lt o1; omega
            · omega
      · rw [hi6, List.take_succ_eq_append_getElem hgl, List.map_append, flat_append]; rfl
  · apply F_spec_l4Needs.A6x0i
    have : n8 = n := by omega
    subst this
    rw [show i.2.take n8 = i.2 from List.take_of_length_le (by omega)] at hv hall
    have : needsW i t = some (i.2.map (putN ml)) := by rw [hnw, hall]; rfl
    refine ⟨hS, a8, n8, c8, e8, by rw [this]; rfl, ?_⟩
    rw [this]
    exact hv.fresh (b := h.length) (by simp; omega) fun j hj => by rcases ha j hj with hh | hh <;> omega
end Go.Sim

set_option linter.unusedVariables false
set_option linter.unusedSimpArgs false
set_option maxRecDepth 20000
namespace Go.Sim
open Go Go.RowKit

end Go.Sim

/- The classes above one: plain Lean. -/
set_option linter.unusedSimpArgs false
set_option linter.unusedVariables false
namespace Go.Sim

/-- The class of letter a is right below that of letter b. -/
def Up (cs : List Nd) (a b : Nat) : Prop := ∃ i, ∃ h : i < cs.length, cs[i].1 = [a] ∧ b ∈ cs[i].2
/-- Above by one or more steps. -/
inductive Rch (cs : List Nd) (a : Nat) : Nat → Prop
  | one {b : Nat} : Up cs a b → Rch cs a b
  | more {b c : Nat} : Rch cs a b → Up cs b c → Rch cs a c
theorem clsOk_at {cs : List Nd} (h : clsOk cs = true) {i : Nat} (hi : i < cs.length) : clsAt cs i = true := by
  unfold clsOk at h
  simp only [Bool.and_eq_true, List.all_eq_true] at h
  exact h.1 i (List.mem_range.2 hi)
theorem cls_name {cs : List Nd} (h : clsOk cs = true) {i : Nat} (hi : i < cs.length) : ∃ d, cs[i].1 = [d] ∧ 65 ≤ d ∧ d ≤ 84 := by
  have := clsOk_at h hi
  unfold clsAt at this
  rw [getD_at hi] at this
  simp only [Bool.and_eq_true] at this
  have h1 := this.1.1
  unfold isCls at h1
  split at h1
  · rename_i d hd; exact ⟨d, hd, by simpa using h1⟩
  · cases h1
theorem cls_less1 {cs : List Nd} (h : clsOk cs = true) {i : Nat} (hi : i + 1 < cs.length) {a b : Nat} (ha : cs[i].1 = [a]) (hb : cs[i + 1].1 = [b]) : a < b := by
  have := clsOk_at h hi
  unfold clsAt at this
  rw [getD_at hi, Nat.add_sub_cancel, getD_at (by omega), ha, hb] at this
  simp only [Bool.and_eq_true] at this
  have h1 := this.1.2
  simpa [natLess] using h1
theorem cls_less {cs : List Nd} (h : clsOk cs = true) : ∀ (k i : Nat) (hi : i + k + 1 < cs.length) {a b : Nat}, cs[i].1 = [a] → cs[i + k + 1].1 = [b] → a < b
  | 0, i, hi, a, b, ha, hb => cls_less1 h hi ha hb
  | k + 1, i, hi, a, b, ha, hb => by
    obtain ⟨d, hd, _⟩ := cls_name h (show i + k + 1 < cs.length by omega)
    have h1 := cls_less h k i (by omega) ha hd
    have h2 := cls_less1 h (i := i + k + 1) (by omega) hd hb
    omega
theorem cls_inj {cs : List Nd} (h : clsOk cs = true) {i j : Nat} (hi : i < cs.length) (hj : j < cs.length) {a : Nat} (ha : cs[i].1 = [a]) (hb : cs[j].1 = [a]) : i = j := by
  rcases Nat.lt_trichotomy i j with hl | he | hl
  · obtain ⟨k, rfl⟩ : ∃ k, j = i + k + 1 := ⟨j - i - 1, by omega⟩
    have := cls_less h k i hj ha hb; omega
  · exact he
  · obtain ⟨k, rfl⟩ : ∃ k, i = j + k + 1 := ⟨i - j - 1, by omega⟩
    have := cls_less h k j hi hb ha; omega
/-- What is above a class are classes ahead of it. -/
theorem cls_above {cs : List Nd} (h : clsOk cs = true) {i : Nat} (hi : i < cs.length) {b : Nat} (hb : b ∈ cs[i].2) : ∃ j, ∃ hj : j < i, cs[j].1 = [b] := by
  have := clsOk_at h hi
  unfold clsAt at this
  rw [getD_at hi] at this
  simp only [Bool.and_eq_true] at this
  have h1 := this.2
  unfold supsOk at h1
  rw [List.all_eq_true] at h1
  obtain ⟨k, hk, rfl⟩ := List.mem_iff_getElem.1 hb
  have h2 := h1 k (List.mem_range.2 hk)
  unfold supAt at h2
  rw [getD_at hk] at h2
  simp only [Bool.and_eq_true] at h2
  have h3 := h2.1
  unfold knownC at h3
  rw [List.any_eq_true] at h3
  obtain ⟨x, hx, he⟩ := h3
  obtain ⟨j, hj, rfl⟩ := List.mem_iff_getElem.1 hx
  rw [List.length_take] at hj
  exact ⟨j, by omega, by simpa using he⟩
theorem Up.ix {cs : List Nd} (h : clsOk cs = true) {a b i : Nat} (u : Up cs a b) (hi : i < cs.length) (ha : cs[i].1 = [a]) : b ∈ cs[i].2 := by
  obtain ⟨j, hj, hja, hb⟩ := u
  have := cls_inj h hi hj ha hja
  subst this; exact hb
theorem Rch.ix {cs : List Nd} (h : clsOk cs = true) {a b i : Nat} (r : Rch cs a b) (hi : i < cs.length) (ha : cs[i].1 = [a]) : ∃ j, ∃ hj : j < i, cs[j].1 = [b] := by
  induction r with
  | one u => exact cls_above h hi (u.ix h hi ha)
  | more _ u ih =>
    obtain ⟨j, hj, hb⟩ := ih
    obtain ⟨k, hk, hc⟩ := cls_above h (show j < cs.length by omega) (u.ix h (by omega) hb)
    exact ⟨k, by omega, hc⟩
/-- The program's step down the list of classes: what is known of the letters so far. -/
structure DownI (cs : List Nd) (a : Nat) (i : Nat) (ab : List Nat) : Prop where
  sound : ∀ d ∈ ab, Rch cs a d
  done : ∀ j, i ≤ j → ∀ hj : j < cs.length, (cs[j].1 = [a] ∨ ∃ d, cs[j].1 = [d] ∧ d ∈ ab) → ∀ b ∈ cs[j].2, b ∈ ab
theorem DownI.step {cs : List Nd} (h : clsOk cs = true) {a i : Nat} {ab : List Nat} (D : DownI cs a (i + 1) ab) (hi : i < cs.length) (hc : cs[i].1 = [a] ∨ ∃ d, cs[i].1 = [d] ∧ d ∈ ab) : DownI cs a i (ab ++ cs[i].2) := by
  refine ⟨fun d hd => ?_, fun j hj hjl hcj b hb => ?_⟩
  · rcases List.mem_append.1 hd with hd | hd
    · exact D.sound d hd
    · rcases hc with hc | ⟨e, he, hm⟩
      · exact .one ⟨i, hi, hc, hd⟩
      · exact .more (D.sound e hm) ⟨i, hi, he, hd⟩
  · by_cases hji : j = i
    · subst hji; exact List.mem_append_right _ hb
    · refine List.mem_append_left _ (D.done j (by omega) hjl ?_ b hb)
      rcases hcj with hcj | ⟨e, he, hm⟩
      · exact .inl hcj
      · rcases List.mem_append.1 hm with hm | hm
        · exact .inr ⟨e, he, hm⟩
        · exfalso
          obtain ⟨k, hk, hke⟩ := cls_above h hi hm
          have := cls_inj h hjl (show k < cs.length by omega) he hke
          omega
theorem DownI.skip {cs : List Nd} {a i : Nat} {ab : List Nat} (D : DownI cs a (i + 1) ab) (hc : ∀ hi : i < cs.length, ¬ (cs[i].1 = [a] ∨ ∃ d, cs[i].1 = [d] ∧ d ∈ ab)) : DownI cs a i ab :=
  ⟨D.sound, fun j hj hjl hcj b hb => by
    by_cases hji : j = i
    · subst hji; exact absurd hcj (hc hjl)
    · exact D.done j (by omega) hjl hcj b hb⟩
theorem DownI.all {cs : List Nd} (h : clsOk cs = true) {a i : Nat} {ab : List Nat} (D : DownI cs a 0 ab) (hi : i < cs.length) (ha : cs[i].1 = [a]) (d : Nat) : d ∈ ab ↔ Rch cs a d := by
  refine ⟨D.sound d, fun r => ?_⟩
  induction r with
  | one u => exact D.done i (by omega) hi (.inl ha) _ (u.ix h hi ha)
  | more r u ih =>
    obtain ⟨j, hj, hb⟩ := r.ix h hi ha
    exact D.done j (by omega) (by omega) (.inr ⟨_, hb, ih⟩) _ (u.ix h (by omega) hb)
/-- The reference's rounds: letters of classes that are not far ahead are in. -/
structure RndI (cs : List Nd) (a i : Nat) (r : Nat) (ab : List Nat) : Prop where
  sound : ∀ d ∈ ab, Rch cs a d
  first : ∀ d, Up cs a d → d ∈ ab
  near : ∀ j, j < i → i ≤ j + 1 + r → ∀ hj : j < cs.length, ∀ d, cs[j].1 = [d] → Rch cs a d → d ∈ ab
theorem RndI.next {cs : List Nd} (h : clsOk cs = true) {a i r : Nat} {ab ab' : List Nat} (R : RndI cs a i r ab) (hi : i < cs.length) (ha : cs[i].1 = [a])
    (hs : ∀ d ∈ ab', d ∈ ab ∨ ∃ e ∈ ab, Up cs e d) (hc : ∀ d, (d ∈ ab ∨ ∃ e ∈ ab, Up cs e d) → d ∈ ab') : RndI cs a i (r + 1) ab' := by
  refine ⟨fun d hd => ?_, fun d u => hc d (.inl (R.first d u)), fun j hj hn hjl d hd rc => ?_⟩
  · rcases hs d hd with hd | ⟨e, he, u⟩
    · exact R.sound d hd
    · exact .more (R.sound e he) u
  · cases rc with
    | one u => exact hc d (.inl (R.first d u))
    | more rc u =>
      rename_i e
      obtain ⟨k, hk, hb⟩ := rc.ix h hi ha
      have hjk : j < k := by
        obtain ⟨q, hq, hcq⟩ := cls_above h (show k < cs.length by omega) (u.ix h (by omega) hb)
        have := cls_inj h hjl (show q < cs.length by omega) hd hcq
        omega
      exact hc d (.inr ⟨e, R.near k hk (by omega) (by omega) e hb rc, u⟩)
theorem RndI.all {cs : List Nd} (h : clsOk cs = true) {a i r : Nat} {ab : List Nat} (R : RndI cs a i r ab) (hi : i < cs.length) (ha : cs[i].1 = [a]) (hr : i ≤ r + 1) (d : Nat) : d ∈ ab ↔ Rch cs a d := by
  refine ⟨R.sound d, fun rc => ?_⟩
  obtain ⟨j, hj, hd⟩ := rc.ix h hi ha
  exact R.near j hj (by omega) (by omega) d hd rc
end Go.Sim

set_option linter.unusedVariables false
set_option linter.unusedSimpArgs false
set_option maxRecDepth 20000
namespace Go.Sim
open Go Go.RowKit

end Go.Sim

set_option linter.unusedVariables false
set_option linter.unusedSimpArgs false
set_option maxRecDepth 20000
namespace Go.Sim
open Go Go.RowKit

end Go.Sim

set_option linter.unusedVariables false
set_option linter.unusedSimpArgs false
set_option maxRecDepth 20000
namespace Go.Sim
open Go Go.RowKit

/-- A list of needs that grows. -/
structure NVec (b : Nat) (h : AHeap) (a : Pt) (n c : Nat) (l : List Nd) : Prop where
  vec : Vec t_impl_Need h a n c (flat eP l)
  len : l.length = n
  low : ∀ i, a = some (i, 0) → b ≤ i
theorem NVec.row {b : Nat} {h : AHeap} {a : Pt} {n c : Nat} {l : List Nd} (f : NVec b h a n c l) : Row h.length h a (n * 2) (flat eP l) := f.vec.row (by rw [flat_length eP_len, f.len])
theorem NVec.same {b : Nat} {h h' : AHeap} {a : Pt} {n c : Nat} {l : List Nd} (f : NVec b h a n c l) (s : Same h.length h h') : NVec b h' a n c l := ⟨f.vec.same s, f.len, f.low⟩
/-- Nothing has turned but the list's row. -/
def But (a : Pt) (h h' : AHeap) : Prop := h.length ≤ h'.length ∧ ∀ j, j < h.length → (∀ i, a = some (i, 0) → j ≠ i) → h'[j]? = h[j]?
theorem But.of {a : Pt} {h h' : AHeap} (s : Same h.length h h') : But a h h' := ⟨s.le, fun j hj _ => s.eq j hj⟩
theorem But.below {a : Pt} {b : Nat} {h h' : AHeap} (s : But a h h') (hb : b ≤ h.length) (hl : ∀ i, a = some (i, 0) → b ≤ i) : Same b h h' := ⟨s.1, fun j hj => s.2 j (by omega) fun i hi => by have := hl i hi; omega⟩
end Go.Sim

/- The reduction of needs: plain Lean; over the candidates and the needs of instances, whatever they are. -/
set_option linter.unusedSimpArgs false
set_option linter.unusedVariables false
namespace Go.Sim

/-- What is told of a search: candidates of a need; the needs of an instance for a type; which of some is the most special (or -1). -/
structure Wk where
  cand : Nd → List Int
  needs : Int → List Nat → Option (List Nd)
  most : List Int → Int
/-- What a search found: a text, or the reason why it failed with the need at which it did. -/
inductive Fnd where
  | ok (s : List Nat)
  | no (why : List Nat) (n : Nd)
def wrongT : List Nat := [119, 114, 111, 110, 103]
end Go.Sim
