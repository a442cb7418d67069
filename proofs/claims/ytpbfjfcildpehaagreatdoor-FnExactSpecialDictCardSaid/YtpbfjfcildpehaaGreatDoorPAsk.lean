/- A part of the proof of a statement of this seat: see the text that holds the theorem. No condition. -/
import Derived.Test.YtpbfjfcildpehaaGreatDoorPTCSApply
import Derived.Test.YtpbfjfcildpehaaGreatDoorPSearch
import Derived.Test.YtpbfjfcildpehaaGreatDoorCWRep
import Derived.Test.YtpbfjfcildpehaaGreatDoorNm
set_option linter.unusedVariables false
set_option linter.unusedSimpArgs false
set_option linter.all false
set_option linter.unusedVariables false
set_option linter.unusedSimpArgs false
set_option maxRecDepth 20000
namespace Go.Sim
open Go Go.RowKit

noncomputable def bdOf (l : List Nd) : Bd := l.map fun p => (p.1.headD 0, (ofTxt p.2).getD default)
theorem bind_one {l : List Nd} (h : bindOk l = true) {p : Nd} (hp : p ∈ l) : ∃ v t, p.1 = [v] ∧ isVarN v = true ∧ ofTxt p.2 = some t := by
  obtain ⟨h1, h2⟩ := bindOk_mem h hp
  obtain ⟨t, ht⟩ := tyOk_some h2
  match hq : p.1 with
  | [] => rw [hq] at h1; cases h1
  | [v] => rw [hq] at h1; exact ⟨v, t, rfl, h1, ht⟩
  | _ :: _ :: _ => rw [hq] at h1; cases h1
theorem bget_bdOf : ∀ {l : List Nd}, (∀ p ∈ l, ∃ v t, p.1 = [v] ∧ isVarN v = true ∧ ofTxt p.2 = some t) → ∀ c, bget (bdOf l) c = btree l c
  | [], _, c => rfl
  | p :: l, h, c => by
    obtain ⟨v, t, h1, h2, h3⟩ := h p (by simp)
    have ih := bget_bdOf (l := l) (fun q hq => h q (by simp [hq])) c
    unfold bdOf btree at ih ⊢
    simp only [List.map_cons, bget, h1, List.headD_cons, h3, Option.getD_some, List.find?_cons]
    by_cases e : v = c
    · subst e; simp [h3]
    · have : ¬ ([v] : List Nat) = [c] := fun x => e (by simpa using x)
      simp only [e, if_false, this, decide_false]
      exact ih
theorem bind_lt {l : List Nd} (h : bindOk l = true) : ∀ (g : Nat) (hg : g < l.length) (k : Nat) (hk : k < g), (l[k]'(by omega)).1.headD 0 < l[g].1.headD 0
  | 0, _, k, hk => by omega
  | g + 1, hg, k, hk => by
    have h1 := (bindOk_at h hg).2.2
    rcases h1 with h1 | h1
    · omega
    · rw [Nat.add_sub_cancel, getD_at (by omega)] at h1
      obtain ⟨v, t, hv, _⟩ := bind_one h (List.getElem_mem (h := hg))
      obtain ⟨u, t', hu, _⟩ := bind_one h (List.getElem_mem (l := l) (n := g) (h := by omega))
      rw [hv, hu, natLess_one] at h1
      have h2 : u < v := of_decide_eq_true h1
      by_cases e : k = g
      · subst e; rw [hv, hu]; exact h2
      · have := bind_lt h g (by omega) k (by omega)
        rw [hu] at this; rw [hv]
        simp only [List.headD_cons] at this ⊢; omega
theorem bdOf_fresh {l : List Nd} (h : bindOk l = true) {g v : Nat} (hg : g < l.length) (hv : l[g].1 = [v]) : bget (bdOf (l.take g)) v = none := by
  rw [bget_none]
  intro hm
  unfold bdOf at hm
  rw [List.map_map] at hm
  obtain ⟨p, hp, he⟩ := List.mem_map.1 hm
  obtain ⟨k, hk, rfl⟩ := List.getElem_of_mem hp
  simp only [List.length_take] at hk
  have := bind_lt h g hg k (by omega)
  rw [hv] at this
  simp only [Function.comp_def, List.getElem_take, List.headD_cons] at he this
  omega
theorem MapR.mono {S S' : Nat → Prop} {h : AHeap} {i : Nat} {m : Bd} (r : MapR S h i m) (hs : ∀ j, S j → S' j) : MapR S' h i m := by
  obtain ⟨rows, h1, h2, h3⟩ := r
  refine ⟨rows, h1, h2, fun k x hx => ?_⟩
  have := h3 k x hx
  split at this
  · exact this.mono hs
  · exact this
theorem MapR.below {S : Nat → Prop} {h : AHeap} {i : Nat} {m : Bd} (r : MapR S h i m) : MapR (fun j => S j ∧ j < h.length) h i m := by
  obtain ⟨rows, h1, h2, h3⟩ := r
  refine ⟨rows, h1, h2, fun k x hx => ?_⟩
  have := h3 k x hx
  split at this
  · exact SRep.below this
  · exact this
theorem sApplyBindings_ok {h : AHeap} {a : Pt} {n c : Nat} {e : Bool} {l : List Nd} {t : List Nat} (r : Row h.length h a (n * 2) (flat eP l)) (hn : n ≤ 1048576) (hb : ∀ p ∈ l, p.2.length ≤ 1048576) (hb1 : ∀ p ∈ l, ∀ x ∈ p.1, x < 256) (ht : t.length ≤ 1048576) :
    SCall pg n_spec_ApplyBindings [.slice a n c e, .str t] h fun v h' => v = applyA l t ∧ Same h.length h h' := by
  have hl : l.length = n := by have := r.1; rw [flat_length eP_len] at this; omega
  apply F_spec_ApplyBindings.call
  refine (l1Read_ok t (by omega) h).mono ?_
  rintro v h1 ⟨s1, vs1, rfl, r1⟩
  obtain ⟨d1, a1, n1, c1, e1, rfl⟩ := read_shape r1
  simp only [xTup_tup, xCons_cons, xAgg_agg, xInt_some, xSl_some, xNil_nil, xBool_some, letH_def]
  rw [store2]
  generalize hh2 : h1 ++ [AObj.cells t_spec_l1Node [.int .u8 d1, .slice a1 n1 c1 e1] false] = h2
  have s2 : Same h1.length h1 h2 := by rw [← hh2]; exact same_last
  have o2 : h2[h1.length]? = some (.cells t_spec_l1Node [.int .u8 d1, .slice a1 n1 c1 e1] false) := by rw [← hh2]; simp
  have S2 := s1.cat s2
  simp only [xHeap_some]
  cases hto : tyOk t with
  | false =>
    simp only [Bool.not_false, bcase_true]
    exact ⟨by unfold applyA applyS; rw [hto]; simp, S2⟩
  | true =>
  simp only [Bool.not_true, bcase_false]
  obtain ⟨u, hu⟩ := tyOk_some hto
  obtain ⟨hu1, hu2, hu3⟩ := ofTxt_some.1 hu
  rw [hu] at r1
  simp only at r1
  refine (sBindingsValid_ok (r.same' S2) hn hb hb1).mono ?_
  rintro v h3 ⟨rfl, s3⟩
  simp only [xBool_some]
  have S3 := S2.cat s3
  refine bcase_not (fun b1 => ⟨by unfold applyA applyS; rw [b1]; rfl, S3⟩) (fun b1 => ?_)
  apply F_spec_ApplyBindings.J4i
  simp only [letH_def]
  rw [← zeros12]
  generalize hh4 : h3 ++ [AObj.cells t_spec_l2Map (flat eR (List.replicate 12 (AVal.int .u8 0, AVal.slice none 0 0 true))) false] = h4
  have s4 : Same h3.length h3 h4 := by rw [← hh4]; exact same_last
  have o4 : h4[h3.length]? = some (.cells t_spec_l2Map (flat eR (List.replicate 12 (AVal.int .u8 0, AVal.slice none 0 0 true))) false) := by rw [← hh4]; simp
  have l4 : h4.length = h3.length + 1 := by rw [← hh4]; simp
  have hone : ∀ p ∈ l, ∃ v t, p.1 = [v] ∧ isVarN v = true ∧ ofTxt p.2 = some t := fun p hp => bind_one b1 hp
  have o3 := s3.get o2 (Own.lt o2)
  refine F_spec_ApplyBindings.L6ind _ _ _ _ _ _ _ _ _ _ (J := fun (g : Nat) x28 h' => x28 = (g : Int) ∧ g ≤ n ∧ Same h3.length h3 h' ∧ h4.length ≤ h'.length ∧ MapR (fun j => j ≠ h3.length) h' h3.length (bdOf (l.take g))) (fun g => n - g) ?_ 0 _ _ ⟨rfl, by omega, s4, Nat.le_refl _, MapR.nil o4⟩
  rintro g x28 h' ⟨rfl, hg, hS, hl4, rm⟩ R hR
  have SS := S3.cat hS
  unfold F_spec_ApplyBindings.L6t
  refine bcase_dec (fun hlt => ?_) (fun hge => ?_)
  · obtain ⟨i, o, hgl, rfl, hi, hr, _, _⟩ := (r.same SS).pr (k := g) (by omega)
    obtain ⟨v, tt, hv1, hv2, hv3⟩ := hone _ (List.getElem_mem hgl)
    obtain ⟨ht1, ht2, ht3⟩ := ofTxt_some.1 hv3
    simp only [xSome_some, Int.toNat_natCast, hr, xRow_some, xCons_cons, xNil_nil, xStr_some, letH_def]
    rw [store2]
    generalize hq : h' ++ [AObj.cells t_impl_Binding [.str l[g].1, .str l[g].2] false] = hq'
    have sq : Same h'.length h' hq' := by rw [← hq]; exact same_last
    have oq : hq'[h'.length]? = some (.cells t_impl_Binding [.str l[g].1, .str l[g].2] false) := by rw [← hq]; simp
    have hlq := sq.le
    rw [hv1] at oq
    simp only [xHeap_some, hCell_of oq, Nat.zero_add, List.getElem?_cons_succ, List.getElem?_cons_zero, xStr_some]
    refine ⟨by omega, by simp, ?_⟩
    simp only [Int.toNat_zero, List.getD_cons_zero]
    refine (l2Index_ok v).mono ?_
    rintro v' h5 ⟨rfl, rfl⟩
    obtain ⟨k, hk6, hkv, hix⟩ := l2idx_var hv2
    simp only [hix, xInt_some, hCell_of oq, List.getElem?_cons_succ, List.getElem?_cons_zero, true_and]
    refine (l1Read_ok l[g].2 (by omega) h5).mono ?_
    rintro v' h6 ⟨s6, vs6, rfl, r6⟩
    obtain ⟨d6, a6, n6, c6, e6, rfl⟩ := read_shape r6
    rw [hv3] at r6
    simp only at r6
    have hl6 := s6.le
    have ho6 : hCell h6 (.ptr (some (h'.length, 0))) = hCell h5 (.ptr (some (h'.length, 0))) := by simp only [hCell, s6.eq _ (Own.lt oq)]
    simp only [xTup_tup, xCons_cons, xAgg_agg, xInt_some, xSl_some, xNil_nil, xBool_some, ho6, true_and]
    have rm6 := (rm.same sq).same s6
    obtain ⟨h7, hst, hK, rm7⟩ := rm6.put (fun j hj => hj) hkv (bdOf_fresh b1 hgl hv1) (r6.mono fun j hj => by have := hj.1; omega)
    rw [Int.toNat_natCast, Nat.zero_add] at *
    rw [hst]
    simp only [xHeap_some]
    rw [wrap_nat (by omega)]
    have hK7 := hK.le
    refine ⟨by rw [hCell_of oq]; rfl, ⟨by omega, by omega⟩, hR (g + 1) _ _ (by omega) ⟨rfl, by omega, ⟨by omega, fun j hj => ?_⟩, by omega, ?_⟩⟩
    · rw [hK.eq j (by omega) (by omega), s6.eq j (by omega), sq.eq j (by omega), hS.eq j hj]
    · have : bdOf (l.take (g + 1)) = bdOf (l.take g) ++ [(v, tt)] := by
        unfold bdOf
        rw [List.take_succ_eq_append_getElem hgl, List.map_append]
        simp [hv1, hv3]
      rw [this]; exact rm7
  · apply F_spec_ApplyBindings.A6x0i
    have : g = n := by omega
    subst this
    rw [List.take_of_length_le (by omega)] at rm
    have hS3 := S3.le
    have h31 : h1.length ≤ h3.length := (s2.cat s3).le
    have o5 := hS.get o3 (Own.lt o3)
    simp only [hRow_of o5 (show 0 + 2 ≤ _ by simp), List.drop_zero, List.take_succ_cons, List.take_zero, xRow_some, xCons_cons, xNil_nil, xInt_some, xSl_some]
    have hbm : ∀ c, bget (bdOf l) c = btree l c := bget_bdOf hone
    have rt := (((r1.same s2).same s3).same hS).mono (S' := fun j => j ≠ h3.length) (fun j hj => by have := hj.2; omega)
    refine (l2Put_ok _ (Nat.le_refl _) hu1 (S := fun j => j ≠ h3.length ∧ j < h'.length) (fun j hj => ⟨hj.2, hj.1⟩) rt.below rm.below (fun v w hw => ?_) (fun v hv => ?_)).mono ?_
    · rw [hbm] at hw; exact ((bfind_tree b1 v).2 w hw).1
    · rw [hbm]; exact (bfind_not b1 hv).2
    rintro v h6 ⟨s6, nv, rfl, hn6⟩
    rw [show bget (bdOf l) = btree l from funext hbm] at hn6
    obtain ⟨na, nc, ne, rfl⟩ := hn6.shape
    have hat := applyT_txt b1 hu1
    rw [← hu2] at hat
    have hal := applyT_len b1 t
    simp only [xAgg_agg, xCons_cons, xInt_some, xSl_some, xNil_nil, letH_def]
    rw [store2]
    generalize hh7 : h6 ++ [AObj.cells t_spec_l1Node [.int .u8 ((subst (btree l) u).hd : Int), .slice na (subst (btree l) u).ps.length nc ne] false] = h7
    have s7 : Same h6.length h6 h7 := by rw [← hh7]; exact same_last
    have o7 : h7[h6.length]? = some (.cells t_spec_l1Node [.int .u8 ((subst (btree l) u).hd : Int), .slice na (subst (btree l) u).ps.length nc ne] false) := by rw [← hh7]; simp
    have S7 := (SS.cat s6).cat s7
    simp only [xHeap_some, hRow_of o7 (show 0 + 2 ≤ _ by simp), List.drop_zero, List.take_succ_cons, List.take_zero, xRow_some, xCons_cons, xNil_nil, xInt_some, xSl_some]
    refine (l2Length_ok _ (Nat.le_refl _) (by rw [← hat.1]; omega) (hn6.same s7)).mono ?_
    rintro v h8 ⟨rfl, s8⟩
    have o8 := s8.get o7 (Own.lt o7)
    simp only [xInt_some]
    rw [← hat.1]
    refine bcase_dec (fun hbig => ⟨by unfold applyA applyS; rw [if_neg (by simp; omega)], S7.cat s8⟩) (fun hsm => ?_)
    simp only [hRow_of o8 (show 0 + 2 ≤ _ by simp), List.drop_zero, List.take_succ_cons, List.take_zero, xRow_some, xCons_cons, xNil_nil, xInt_some, xSl_some]
    refine (l1Text_ok _ (Nat.le_refl _) (by rw [← hat.1]; omega) hat.2 ((hn6.same s7).same s8)).mono ?_
    rintro v h9 ⟨rfl, s9⟩
    simp only [xStr_some]
    refine ⟨?_, (S7.cat s8).cat s9⟩
    unfold applyA applyS
    rw [if_pos (by rw [b1, hto]; simp; omega), hat.1]
theorem matchR_bounds (p s : List Nat) : (∀ q ∈ matchR p s, q.2.length ≤ 1048576) ∧ (∀ q ∈ matchR p s, ∀ x ∈ q.1, x < 256) ∧ (matchR p s).length ≤ 6 := by
  unfold matchR
  cases hm : matchS p s with
  | none => simp
  | some m =>
    have b := matchS_ok hm
    refine ⟨fun q hq => ?_, fun q hq x hx => ?_, bdL_len m⟩
    · have hq' := bindOk_mem (bindOk_bdL b) hq
      have := tyOk_len hq'.2; omega
    · simp only [bdL_eq, List.mem_map, List.mem_filter] at hq
      obtain ⟨v, ⟨hv, _⟩, rfl⟩ := hq
      simp at hx; subst hx
      have := (varsN_var x).1 hv
      simp only [isVarN, Bool.or_eq_true, beq_iff_eq] at this; omega
theorem sNeeds_ok {h : AHeap} {a : Pt} {n c : Nat} {e : Bool} {i : Ins} {t : List Nat} (r : Row h.length h a (n * 2) (flat eP i.2)) (hn : n ≤ 1048576) (hi : i.1.2.length ≤ 1048576) (ht : t.length ≤ 1048576) (hns : ∀ p ∈ i.2, p.2.length ≤ 1048576) :
    SCall pg n_spec_l4Needs [.agg [.str i.1.1, .str i.1.2, .slice a n c e], .str t] h (NeedsQ i t h) := by
  have hl : i.2.length = n := by have := r.1; rw [flat_length eP_len] at this; omega
  apply F_spec_l4Needs.call
  simp only [letH_def]
  generalize hh0 : h ++ [AObj.cells t_impl_Instance [.str i.1.1, .str i.1.2, .slice a n c e] false] = h0
  generalize hh1 : h0 ++ [AObj.cells t_impl_Need [] false] = h1
  have s0 : Same h.length h h0 := by rw [← hh0]; exact same_last
  have s1 : Same h0.length h0 h1 := by rw [← hh1]; exact same_last
  have o0 : h0[h.length]? = some (.cells t_impl_Instance [.str i.1.1, .str i.1.2, .slice a n c e] false) := by rw [← hh0]; simp
  have x1 := s1.get o0 (Own.lt o0)
  have o1 : h1[h0.length]? = some (.cells t_impl_Need [] false) := by rw [← hh1]; simp
  have l0 : h0.length = h.length + 1 := by rw [← hh0]; simp
  simp only [hCell_of x1, Nat.zero_add, List.getElem?_cons_succ, List.getElem?_cons_zero, xStr_some]
  refine (sMatchType_ok i.1.2 t hi ht h1).mono ?_
  rintro v h2 ⟨s2, ma, mn, mc, me, rfl, hmc, fm⟩
  simp only [xTup_tup, xCons_cons, xSl_some, xBool_some, xNil_nil]
  have S2 := (s0.cat s1).cat s2
  have o2 := s2.get o1 (Own.lt o1)
  have x2 := s2.get x1 (Own.lt x1)
  obtain ⟨hmb1, hmb2, hml⟩ := matchR_bounds i.1.2 t
  have hmn := fm.1
  have hS1le : h.length ≤ h1.length := (s0.cat s1).le
  have hnw0 : instS i.1.2 t = false → needsW i t = none := fun hno => by
    unfold needsW instS at *
    cases hm : matchS i.1.2 t with
    | none => rfl
    | some m => rw [hm] at hno; cases hno
  refine bcase_not (fun b1 => ⟨S2, _, 0, 0, true, by rw [hnw0 b1]; rfl, by rw [hnw0 b1]; exact ⟨rfl, .inl rfl⟩⟩) (fun b1 => ?_)
  simp only [hCell_of x2, List.getElem?_cons_succ, List.getElem?_cons_zero, xSl_some]
  have hnw : needsW i t = if i.2.all (fun p => (applyS (matchR i.1.2 t) p.2).isSome) then some (i.2.map (putN (matchR i.1.2 t))) else none := by
    unfold needsW instS at *
    cases hm : matchS i.1.2 t with
    | none => rw [hm] at b1; cases b1
    | some m =>
      have hml' : matchR i.1.2 t = bdL m := by unfold matchR; rw [hm]
      simp only [hml']
      by_cases hall : i.2.all (fun p => (applyS (bdL m) p.2).isSome) = true
      · rw [if_pos hall, if_pos hall, putN_all hall]
      · rw [if_neg hall, if_neg hall]
  generalize matchR i.1.2 t = ml at *
  refine F_spec_l4Needs.L6ind _ _ _ _ _ _ _ _ _ _ (J := fun (g : Nat) a8 n8 c8 e8 x28 h' => x28 = (g : Int) ∧ g ≤ n ∧ Same h.length h h' ∧ h2.length ≤ h'.length ∧ Row h'.length h' ma (mn * 2) (flat eP ml) ∧ (i.2.take g).all (fun p => (applyS ml p.2).isSome) = true ∧ n8 = g ∧ Vec t_impl_Need h' a8 n8 c8 (flat eP ((i.2.take g).map (putN ml))) ∧ (∀ j, a8 = some (j, 0) → j = h0.length ∨ h2.length ≤ j)) (fun g => n - g) ?_ 0 _ _ _ _ _ _
    ⟨rfl, by omega, S2, Nat.le_refl _, fm.row eP_len, rfl, rfl, Vec.mk1 (by simpa using o2), fun j hj => by cases hj; exact .inl rfl⟩
  rintro g a8 n8 c8 e8 x28 h' ⟨rfl, hg, hS, hl1, hrm, hall, rfl, hv, ha⟩ R hR
  unfold F_spec_l4Needs.L6t
  have hl2 : h1.length ≤ h2.length := s2.le
  refine bcase_dec (fun hlt => ?_) (fun hge => ?_)
  · obtain ⟨j, o, hgl, rfl, hj, hr, _, _⟩ := (r.same hS).pr (k := n8) (by omega)
    simp only [xSome_some, Int.toNat_natCast, hr, xRow_some, xCons_cons, xNil_nil, xStr_some, letH_def]
    rw [store2]
    generalize hq : h' ++ [AObj.cells t_impl_Need [.str i.2[n8].1, .str i.2[n8].2] false] = hq'
    have sq : Same h'.length h' hq' := by rw [← hq]; exact same_last
    have oq : hq'[h'.length]? = some (.cells t_impl_Need [.str i.2[n8].1, .str i.2[n8].2] false) := by rw [← hq]; simp
    simp only [xHeap_some, hCell_of oq, Nat.zero_add, List.getElem?_cons_succ, List.getElem?_cons_zero, xStr_some]
    refine ⟨by omega, (sApplyBindings_ok (hrm.same' sq) (by omega) hmb1 hmb2 (hns _ (List.getElem_mem hgl))).mono ?_⟩
    rintro v h3 ⟨rfl, s3⟩
    have hshape : applyA ml i.2[n8].2 = .tup [.str ((applyS ml i.2[n8].2).getD []), .bool (applyS ml i.2[n8].2).isSome] := by
      unfold applyA; cases applyS ml i.2[n8].2 <;> rfl
    rw [hshape]
    simp only [xTup_tup, xCons_cons, xStr_some, xBool_some, xNil_nil]
    have S3 := (hS.cat sq).cat s3
    have o3 := s3.get oq (Own.lt oq)
    refine bcase_not (fun b2 => ?_) (fun b2 => ?_)
    · have : needsW i t = none := by rw [hnw, not_all hgl b2]; rfl
      exact ⟨S3.cat same_last, _, 0, 0, true, by rw [this]; rfl, by rw [this]; exact ⟨rfl, .inl rfl⟩⟩
    · simp only [hCell_of o3, List.getElem?_cons_zero, xStr_some]
      refine ((hv.same sq).same s3).pushN u_L_iNeed c_iNeed k_iNeed b_iNeed (by rw [flat_length eP_len]; simp; omega) rfl (by omega) rfl (by omega) (fun h6 hl6 hi6 hk6 => ?_)
      simp only [xSl_some]
      rw [wrap_nat (by omega)]
      have hle := S3.le
      have hlq := sq.le
      have hl3 := s3.le
      have hb8 : ∀ j, a8 = some (j, 0) → h.length ≤ j := fun j hj => by rcases ha j hj with hh | hh <;> omega
      have hlast : ∀ j, (some (h3.length + 1, 0) : Pt) = some (j, 0) → j = h0.length ∨ h2.length ≤ j := fun j hj => by
        cases hj
        exact .inr (by omega)
      refine hR (n8 + 1) _ _ _ _ _ _ (by omega) ⟨rfl, by omega, ⟨by omega, fun j hj => ?_⟩, by omega, ?_, take_succ_all hgl hall b2, rfl, Vec.mk1 ?_, hlast⟩
      · rw [hk6 j (by omega) fun q hq => by have := hb8 q hq; omega]; exact S3.eq j hj
      · have hr3 := (hrm.same' sq).same' s3
        obtain ⟨hx1, hx2⟩ := hr3
        rcases fm.2 with h0' | ⟨q2, hq2, hqb2, hq3⟩
        · exact ⟨hx1, .inl (by omega)⟩
        · refine ⟨hx1, hx2.imp id ?_⟩
          rintro ⟨q, o', ty, all, ro, hqa, hqb, hqg, hq4, hq5⟩
          refine ⟨q, o', ty, all, ro, hqa, by omega, ?_, hq4, hq5⟩
          rw [hk6 q hqb fun q' hq' => ?_]
          · exact hqg
          · intro e
            subst e
            rw [hqa] at hq2; cases hq2
            have := Own.lt hq3
            rcases ha _ hq' with hh | hh
            · have := Own.lt o1; omega
            · omega
      · rw [hi6, List.take_succ_eq_append_getElem hgl, List.map_append, flat_append]; rfl
  · apply F_spec_l4Needs.A6x0i
    have : n8 = n := by omega
    subst this
    rw [show i.2.take n8 = i.2 from List.take_of_length_le (by omega)] at hv hall
    have : needsW i t = some (i.2.map (putN ml)) := by rw [hnw, hall]; rfl
    refine ⟨hS, a8, n8, c8, e8, by rw [this]; rfl, ?_⟩
    rw [this]
    exact hv.fresh (b := h.length) (by simp; omega) fun j hj => by rcases ha j hj with hh | hh <;> omega
end Go.Sim

set_option linter.unusedVariables false
set_option linter.unusedSimpArgs false
set_option maxRecDepth 20000
namespace Go.Sim
open Go Go.RowKit

end Go.Sim

/- The classes above one: plain Lean. -/
set_option linter.unusedSimpArgs false
set_option linter.unusedVariables false
namespace Go.Sim

/-- The class of letter a is right below that of letter b. -/
def Up (cs : List Nd) (a b : Nat) : Prop := ∃ i, ∃ h : i < cs.length, cs[i].1 = [a] ∧ b ∈ cs[i].2
/-- Above by one or more steps. -/
inductive Rch (cs : List Nd) (a : Nat) : Nat → Prop
  | one {b : Nat} : Up cs a b → Rch cs a b
  | more {b c : Nat} : Rch cs a b → Up cs b c → Rch cs a c
theorem clsOk_at {cs : List Nd} (h : clsOk cs = true) {i : Nat} (hi : i < cs.length) : clsAt cs i = true := by
  unfold clsOk at h
  simp only [Bool.and_eq_true, List.all_eq_true] at h
  exact h.1 i (List.mem_range.2 hi)
theorem cls_name {cs : List Nd} (h : clsOk cs = true) {i : Nat} (hi : i < cs.length) : ∃ d, cs[i].1 = [d] ∧ 65 ≤ d ∧ d ≤ 84 := by
  have := clsOk_at h hi
  unfold clsAt at this
  rw [getD_at hi] at this
  simp only [Bool.and_eq_true] at this
  have h1 := this.1.1
  unfold isCls at h1
  split at h1
  · rename_i d hd; exact ⟨d, hd, by simpa using h1⟩
  · cases h1
theorem cls_less1 {cs : List Nd} (h : clsOk cs = true) {i : Nat} (hi : i + 1 < cs.length) {a b : Nat} (ha : cs[i].1 = [a]) (hb : cs[i + 1].1 = [b]) : a < b := by
  have := clsOk_at h hi
  unfold clsAt at this
  rw [getD_at hi, Nat.add_sub_cancel, getD_at (by omega), ha, hb] at this
  simp only [Bool.and_eq_true] at this
  have h1 := this.1.2
  simpa [natLess] using h1
theorem cls_less {cs : List Nd} (h : clsOk cs = true) : ∀ (k i : Nat) (hi : i + k + 1 < cs.length) {a b : Nat}, cs[i].1 = [a] → cs[i + k + 1].1 = [b] → a < b
  | 0, i, hi, a, b, ha, hb => cls_less1 h hi ha hb
  | k + 1, i, hi, a, b, ha, hb => by
    obtain ⟨d, hd, _⟩ := cls_name h (show i + k + 1 < cs.length by omega)
    have h1 := cls_less h k i (by omega) ha hd
    have h2 := cls_less1 h (i := i + k + 1) (by omega) hd hb
    omega
theorem cls_inj {cs : List Nd} (h : clsOk cs = true) {i j : Nat} (hi : i < cs.length) (hj : j < cs.length) {a : Nat} (ha : cs[i].1 = [a]) (hb : cs[j].1 = [a]) : i = j := by
  rcases Nat.lt_trichotomy i j with hl | he | hl
  · obtain ⟨k, rfl⟩ : ∃ k, j = i + k + 1 := ⟨j - i - 1, by omega⟩
    have := cls_less h k i hj ha hb; omega
  · exact he
  · obtain ⟨k, rfl⟩ : ∃ k, i = j + k + 1 := ⟨i - j - 1, by omega⟩
    have := cls_less h k j hi hb ha; omega
/-- What is above a class are classes ahead of it. -/
theorem cls_above {cs : List Nd} (h : clsOk cs = true) {i : Nat} (hi : i < cs.length) {b : Nat} (hb : b ∈ cs[i].2) : ∃ j, ∃ hj : j < i, cs[j].1 = [b] := by
  have := clsOk_at h hi
  unfold clsAt at this
  rw [getD_at hi] at this
  simp only [Bool.and_eq_true] at this
  have h1 := this.2
  unfold supsOk at h1
  rw [List.all_eq_true] at h1
  obtain ⟨k, hk, rfl⟩ := List.mem_iff_getElem.1 hb
  have h2 := h1 k (List.mem_range.2 hk)
  unfold supAt at h2
  rw [getD_at hk] at h2
  simp only [Bool.and_eq_true] at h2
  have h3 := h2.1
  unfold knownC at h3
  rw [List.any_eq_true] at h3
  obtain ⟨x, hx, he⟩ := h3
  obtain ⟨j, hj, rfl⟩ := List.mem_iff_getElem.1 hx
  rw [List.length_take] at hj
  exact ⟨j, by omega, by simpa using he⟩
theorem Up.ix {cs : List Nd} (h : clsOk cs = true) {a b i : Nat} (u : Up cs a b) (hi : i < cs.length) (ha : cs[i].1 = [a]) : b ∈ cs[i].2 := by
  obtain ⟨j, hj, hja, hb⟩ := u
  have := cls_inj h hi hj ha hja
  subst this; exact hb
theorem Rch.ix {cs : List Nd} (h : clsOk cs = true) {a b i : Nat} (r : Rch cs a b) (hi : i < cs.length) (ha : cs[i].1 = [a]) : ∃ j, ∃ hj : j < i, cs[j].1 = [b] := by
  induction r with
  | one u => exact cls_above h hi (u.ix h hi ha)
  | more _ u ih =>
    obtain ⟨j, hj, hb⟩ := ih
    obtain ⟨k, hk, hc⟩ := cls_above h (show j < cs.length by omega) (u.ix h (by omega) hb)
    exact ⟨k, by omega, hc⟩
/-- The program's step down the list of classes: what is known of the letters so far. -/
structure DownI (cs : List Nd) (a : Nat) (i : Nat) (ab : List Nat) : Prop where
  sound : ∀ d ∈ ab, Rch cs a d
  done : ∀ j, i ≤ j → ∀ hj : j < cs.length, (cs[j].1 = [a] ∨ ∃ d, cs[j].1 = [d] ∧ d ∈ ab) → ∀ b ∈ cs[j].2, b ∈ ab
theorem DownI.step {cs : List Nd} (h : clsOk cs = true) {a i : Nat} {ab : List Nat} (D : DownI cs a (i + 1) ab) (hi : i < cs.length) (hc : cs[i].1 = [a] ∨ ∃ d, cs[i].1 = [d] ∧ d ∈ ab) : DownI cs a i (ab ++ cs[i].2) := by
  refine ⟨fun d hd => ?_, fun j hj hjl hcj b hb => ?_⟩
  · rcases List.mem_append.1 hd with hd | hd
    · exact D.sound d hd
    · rcases hc with hc | ⟨e, he, hm⟩
      · exact .one ⟨i, hi, hc, hd⟩
      · exact .more (D.sound e hm) ⟨i, hi, he, hd⟩
  · by_cases hji : j = i
    · subst hji; exact List.mem_append_right _ hb
    · refine List.mem_append_left _ (D.done j (by omega) hjl ?_ b hb)
      rcases hcj with hcj | ⟨e, he, hm⟩
      · exact .inl hcj
      · rcases List.mem_append.1 hm with hm | hm
        · exact .inr ⟨e, he, hm⟩
        · exfalso
          obtain ⟨k, hk, hke⟩ := cls_above h hi hm
          have := cls_inj h hjl (show k < cs.length by omega) he hke
          omega
theorem DownI.skip {cs : List Nd} {a i : Nat} {ab : List Nat} (D : DownI cs a (i + 1) ab) (hc : ∀ hi : i < cs.length, ¬ (cs[i].1 = [a] ∨ ∃ d, cs[i].1 = [d] ∧ d ∈ ab)) : DownI cs a i ab :=
  ⟨D.sound, fun j hj hjl hcj b hb => by
    by_cases hji : j = i
    · subst hji; exact absurd hcj (hc hjl)
    · exact D.done j (by omega) hjl hcj b hb⟩
theorem DownI.all {cs : List Nd} (h : clsOk cs = true) {a i : Nat} {ab : List Nat} (D : DownI cs a 0 ab) (hi : i < cs.length) (ha : cs[i].1 = [a]) (d : Nat) : d ∈ ab ↔ Rch cs a d := by
  refine ⟨D.sound d, fun r => ?_⟩
  induction r with
  | one u => exact D.done i (by omega) hi (.inl ha) _ (u.ix h hi ha)
  | more r u ih =>
    obtain ⟨j, hj, hb⟩ := r.ix h hi ha
    exact D.done j (by omega) (by omega) (.inr ⟨_, hb, ih⟩) _ (u.ix h (by omega) hb)
/-- The reference's rounds: letters of classes that are not far ahead are in. -/
structure RndI (cs : List Nd) (a i : Nat) (r : Nat) (ab : List Nat) : Prop where
  sound : ∀ d ∈ ab, Rch cs a d
  first : ∀ d, Up cs a d → d ∈ ab
  near : ∀ j, j < i → i ≤ j + 1 + r → ∀ hj : j < cs.length, ∀ d, cs[j].1 = [d] → Rch cs a d → d ∈ ab
theorem RndI.next {cs : List Nd} (h : clsOk cs = true) {a i r : Nat} {ab ab' : List Nat} (R : RndI cs a i r ab) (hi : i < cs.length) (ha : cs[i].1 = [a])
    (hs : ∀ d ∈ ab', d ∈ ab ∨ ∃ e ∈ ab, Up cs e d) (hc : ∀ d, (d ∈ ab ∨ ∃ e ∈ ab, Up cs e d) → d ∈ ab') : RndI cs a i (r + 1) ab' := by
  refine ⟨fun d hd => ?_, fun d u => hc d (.inl (R.first d u)), fun j hj hn hjl d hd rc => ?_⟩
  · rcases hs d hd with hd | ⟨e, he, u⟩
    · exact R.sound d hd
    · exact .more (R.sound e he) u
  · cases rc with
    | one u => exact hc d (.inl (R.first d u))
    | more rc u =>
      rename_i e
      obtain ⟨k, hk, hb⟩ := rc.ix h hi ha
      have hjk : j < k := by
        obtain ⟨q, hq, hcq⟩ := cls_above h (show k < cs.length by omega) (u.ix h (by omega) hb)
        have := cls_inj h hjl (show q < cs.length by omega) hd hcq
        omega
      exact hc d (.inr ⟨e, R.near k hk (by omega) (by omega) e hb rc, u⟩)
theorem RndI.all {cs : List Nd} (h : clsOk cs = true) {a i r : Nat} {ab : List Nat} (R : RndI cs a i r ab) (hi : i < cs.length) (ha : cs[i].1 = [a]) (hr : i ≤ r + 1) (d : Nat) : d ∈ ab ↔ Rch cs a d := by
  refine ⟨R.sound d, fun rc => ?_⟩
  obtain ⟨j, hj, hd⟩ := rc.ix h hi ha
  exact R.near j hj (by omega) (by omega) d hd rc
end Go.Sim

set_option linter.unusedVariables false
set_option linter.unusedSimpArgs false
set_option maxRecDepth 20000
namespace Go.Sim
open Go Go.RowKit

end Go.Sim

set_option linter.unusedVariables false
set_option linter.unusedSimpArgs false
set_option maxRecDepth 20000
namespace Go.Sim
open Go Go.RowKit

end Go.Sim

set_option linter.unusedVariables false
set_option linter.unusedSimpArgs false
set_option maxRecDepth 20000
namespace Go.Sim
open Go Go.RowKit

/-- A list of needs that grows. -/
structure NVec (b : Nat) (h : AHeap) (a : Pt) (n c : Nat) (l : List Nd) : Prop where
  vec : Vec t_impl_Need h a n c (flat eP l)
  len : l.length = n
  low : ∀ i, a = some (i, 0) → b ≤ i
theorem NVec.row {b : Nat} {h : AHeap} {a : Pt} {n c : Nat} {l : List Nd} (f : NVec b h a n c l) : Row h.length h a (n * 2) (flat eP l) := f.vec.row (by rw [flat_length eP_len, f.len])
theorem NVec.same {b : Nat} {h h' : AHeap} {a : Pt} {n c : Nat} {l : List Nd} (f : NVec b h a n c l) (s : Same h.length h h') : NVec b h' a n c l := ⟨f.vec.same s, f.len, f.low⟩
/-- Nothing has turned but the list's row. -/
def But (a : Pt) (h h' : AHeap) : Prop := h.length ≤ h'.length ∧ ∀ j, j < h.length → (∀ i, a = some (i, 0) → j ≠ i) → h'[j]? = h[j]?
theorem But.of {a : Pt} {h h' : AHeap} (s : Same h.length h h') : But a h h' := ⟨s.le, fun j hj _ => s.eq j hj⟩
theorem But.below {a : Pt} {b : Nat} {h h' : AHeap} (s : But a h h') (hb : b ≤ h.length) (hl : ∀ i, a = some (i, 0) → b ≤ i) : Same b h h' := ⟨s.1, fun j hj => s.2 j (by omega) fun i hi => by have := hl i hi; omega⟩
end Go.Sim

/- The reduction of needs: plain Lean; over the candidates and the needs of instances, whatever they are. -/
set_option linter.unusedSimpArgs false
set_option linter.unusedVariables false
namespace Go.Sim

/-- What is told of a search: candidates of a need; the needs of an instance for a type; which of some is the most special (or -1). -/
structure Wk where
  cand : Nd → List Int
  needs : Int → List Nat → Option (List Nd)
  most : List Int → Int
/-- What a search found: a text, or the reason why it failed with the need at which it did. -/
inductive Fnd where
  | ok (s : List Nat)
  | no (why : List Nat) (n : Nd)
/-- The marks ahead of parts: an opening bracket, then commas. -/
def mark3 (i : Nat) : Nat := if i = 0 then 40 else 44
def longT : List Nat := [108, 111, 110, 103]
def deepT : List Nat := [100, 101, 101, 112]
def noneT : List Nat := [110, 111, 110, 101]
def manyT : List Nat := [109, 97, 110, 121]
def bigT : List Nat := [98, 105, 103]
def wrongT : List Nat := [119, 114, 111, 110, 103]
/-- Which candidate is taken, if one is. -/
def pickP (k : Wk) (sp : Bool) (n : Nd) : Int × List Nat :=
  match k.cand n with
  | [] => (-1, noneT)
  | [x] => (x, [])
  | l => if sp && decide (0 ≤ k.most l) then (k.most l, []) else (-1, manyT)
/-- One part more behind a text. -/
def partP (g : List Nd → Nd → Fnd × List Nd) (r : (Fnd × List Nd) × Nat) (m : Nd) : (Fnd × List Nd) × Nat :=
  match r.1.1 with
  | .no y n => r
  | .ok out => (match g r.1.2 m with
    | (.ok d, a) => ((.ok (out ++ mark3 r.2 :: d), a), r.2 + 1)
    | (.no y n, a) => ((.no y n, a), r.2))
/-- The search: what was asked for so far; the fuel is how deep it may still go. -/
def askP (k : Wk) (sp : Bool) (dec : Int → List Nat) : Nat → List Nd → Nd → Fnd × List Nd
  | f, asked, n =>
    if 300 ≤ asked.length then (.no longT n, asked) else
    match f with
    | 0 => (.no deepT n, asked ++ [n])
    | f + 1 =>
      match pickP k sp n with
      | (x, y) => if x < 0 then (.no y n, asked ++ [n]) else
        match k.needs x n.2 with
        | none => (.no bigT n, asked ++ [n])
        | some ms =>
          (match (ms.foldl (partP (askP k sp dec f)) ((.ok (dec x), asked ++ [n]), 0)).1 with
          | (.ok out, a) => (.ok (if ms = [] then out else out ++ [41]), a)
          | r => r)
theorem part_stop (g : List Nd → Nd → Fnd × List Nd) : ∀ (l : List Nd) (y : List Nat) (n : Nd) (a : List Nd) (q : Nat), l.foldl (partP g) ((.no y n, a), q) = ((.no y n, a), q)
  | [], _, _, _, _ => rfl
  | m :: l, y, n, a, q => by simp only [List.foldl_cons, partP]; exact part_stop g l y n a q
theorem part_take (g : List Nd → Nd → Fnd × List Nd) (l : List Nd) (z : (Fnd × List Nd) × Nat) (q : Nat) (hq : q < l.length) : (l.take (q + 1)).foldl (partP g) z = partP g ((l.take q).foldl (partP g) z) l[q] := by
  rw [List.take_succ_eq_append_getElem hq, List.foldl_append]; rfl
theorem part_fail (g : List Nd → Nd → Fnd × List Nd) (l : List Nd) (z : (Fnd × List Nd) × Nat) (q : Nat) {y : List Nat} {n : Nd} {a : List Nd} {i : Nat} (h : (l.take q).foldl (partP g) z = ((.no y n, a), i)) : l.foldl (partP g) z = ((.no y n, a), i) := by
  conv => lhs; rw [← List.take_append_drop q l]
  rw [List.foldl_append, h, part_stop]
end Go.Sim

set_option linter.unusedVariables false
set_option linter.unusedSimpArgs false
set_option maxRecDepth 20000
namespace Go.Sim
open Go Go.RowKit

/-- What is told of a search in a world. -/
noncomputable def wk (w : Wd) : Wk := ⟨candW w, fun x t => needsW (insAt w x) t, mostI w⟩
/-- Nothing has turned but an object and a list that hangs on it. -/
structure FrS (i : Nat) (qa : Pt) (h h' : AHeap) (qa' : Pt) : Prop where
  le : h.length ≤ h'.length
  eq : ∀ j, j < h.length → j ≠ i → (∀ q, qa = some (q, 0) → j ≠ q) → h'[j]? = h[j]?
  pt : qa' = qa ∨ ∀ q, qa' = some (q, 0) → h.length ≤ q
theorem FrS.of_same {i : Nat} {qa : Pt} {h h' : AHeap} (s : Same h.length h h') : FrS i qa h h' qa := ⟨s.le, fun j hj _ _ => s.eq j hj, .inl rfl⟩
theorem FrS.refl (i : Nat) (qa : Pt) (h : AHeap) : FrS i qa h h qa := .of_same (Same.refl _ _)
theorem FrS.ne {i : Nat} {qa qa' : Pt} {h h' : AHeap} (f : FrS i qa h h' qa') {j : Nat} (hj : j < h.length) (hq : ∀ q, qa = some (q, 0) → j ≠ q) : ∀ q, qa' = some (q, 0) → j ≠ q := by
  intro q hq'
  rcases f.pt with e | e
  · exact hq q (e ▸ hq')
  · have := e q hq'; omega
theorem FrS.trans {i : Nat} {qa qa1 qa2 : Pt} {h h1 h2 : AHeap} (f : FrS i qa h h1 qa1) (g : FrS i qa1 h1 h2 qa2) : FrS i qa h h2 qa2 := by
  have := f.le; have := g.le
  refine ⟨by omega, fun j hj hi hq => ?_, ?_⟩
  · rw [g.eq j (by omega) hi (f.ne hj hq)]; exact f.eq j hj hi hq
  · rcases g.pt with e | e
    · rcases f.pt with e' | e'
      · exact .inl (e.trans e')
      · exact .inr fun q hq => e' q (e ▸ hq)
    · exact .inr fun q hq => by have := e q hq; omega
theorem FrS.set {i : Nat} {qa : Pt} {h : AHeap} {x : AObj} : FrS i qa h (h.set i x) qa := ⟨by simp, fun j _ hi _ => set_ne (fun e => hi e.symm), .inl rfl⟩
theorem FrS.get {i : Nat} {qa qa' : Pt} {h h' : AHeap} (f : FrS i qa h h' qa') {j : Nat} {x : AObj} (hj : h[j]? = some x) (hi : j ≠ i) (hq : ∀ q, qa = some (q, 0) → j ≠ q) : h'[j]? = some x := by rw [f.eq j (Own.lt hj) hi hq]; exact hj
theorem FrS.row {i : Nat} {qa qa' : Pt} {h h' : AHeap} (f : FrS i qa h h' qa') {a : Pt} {n : Nat} {cs : List AVal} (r : Row h.length h a n cs) (hn : ∀ j o, n ≠ 0 → a = some (j, o) → j ≠ i ∧ ∀ q, qa = some (q, 0) → j ≠ q) : Row h'.length h' a n cs := by
  obtain ⟨hl, r⟩ := r
  by_cases h0 : n = 0
  · exact ⟨hl, .inl h0⟩
  · refine ⟨hl, r.imp id ?_⟩
    rintro ⟨j, o', t, all, ro, ha, hi, hg, x⟩
    have := f.le
    obtain ⟨h1, h2⟩ := hn j o' h0 ha
    exact ⟨j, o', t, all, ro, ha, by omega, by rw [f.eq j hi h1 h2]; exact hg, x⟩
theorem FrS.below {i b : Nat} {qa qa' : Pt} {h h' : AHeap} (f : FrS i qa h h' qa') (hb : b ≤ h.length) (hi : b ≤ i) (hq : ∀ q, qa = some (q, 0) → b ≤ q) : Same b h h' := ⟨f.le, fun j hj => f.eq j (by omega) (by omega) fun q hq' => by have := hq q hq'; omega⟩
theorem needs_all {w : Wd} (hw : worldOk w = true) {n : Nd} {k : Nat} (hk : k < w.is.length) {ms : List Nd} (h : needsW w.is[k] n.2 = some ms) : ms.length ≤ 3 ∧ ∀ m ∈ ms, needOkW w m = true := by
  have := needsW_ok hw (List.getElem_mem hk) h
  exact ⟨this.1, this.2⟩
theorem needOkW_ty {w : Wd} {n : Nd} (h : needOkW w n = true) : tyOk n.2 = true ∧ n.2.length ≤ 60 := by
  have : tyOk n.2 = true := by
    unfold needOkW at h
    simp only [Bool.and_eq_true] at h
    exact h.2
  exact ⟨this, (tyOk_len this)⟩
end Go.Sim

/- Printed by wip/tool/fold.py: what the evaluation orders of the reference's search have in common. -/
set_option linter.unusedVariables false
set_option maxRecDepth 100000
namespace Go.Sim
open Go Go.RowKit
def findCont (Q : QT) (a0 : Pt) (x2 : Int) (lh : Nat) (hX : AHeap) (aX : Pt) (nX cX : Nat) (eX : Bool) : Prop :=
 xSome a0 fun i_33 o_34 => xHeap (hStore hX (.ptr (some (i_33, o_34 + 4))) [.slice aX nX cX eX]) fun h_35 => xSome a0 fun i_36 o_37 => xSl (hCell h_35 (.ptr (some (i_36, o_37 + 3)))) fun a_38 n_39 c_40 e_41 => bcase (decide (((((n_39 : Nat) : Int)) : Int) ≥ 300)) (xSome a0 fun i_42 o_43 => xHeap (hStore h_35 (.ptr (some (i_42, o_43 + 5))) [.str ([108, 111, 110, 103])]) fun h_44 => Q (.str []) h_44) (xSome a0 fun i_45 o_46 => xSl (hCell h_35 (.ptr (some (i_45, o_46 + 3)))) fun a_47 n_48 c_49 e_50 => xRow (hRow h_35 (.ptr (some (lh, 0))) 2) fun cs_51 => xCons cs_51 fun c_52 r_53 => xStr (some c_52) fun s_54 => xCons r_53 fun c_55 r_56 => xStr (some c_55) fun s_57 => xNil r_56 ((hCell h_35 (.ptr (some (i_45, o_46 + 3))) = hCell h_35 (.ptr (some (i_45, o_46 + 3)))) ∧ letH (h_35 ++ [.cells t_impl_Need [.str s_54, .str s_57] false]) fun h_58 => (hCell h_58 (.ptr (some (i_45, o_46 + 3))) = hCell h_35 (.ptr (some (i_45, o_46 + 3)))) ∧ appendA pg t_L_impl_Need h_58 (.slice a_47 n_48 c_49 e_50) (.slice (some (List.length h_35, 0)) 1 1 true) fun v_59 h_60 => xSl (some v_59) fun a_61 n_62 c_63 e_64 => xSome a0 fun i_65 o_66 => xHeap (hStore h_60 (.ptr (some (i_65, o_66 + 3))) [.slice a_61 n_62 c_63 e_64]) fun h_67 => bcase (decide ((x2 : Int) > 30)) (xSome a0 fun i_68 o_69 => xHeap (hStore h_67 (.ptr (some (i_68, o_69 + 5))) [.str ([100, 101, 101, 112])]) fun h_70 => Q (.str []) h_70) (xRow (hRow h_67 (.ptr (some (lh, 0))) 2) fun cs_71 => xCons cs_71 fun c_72 r_73 => xStr (some c_72) fun s_74 => xCons r_73 fun c_75 r_76 => xStr (some c_75) fun s_77 => xNil r_76 (SCall pg n_spec_l5Search_pick [.ptr a0, .agg [.str s_74, .str s_77]] h_67 fun v_78 h_79 =>
 xInt .i64 (some v_78) fun x_80 => bcase (decide ((x_80 : Int) < 0)) (Q (.str []) h_79) (xSome a0 fun i_81 o_82 => xSl (hCell h_79 (.ptr (some (i_81, o_82 + 0 + 1)))) fun a_83 n_84 c_85 e_86 => (0 ≤ (x_80 : Int) ∧ (x_80 : Int) < (n_84 : Nat)) ∧ (xSome a_83 fun i_87 o_88 => xRow (hRow h_79 (.ptr (some (i_87, o_88 + (Int.toNat x_80) * 3))) 3) fun cs_89 => xCons cs_89 fun c_90 r_91 => xStr (some c_90) fun s_92 => xCons r_91 fun c_93 r_94 => xStr (some c_93) fun s_95 => xCons r_94 fun c_96 r_97 => xSl (some c_96) fun a_98 n_99 c_100 e_101 => xNil r_97 (xStr (hCell h_79 (.ptr (some (lh, 0 + 1)))) fun s_102 => (hRow h_79 (.ptr (some (i_87, o_88 + (Int.toNat x_80) * 3))) 3 = hRow h_79 (.ptr (some (i_87, o_88 + (Int.toNat x_80) * 3))) 3) ∧ (hCell h_79 (.ptr (some (i_81, o_82 + 0 + 1))) = hCell h_79 (.ptr (some (i_81, o_82 + 0 + 1)))) ∧ SCall pg n_spec_l4Needs [.agg [.str s_92, .str s_95, .slice a_98 n_99 c_100 e_101], .str s_102] h_79 fun v_103 h_104 =>
 xTup v_103 fun cs_105 => xCons cs_105 fun c_106 r_107 => xSl (some c_106) fun a_108 n_109 c_110 e_111 => xCons r_107 fun c_112 r_113 => xBool (some c_112) fun b_114 => xNil r_113 ((hCell h_104 (.ptr (some (i_81, o_82 + 0 + 1))) = hCell h_79 (.ptr (some (i_81, o_82 + 0 + 1)))) ∧ bcase (!b_114) (xSome a0 fun i_115 o_116 => xHeap (hStore h_104 (.ptr (some (i_115, o_116 + 5))) [.str ([98, 105, 103])]) fun h_117 => Q (.str []) h_117) (SCall pg n_spec_l13Dec [.int .i64 x_80] h_104 fun v_118 h_119 =>
 xStr (some v_118) fun s_120 => F_spec_l5Search_find.L18 Q a0 x2 a_108 n_109 c_110 e_111 s_120 a_108 n_109 c_110 e_111 (((n_109 : Nat) : Int)) 0 h_119)))))))))
theorem findCont_call (a0 : Pt) (x1x0 x1x1 : List Nat) (x2 : Int) (h : AHeap) (Q : QT) (ht :
 letH (h ++ [.cells t_impl_Need [.str x1x0, .str x1x1] false]) fun h_0 => xSome a0 fun i_1 o_2 => xSl (hCell h_0 (.ptr (some (i_1, o_2 + 4)))) fun a_3 n_4 c_5 e_6 => sliceSl a_3 n_4 c_5 e_6 2 none (some (.int .i64 x2)) none fun v_7 => xSl (some v_7) fun a_8 n_9 c_10 e_11 => xRow (hRow h_0 (.ptr (some (List.length h, 0))) 2) fun cs_12 => xCons cs_12 fun c_13 r_14 => xStr (some c_13) fun s_15 => xCons r_14 fun c_16 r_17 => xStr (some c_16) fun s_18 => xNil r_17 ((letH (h_0 ++ [.cells t_impl_Need [] false]) fun h_19 => (hRow h_19 (.ptr (some (List.length h, 0))) 2 = hRow h_0 (.ptr (some (List.length h, 0))) 2) ∧ (hCell h_19 (.ptr (some (i_1, o_2 + 4))) = hCell h_0 (.ptr (some (i_1, o_2 + 4)))) ∧ (appendA pg t_L_impl_Need h_19 (.slice (some (List.length h_0, 0)) 0 0 true) (.slice a_8 n_9 c_10 e_11) fun v_20 h_21 => xSl (some v_20) fun a_22 n_23 c_24 e_25 => (hRow h_21 (.ptr (some (List.length h, 0))) 2 = hRow h_19 (.ptr (some (List.length h, 0))) 2) ∧ (hCell h_21 (.ptr (some (i_1, o_2 + 4))) = hCell h_19 (.ptr (some (i_1, o_2 + 4)))) ∧ letH (h_21 ++ [.cells t_impl_Need [.str s_15, .str s_18] false]) fun h_26 => (hCell h_26 (.ptr (some (i_1, o_2 + 4))) = hCell h_21 (.ptr (some (i_1, o_2 + 4)))) ∧ appendA pg t_L_impl_Need h_26 (.slice a_22 n_23 c_24 e_25) (.slice (some (List.length h_21, 0)) 1 1 true) fun v_27 h_28 => xSl (some v_27) fun a_29 n_30 c_31 e_32 => (hRow h_28 (.ptr (some (List.length h, 0))) 2 = hRow h_26 (.ptr (some (List.length h, 0))) 2) ∧ (hCell h_28 (.ptr (some (i_1, o_2 + 4))) = hCell h_26 (.ptr (some (i_1, o_2 + 4)))) ∧ findCont Q a0 x2 (List.length h) h_28 a_29 n_30 c_31 e_32) ∧ (letH (h_19 ++ [.cells t_impl_Need [.str s_15, .str s_18] false]) fun h_121 => (hCell h_121 (.ptr (some (i_1, o_2 + 4))) = hCell h_19 (.ptr (some (i_1, o_2 + 4)))) ∧ appendA pg t_L_impl_Need h_121 (.slice (some (List.length h_0, 0)) 0 0 true) (.slice a_8 n_9 c_10 e_11) fun v_122 h_123 => xSl (some v_122) fun a_124 n_125 c_126 e_127 => (hRow h_123 (.ptr (some (List.length h, 0))) 2 = hRow h_121 (.ptr (some (List.length h, 0))) 2) ∧ (hCell h_123 (.ptr (some (i_1, o_2 + 4))) = hCell h_121 (.ptr (some (i_1, o_2 + 4)))) ∧ appendA pg t_L_impl_Need h_123 (.slice a_124 n_125 c_126 e_127) (.slice (some (List.length h_19, 0)) 1 1 true) fun v_128 h_129 => xSl (some v_128) fun a_130 n_131 c_132 e_133 => (hRow h_129 (.ptr (some (List.length h, 0))) 2 = hRow h_123 (.ptr (some (List.length h, 0))) 2) ∧ (hCell h_129 (.ptr (some (i_1, o_2 + 4))) = hCell h_123 (.ptr (some (i_1, o_2 + 4)))) ∧ findCont Q a0 x2 (List.length h) h_129 a_130 n_131 c_132 e_133)) ∧ (letH (h_0 ++ [.cells t_impl_Need [.str s_15, .str s_18] false]) fun h_222 => (hCell h_222 (.ptr (some (i_1, o_2 + 4))) = hCell h_0 (.ptr (some (i_1, o_2 + 4)))) ∧ letH (h_222 ++ [.cells t_impl_Need [] false]) fun h_223 => (hRow h_223 (.ptr (some (List.length h, 0))) 2 = hRow h_222 (.ptr (some (List.length h, 0))) 2) ∧ (hCell h_223 (.ptr (some (i_1, o_2 + 4))) = hCell h_222 (.ptr (some (i_1, o_2 + 4)))) ∧ appendA pg t_L_impl_Need h_223 (.slice (some (List.length h_222, 0)) 0 0 true) (.slice a_8 n_9 c_10 e_11) fun v_224 h_225 => xSl (some v_224) fun a_226 n_227 c_228 e_229 => (hRow h_225 (.ptr (some (List.length h, 0))) 2 = hRow h_223 (.ptr (some (List.length h, 0))) 2) ∧ (hCell h_225 (.ptr (some (i_1, o_2 + 4))) = hCell h_223 (.ptr (some (i_1, o_2 + 4)))) ∧ appendA pg t_L_impl_Need h_225 (.slice a_226 n_227 c_228 e_229) (.slice (some (List.length h_0, 0)) 1 1 true) fun v_230 h_231 => xSl (some v_230) fun a_232 n_233 c_234 e_235 => (hRow h_231 (.ptr (some (List.length h, 0))) 2 = hRow h_225 (.ptr (some (List.length h, 0))) 2) ∧ (hCell h_231 (.ptr (some (i_1, o_2 + 4))) = hCell h_225 (.ptr (some (i_1, o_2 + 4)))) ∧ findCont Q a0 x2 (List.length h) h_231 a_232 n_233 c_234 e_235))) : SCall pg n_spec_l5Search_find [.ptr a0, .agg [.str x1x0, .str x1x1], .int .i64 x2] h Q :=
  F_spec_l5Search_find.call a0 x1x0 x1x1 x2 h Q ht
end Go.Sim

/- The search for a dictionary: bounds and equations; plain Lean. -/
set_option linter.unusedSimpArgs false
set_option linter.unusedVariables false
namespace Go.Sim

def fTxt : Fnd → List Nat | .ok s => s | .no _ _ => []
def fWhy : Fnd → List Nat | .ok _ => [] | .no y _ => y
def askEnd (ms : List Nd) (r : Fnd × List Nd) : Fnd × List Nd := match r with | (.ok out, a) => (.ok (if ms = [] then out else out ++ [41]), a) | r => r
section
variable {k : Wk} {sp : Bool} {dec : Int → List Nat}
theorem ask_long {f : Nat} {asked : List Nd} {n : Nd} (h : 300 ≤ asked.length) : askP k sp dec f asked n = (.no longT n, asked) := by cases f <;> (unfold askP; rw [if_pos h])
theorem ask_deep {asked : List Nd} {n : Nd} (h : ¬ 300 ≤ asked.length) : askP k sp dec 0 asked n = (.no deepT n, asked ++ [n]) := by unfold askP; rw [if_neg h]
theorem ask_none {f : Nat} {asked : List Nd} {n : Nd} (h : ¬ 300 ≤ asked.length) (hx : (pickP k sp n).1 < 0) : askP k sp dec (f + 1) asked n = (.no (pickP k sp n).2 n, asked ++ [n]) := by
  unfold askP; rw [if_neg h]; simp only; rw [if_pos hx]
theorem ask_big {f : Nat} {asked : List Nd} {n : Nd} (h : ¬ 300 ≤ asked.length) (hx : ¬ (pickP k sp n).1 < 0) (hn : k.needs (pickP k sp n).1 n.2 = none) : askP k sp dec (f + 1) asked n = (.no bigT n, asked ++ [n]) := by
  unfold askP; rw [if_neg h]; simp only; rw [if_neg hx, hn]
theorem ask_go {f : Nat} {asked : List Nd} {n : Nd} {ms : List Nd} (h : ¬ 300 ≤ asked.length) (hx : ¬ (pickP k sp n).1 < 0) (hn : k.needs (pickP k sp n).1 n.2 = some ms) :
    askP k sp dec (f + 1) asked n = askEnd ms (ms.foldl (partP (askP k sp dec f)) ((.ok (dec (pickP k sp n).1), asked ++ [n]), 0)).1 := by
  conv => lhs; unfold askP
  rw [if_neg h]; simp only; rw [if_neg hx, hn]; rfl
/-- How long a text is and how much was asked. -/
def AskB (asked : List Nd) (r : Fnd × List Nd) : Prop := asked.length ≤ r.2.length ∧ r.2.length ≤ 300 ∧ ∀ s, r.1 = .ok s → s.length + 10 * asked.length + 2 ≤ 10 * r.2.length
theorem part_bound {g : List Nd → Nd → Fnd × List Nd} (hg : ∀ a m, a.length ≤ 300 → AskB a (g a m)) (A : Nat) : ∀ (l : List Nd) (z : (Fnd × List Nd) × Nat), z.1.2.length ≤ 300 → A ≤ z.1.2.length → (∀ s, z.1.1 = .ok s → s.length + 10 * A + 3 ≤ 10 * z.1.2.length) →
    let r := l.foldl (partP g) z; A ≤ r.1.2.length ∧ r.1.2.length ≤ 300 ∧ ∀ s, r.1.1 = .ok s → s.length + 10 * A + 3 ≤ 10 * r.1.2.length
  | [], z, h1, h2, h3 => ⟨h2, h1, h3⟩
  | m :: l, z, h1, h2, h3 => by
    simp only [List.foldl_cons]
    have key : (partP g z m).1.2.length ≤ 300 ∧ A ≤ (partP g z m).1.2.length ∧ ∀ s, (partP g z m).1.1 = .ok s → s.length + 10 * A + 3 ≤ 10 * (partP g z m).1.2.length := by
      obtain ⟨⟨x, a⟩, q⟩ := z
      cases x with
      | no y n => exact ⟨h1, h2, fun s hs => by cases hs⟩
      | ok out =>
        have hb := hg a m h1
        have h3' := h3 out rfl
        simp only at h1 h2 h3'
        unfold partP
        simp only
        rcases hgm : g a m with ⟨d, a'⟩
        rw [hgm] at hb
        obtain ⟨b1, b2, b3⟩ := hb
        simp only at b1 b2 b3
        cases d with
        | no y n => exact ⟨b2, by simp only; omega, fun s hs => by cases hs⟩
        | ok d =>
          have := b3 d rfl
          refine ⟨b2, by simp only; omega, fun s hs => ?_⟩
          cases hs
          simp only [List.length_append, List.length_cons]
          omega
    exact part_bound hg A l _ key.1 key.2.1 key.2.2
theorem ask_bound (hd : ∀ x, (dec x).length ≤ 6) : ∀ (f : Nat) (asked : List Nd) (n : Nd), asked.length ≤ 300 → AskB asked (askP k sp dec f asked n)
  | f, asked, n, h => by
    by_cases h3 : 300 ≤ asked.length
    · rw [ask_long h3]; exact ⟨Nat.le_refl _, h, fun s hs => by cases hs⟩
    · match f with
      | 0 => rw [ask_deep h3]; exact ⟨by simp, by simp; omega, fun s hs => by cases hs⟩
      | f + 1 =>
        by_cases hx : (pickP k sp n).1 < 0
        · rw [ask_none h3 hx]; exact ⟨by simp, by simp; omega, fun s hs => by cases hs⟩
        · cases hn : k.needs (pickP k sp n).1 n.2 with
          | none => rw [ask_big h3 hx hn]; exact ⟨by simp, by simp; omega, fun s hs => by cases hs⟩
          | some ms =>
            rw [ask_go h3 hx hn]
            have := part_bound (g := askP k sp dec f) (fun a m ha => ask_bound hd f a m ha) asked.length ms ((.ok (dec (pickP k sp n).1), asked ++ [n]), 0) (by simp; omega) (by simp) (fun s hs => by
              cases hs; have := hd (pickP k sp n).1; simp; omega)
            simp only at this
            generalize (ms.foldl (partP (askP k sp dec f)) ((.ok (dec (pickP k sp n).1), asked ++ [n]), 0)).1 = z at this ⊢
            obtain ⟨x, a⟩ := z
            obtain ⟨t1, t2, t3⟩ := this
            simp only at t1 t2 t3
            cases x with
            | no y n => exact ⟨t1, t2, fun s hs => by cases hs⟩
            | ok out =>
              refine ⟨t1, t2, fun s hs => ?_⟩
              have := t3 out rfl
              simp only [askEnd, Fnd.ok.injEq] at hs
              subst hs
              split <;> simp [askEnd] <;> omega
/-- How far the fold of parts has come. -/
theorem part_idx {g : List Nd → Nd → Fnd × List Nd} (l : List Nd) (z : (Fnd × List Nd) × Nat) {out : List Nat} : (l.foldl (partP g) z).1.1 = .ok out → (l.foldl (partP g) z).2 = z.2 + l.length := by
  induction l generalizing z with
  | nil => intro _; rfl
  | cons m l ih =>
    intro h
    simp only [List.foldl_cons] at h ⊢
    rw [ih _ h]
    obtain ⟨⟨x, a⟩, q⟩ := z
    have hno : ∀ y n a q, (l.foldl (partP g) ((.no y n, a), q)).1.1 ≠ .ok out := fun y n a q => by rw [part_stop]; simp
    cases x with
    | no y n => exact absurd h (hno y n a q)
    | ok o =>
      unfold partP at h ⊢
      simp only at h ⊢
      rcases hgm : g a m with ⟨d, a'⟩
      rw [hgm] at h
      cases d with
      | no y n => exact absurd h (hno y n a' q)
      | ok d => simp only [List.length_cons]; omega
end
end Go.Sim
