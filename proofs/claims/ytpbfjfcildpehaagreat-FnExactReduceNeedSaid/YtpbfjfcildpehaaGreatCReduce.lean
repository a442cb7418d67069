/- A part of the proof of a statement of this seat: see the text that holds the theorem. No condition. -/
import Derived.Test.YtpbfjfcildpehaaGreatPTCSApply2
import Derived.Test.YtpbfjfcildpehaaGreatPSearch
import Derived.Test.YtpbfjfcildpehaaGreatCMarkN
import Derived.Test.YtpbfjfcildpehaaGreatPTCAll2
set_option linter.unusedVariables false
set_option linter.unusedSimpArgs false
set_option linter.all false
set_option linter.unusedVariables false
set_option linter.unusedSimpArgs false
set_option maxRecDepth 20000
namespace Go.Sim
open Go Go.RowKit

noncomputable def bdOf (l : List Nd) : Bd := l.map fun p => (p.1.headD 0, (ofTxt p.2).getD default)
theorem bind_one {l : List Nd} (h : bindOk l = true) {p : Nd} (hp : p ∈ l) : ∃ v t, p.1 = [v] ∧ isVarN v = true ∧ ofTxt p.2 = some t := by
  obtain ⟨h1, h2⟩ := bindOk_mem h hp
  obtain ⟨t, ht⟩ := tyOk_some h2
  match hq : p.1 with
  | [] => rw [hq] at h1; cases h1
  | [v] => rw [hq] at h1; exact ⟨v, t, rfl, h1, ht⟩
  | _ :: _ :: _ => rw [hq] at h1; cases h1
theorem bget_bdOf : ∀ {l : List Nd}, (∀ p ∈ l, ∃ v t, p.1 = [v] ∧ isVarN v = true ∧ ofTxt p.2 = some t) → ∀ c, bget (bdOf l) c = btree l c
  | [], _, c => rfl
  | p :: l, h, c => by
    obtain ⟨v, t, h1, h2, h3⟩ := h p (by simp)
    have ih := bget_bdOf (l := l) (fun q hq => h q (by simp [hq])) c
    unfold bdOf btree at ih ⊢
    simp only [List.map_cons, bget, h1, List.headD_cons, h3, Option.getD_some, List.find?_cons]
    by_cases e : v = c
    · subst e; simp [h3]
    · have : ¬ ([v] : List Nat) = [c] := fun x => e (by simpa using x)
      simp only [e, if_false, this, decide_false]
      exact ih
theorem bind_lt {l : List Nd} (h : bindOk l = true) : ∀ (g : Nat) (hg : g < l.length) (k : Nat) (hk : k < g), (l[k]'(by omega)).1.headD 0 < l[g].1.headD 0
  | 0, _, k, hk => by omega
  | g + 1, hg, k, hk => by
    have h1 := (bindOk_at h hg).2.2
    rcases h1 with h1 | h1
    · omega
    · rw [Nat.add_sub_cancel, getD_at (by omega)] at h1
      obtain ⟨v, t, hv, _⟩ := bind_one h (List.getElem_mem (h := hg))
      obtain ⟨u, t', hu, _⟩ := bind_one h (List.getElem_mem (l := l) (n := g) (h := by omega))
      rw [hv, hu, natLess_one] at h1
      have h2 : u < v := of_decide_eq_true h1
      by_cases e : k = g
      · subst e; rw [hv, hu]; exact h2
      · have := bind_lt h g (by omega) k (by omega)
        rw [hu] at this; rw [hv]
        simp only [List.headD_cons] at this ⊢; omega
theorem bdOf_fresh {l : List Nd} (h : bindOk l = true) {g v : Nat} (hg : g < l.length) (hv : l[g].1 = [v]) : bget (bdOf (l.take g)) v = none := by
  rw [bget_none]
  intro hm
  unfold bdOf at hm
  rw [List.map_map] at hm
  obtain ⟨p, hp, he⟩ := List.mem_map.1 hm
  obtain ⟨k, hk, rfl⟩ := List.getElem_of_mem hp
  simp only [List.length_take] at hk
  have := bind_lt h g hg k (by omega)
  rw [hv] at this
  simp only [Function.comp_def, List.getElem_take, List.headD_cons] at he this
  omega
theorem MapR.mono {S S' : Nat → Prop} {h : AHeap} {i : Nat} {m : Bd} (r : MapR S h i m) (hs : ∀ j, S j → S' j) : MapR S' h i m := by
  obtain ⟨rows, h1, h2, h3⟩ := r
  refine ⟨rows, h1, h2, fun k x hx => ?_⟩
  have := h3 k x hx
  split at this
  · exact this.mono hs
  · exact this
theorem MapR.below {S : Nat → Prop} {h : AHeap} {i : Nat} {m : Bd} (r : MapR S h i m) : MapR (fun j => S j ∧ j < h.length) h i m := by
  obtain ⟨rows, h1, h2, h3⟩ := r
  refine ⟨rows, h1, h2, fun k x hx => ?_⟩
  have := h3 k x hx
  split at this
  · exact SRep.below this
  · exact this
theorem sApplyBindings_ok {h : AHeap} {a : Pt} {n c : Nat} {e : Bool} {l : List Nd} {t : List Nat} (r : Row h.length h a (n * 2) (flat eP l)) (hn : n ≤ 1048576) (hb : ∀ p ∈ l, p.2.length ≤ 1048576) (hb1 : ∀ p ∈ l, ∀ x ∈ p.1, x < 256) (ht : t.length ≤ 1048576) :
    SCall pg n_spec_ApplyBindings [.slice a n c e, .str t] h fun v h' => v = applyA l t ∧ Same h.length h h' := by
  have hl : l.length = n := by have := r.1; rw [flat_length eP_len] at this; omega
  apply F_spec_ApplyBindings.call
  refine (l1Read_ok t (by omega) h).mono ?_
  rintro v h1 ⟨s1, vs1, rfl, r1⟩
  obtain ⟨d1, a1, n1, c1, e1, rfl⟩ := read_shape r1
  simp only [xTup_tup, xCons_cons, xAgg_agg, xInt_some, xSl_some, xNil_nil, xBool_some, letH_def]
  rw [store2]
  generalize hh2 : h1 ++ [AObj.cells t_spec_l1Node [.int .u8 d1, .slice a1 n1 c1 e1] false] = h2
  have s2 : Same h1.length h1 h2 := by rw [← hh2]; exact same_last
  have o2 : h2[h1.length]? = some (.cells t_spec_l1Node [.int .u8 d1, .slice a1 n1 c1 e1] false) := by rw [← hh2]; simp
  have S2 := s1.cat s2
  simp only [xHeap_some]
  cases hto : tyOk t with
  | false =>
    simp only [Bool.not_false, bcase_true]
    exact ⟨by unfold applyA applyS; rw [hto]; simp, S2⟩
  | true =>
  simp only [Bool.not_true, bcase_false]
  obtain ⟨u, hu⟩ := tyOk_some hto
  obtain ⟨hu1, hu2, hu3⟩ := ofTxt_some.1 hu
  rw [hu] at r1
  simp only at r1
  refine (sBindingsValid_ok (r.same' S2) hn hb hb1).mono ?_
  rintro v h3 ⟨rfl, s3⟩
  simp only [xBool_some]
  have S3 := S2.cat s3
  refine bcase_not (fun b1 => ⟨by unfold applyA applyS; rw [b1]; rfl, S3⟩) (fun b1 => ?_)
  apply F_spec_ApplyBindings.J4i
  simp only [letH_def]
  rw [← zeros12]
  generalize hh4 : h3 ++ [AObj.cells t_spec_l2Map (flat eR (List.replicate 12 (AVal.int .u8 0, AVal.slice none 0 0 true))) false] = h4
  have s4 : Same h3.length h3 h4 := by rw [← hh4]; exact same_last
  have o4 : h4[h3.length]? = some (.cells t_spec_l2Map (flat eR (List.replicate 12 (AVal.int .u8 0, AVal.slice none 0 0 true))) false) := by rw [← hh4]; simp
  have l4 : h4.length = h3.length + 1 := by rw [← hh4]; simp
  have hone : ∀ p ∈ l, ∃ v t, p.1 = [v] ∧ isVarN v = true ∧ ofTxt p.2 = some t := fun p hp => bind_one b1 hp
  have o3 := s3.get o2 (Own.lt o2)
  refine F_spec_ApplyBindings.L6ind _ _ _ _ _ _ _ _ _ _ (J := fun (g : Nat) x28 h' => x28 = (g : Int) ∧ g ≤ n ∧ Same h3.length h3 h' ∧ h4.length ≤ h'.length ∧ MapR (fun j => j ≠ h3.length) h' h3.length (bdOf (l.take g))) (fun g => n - g) ?_ 0 _ _ ⟨rfl, by omega, s4, Nat.le_refl _, MapR.nil o4⟩
  rintro g x28 h' ⟨rfl, hg, hS, hl4, rm⟩ R hR
  have SS := S3.cat hS
  unfold F_spec_ApplyBindings.L6t
  refine bcase_dec (fun hlt => ?_) (fun hge => ?_)
  · obtain ⟨i, o, hgl, rfl, hi, hr, _, _⟩ := (r.same SS).pr (k := g) (by omega)
    obtain ⟨v, tt, hv1, hv2, hv3⟩ := hone _ (List.getElem_mem hgl)
    obtain ⟨ht1, ht2, ht3⟩ := ofTxt_some.1 hv3
    simp only [xSome_some, Int.toNat_natCast, hr, xRow_some, xCons_cons, xNil_nil, xStr_some, letH_def]
    rw [store2]
    generalize hq : h' ++ [AObj.cells t_impl_Binding [.str l[g].1, .str l[g].2] false] = hq'
    have sq : Same h'.length h' hq' := by rw [← hq]; exact same_last
    have oq : hq'[h'.length]? = some (.cells t_impl_Binding [.str l[g].1, .str l[g].2] false) := by rw [← hq]; simp
    have hlq := sq.le
    rw [hv1] at oq
    simp only [xHeap_some, hCell_of oq, Nat.zero_add, List.getElem?_cons_succ, List.getElem?_cons_zero, xStr_some]
    refine ⟨by omega, by simp, ?_⟩
    simp only [Int.toNat_zero, List.getD_cons_zero]
    refine (l2Index_ok v).mono ?_
    rintro v' h5 ⟨rfl, rfl⟩
    obtain ⟨k, hk6, hkv, hix⟩ := l2idx_var hv2
    simp only [hix, xInt_some, hCell_of oq, List.getElem?_cons_succ, List.getElem?_cons_zero, true_and]
    refine (l1Read_ok l[g].2 (by omega) h5).mono ?_
    rintro v' h6 ⟨s6, vs6, rfl, r6⟩
    obtain ⟨d6, a6, n6, c6, e6, rfl⟩ := read_shape r6
    rw [hv3] at r6
    simp only at r6
    have hl6 := s6.le
    have ho6 : hCell h6 (.ptr (some (h'.length, 0))) = hCell h5 (.ptr (some (h'.length, 0))) := by simp only [hCell, s6.eq _ (Own.lt oq)]
    simp only [xTup_tup, xCons_cons, xAgg_agg, xInt_some, xSl_some, xNil_nil, xBool_some, ho6, true_and]
    have rm6 := (rm.same sq).same s6
    obtain ⟨h7, hst, hK, rm7⟩ := rm6.put (fun j hj => hj) hkv (bdOf_fresh b1 hgl hv1) (r6.mono fun j hj => by have := hj.1; omega)
    rw [Int.toNat_natCast, Nat.zero_add] at *
    rw [hst]
    simp only [xHeap_some]
    rw [wrap_nat (by omega)]
    have hK7 := hK.le
    refine ⟨by rw [hCell_of oq]; rfl, ⟨by omega, by omega⟩, hR (g + 1) _ _ (by omega) ⟨rfl, by omega, ⟨by omega, fun j hj => ?_⟩, by omega, ?_⟩⟩
    · rw [hK.eq j (by omega) (by omega), s6.eq j (by omega), sq.eq j (by omega), hS.eq j hj]
    · have : bdOf (l.take (g + 1)) = bdOf (l.take g) ++ [(v, tt)] := by
        unfold bdOf
        rw [List.take_succ_eq_append_getElem hgl, List.map_append]
        simp [hv1, hv3]
      rw [this]; exact rm7
  · apply F_spec_ApplyBindings.A6x0i
    have : g = n := by omega
    subst this
    rw [List.take_of_length_le (by omega)] at rm
    have hS3 := S3.le
    have h31 : h1.length ≤ h3.length := (s2.cat s3).le
    have o5 := hS.get o3 (Own.lt o3)
    simp only [hRow_of o5 (show 0 + 2 ≤ _ by simp), List.drop_zero, List.take_succ_cons, List.take_zero, xRow_some, xCons_cons, xNil_nil, xInt_some, xSl_some]
    have hbm : ∀ c, bget (bdOf l) c = btree l c := bget_bdOf hone
    have rt := (((r1.same s2).same s3).same hS).mono (S' := fun j => j ≠ h3.length) (fun j hj => by have := hj.2; omega)
    refine (l2Put_ok _ (Nat.le_refl _) hu1 (S := fun j => j ≠ h3.length ∧ j < h'.length) (fun j hj => ⟨hj.2, hj.1⟩) rt.below rm.below (fun v w hw => ?_) (fun v hv => ?_)).mono ?_
    · rw [hbm] at hw; exact ((bfind_tree b1 v).2 w hw).1
    · rw [hbm]; exact (bfind_not b1 hv).2
    rintro v h6 ⟨s6, nv, rfl, hn6⟩
    rw [show bget (bdOf l) = btree l from funext hbm] at hn6
    obtain ⟨na, nc, ne, rfl⟩ := hn6.shape
    have hat := applyT_txt b1 hu1
    rw [← hu2] at hat
    have hal := applyT_len b1 t
    simp only [xAgg_agg, xCons_cons, xInt_some, xSl_some, xNil_nil, letH_def]
    rw [store2]
    generalize hh7 : h6 ++ [AObj.cells t_spec_l1Node [.int .u8 ((subst (btree l) u).hd : Int), .slice na (subst (btree l) u).ps.length nc ne] false] = h7
    have s7 : Same h6.length h6 h7 := by rw [← hh7]; exact same_last
    have o7 : h7[h6.length]? = some (.cells t_spec_l1Node [.int .u8 ((subst (btree l) u).hd : Int), .slice na (subst (btree l) u).ps.length nc ne] false) := by rw [← hh7]; simp
    have S7 := (SS.cat s6).cat s7
    simp only [xHeap_some, hRow_of o7 (show 0 + 2 ≤ _ by simp), List.drop_zero, List.take_succ_cons, List.take_zero, xRow_some, xCons_cons, xNil_nil, xInt_some, xSl_some]
    refine (l2Length_ok _ (Nat.le_refl _) (by rw [← hat.1]; omega) (hn6.same s7)).mono ?_
    rintro v h8 ⟨rfl, s8⟩
    have o8 := s8.get o7 (Own.lt o7)
    simp only [xInt_some]
    rw [← hat.1]
    refine bcase_dec (fun hbig => ⟨by unfold applyA applyS; rw [if_neg (by simp; omega)], S7.cat s8⟩) (fun hsm => ?_)
    simp only [hRow_of o8 (show 0 + 2 ≤ _ by simp), List.drop_zero, List.take_succ_cons, List.take_zero, xRow_some, xCons_cons, xNil_nil, xInt_some, xSl_some]
    refine (l1Text_ok _ (Nat.le_refl _) (by rw [← hat.1]; omega) hat.2 ((hn6.same s7).same s8)).mono ?_
    rintro v h9 ⟨rfl, s9⟩
    simp only [xStr_some]
    refine ⟨?_, (S7.cat s8).cat s9⟩
    unfold applyA applyS
    rw [if_pos (by rw [b1, hto]; simp; omega), hat.1]
theorem matchR_bounds (p s : List Nat) : (∀ q ∈ matchR p s, q.2.length ≤ 1048576) ∧ (∀ q ∈ matchR p s, ∀ x ∈ q.1, x < 256) ∧ (matchR p s).length ≤ 6 := by
  unfold matchR
  cases hm : matchS p s with
  | none => simp
  | some m =>
    have b := matchS_ok hm
    refine ⟨fun q hq => ?_, fun q hq x hx => ?_, bdL_len m⟩
    · have hq' := bindOk_mem (bindOk_bdL b) hq
      have := tyOk_len hq'.2; omega
    · simp only [bdL_eq, List.mem_map, List.mem_filter] at hq
      obtain ⟨v, ⟨hv, _⟩, rfl⟩ := hq
      simp at hx; subst hx
      have := (varsN_var x).1 hv
      simp only [isVarN, Bool.or_eq_true, beq_iff_eq] at this; omega
theorem sNeeds_ok {h : AHeap} {a : Pt} {n c : Nat} {e : Bool} {i : Ins} {t : List Nat} (r : Row h.length h a (n * 2) (flat eP i.2)) (hn : n ≤ 1048576) (hi : i.1.2.length ≤ 1048576) (ht : t.length ≤ 1048576) (hns : ∀ p ∈ i.2, p.2.length ≤ 1048576) :
    SCall pg n_spec_l4Needs [.agg [.str i.1.1, .str i.1.2, .slice a n c e], .str t] h (NeedsQ i t h) := by
  have hl : i.2.length = n := by have := r.1; rw [flat_length eP_len] at this; omega
  apply F_spec_l4Needs.call
  simp only [letH_def]
  generalize hh0 : h ++ [AObj.cells t_impl_Instance [.str i.1.1, .str i.1.2, .slice a n c e] false] = h0
  generalize hh1 : h0 ++ [AObj.cells t_impl_Need [] false] = h1
  have s0 : Same h.length h h0 := by rw [← hh0]; exact same_last
  have s1 : Same h0.length h0 h1 := by rw [← hh1]; exact same_last
  have o0 : h0[h.length]? = some (.cells t_impl_Instance [.str i.1.1, .str i.1.2, .slice a n c e] false) := by rw [← hh0]; simp
  have x1 := s1.get o0 (Own.lt o0)
  have o1 : h1[h0.length]? = some (.cells t_impl_Need [] false) := by rw [← hh1]; simp
  have l0 : h0.length = h.length + 1 := by rw [← hh0]; simp
  simp only [hCell_of x1, Nat.zero_add, List.getElem?_cons_succ, List.getElem?_cons_zero, xStr_some]
  refine (sMatchType_ok i.1.2 t hi ht h1).mono ?_
  rintro v h2 ⟨s2, ma, mn, mc, me, rfl, hmc, fm⟩
  simp only [xTup_tup, xCons_cons, xSl_some, xBool_some, xNil_nil]
  have S2 := (s0.cat s1).cat s2
  have o2 := s2.get o1 (Own.lt o1)
  have x2 := s2.get x1 (Own.lt x1)
  obtain ⟨hmb1, hmb2, hml⟩ := matchR_bounds i.1.2 t
  have hmn := fm.1
  have hS1le : h.length ≤ h1.length := (s0.cat s1).le
  have hnw0 : instS i.1.2 t = false → needsW i t = none := fun hno => by
    unfold needsW instS at *
    cases hm : matchS i.1.2 t with
    | none => rfl
    | some m => rw [hm] at hno; cases hno
  refine bcase_not (fun b1 => ⟨S2, _, 0, 0, true, by rw [hnw0 b1]; rfl, by rw [hnw0 b1]; exact ⟨rfl, .inl rfl⟩⟩) (fun b1 => ?_)
  simp only [hCell_of x2, List.getElem?_cons_succ, List.getElem?_cons_zero, xSl_some]
  have hnw : needsW i t = if i.2.all (fun p => (applyS (matchR i.1.2 t) p.2).isSome) then some (i.2.map (putN (matchR i.1.2 t))) else none := by
    unfold needsW instS at *
    cases hm : matchS i.1.2 t with
    | none => rw [hm] at b1; cases b1
    | some m =>
      have hml' : matchR i.1.2 t = bdL m := by unfold matchR; rw [hm]
      simp only [hml']
      by_cases hall : i.2.all (fun p => (applyS (bdL m) p.2).isSome) = true
      · rw [if_pos hall, if_pos hall, putN_all hall]
      · rw [if_neg hall, if_neg hall]
  generalize matchR i.1.2 t = ml at *
  refine F_spec_l4Needs.L6ind _ _ _ _ _ _ _ _ _ _ (J := fun (g : Nat) a8 n8 c8 e8 x28 h' => x28 = (g : Int) ∧ g ≤ n ∧ Same h.length h h' ∧ h2.length ≤ h'.length ∧ Row h'.length h' ma (mn * 2) (flat eP ml) ∧ (i.2.take g).all (fun p => (applyS ml p.2).isSome) = true ∧ n8 = g ∧ Vec t_impl_Need h' a8 n8 c8 (flat eP ((i.2.take g).map (putN ml))) ∧ (∀ j, a8 = some (j, 0) → j = h0.length ∨ h2.length ≤ j)) (fun g => n - g) ?_ 0 _ _ _ _ _ _
    ⟨rfl, by omega, S2, Nat.le_refl _, fm.row eP_len, rfl, rfl, Vec.mk1 (by simpa using o2), fun j hj => by cases hj; exact .inl rfl⟩
  rintro g a8 n8 c8 e8 x28 h' ⟨rfl, hg, hS, hl1, hrm, hall, rfl, hv, ha⟩ R hR
  unfold F_spec_l4Needs.L6t
  have hl2 : h1.length ≤ h2.length := s2.le
  refine bcase_dec (fun hlt => ?_) (fun hge => ?_)
  · obtain ⟨j, o, hgl, rfl, hj, hr, _, _⟩ := (r.same hS).pr (k := n8) (by omega)
    simp only [xSome_some, Int.toNat_natCast, hr, xRow_some, xCons_cons, xNil_nil, xStr_some, letH_def]
    rw [store2]
    generalize hq : h' ++ [AObj.cells t_impl_Need [.str i.2[n8].1, .str i.2[n8].2] false] = hq'
    have sq : Same h'.length h' hq' := by rw [← hq]; exact same_last
    have oq : hq'[h'.length]? = some (.cells t_impl_Need [.str i.2[n8].1, .str i.2[n8].2] false) := by rw [← hq]; simp
    simp only [xHeap_some, hCell_of oq, Nat.zero_add, List.getElem?_cons_succ, List.getElem?_cons_zero, xStr_some]
    refine ⟨by omega, (sApplyBindings_ok (hrm.same' sq) (by omega) hmb1 hmb2 (hns _ (List.getElem_mem hgl))).mono ?_⟩
    rintro v h3 ⟨rfl, s3⟩
    have hshape : applyA ml i.2[n8].2 = .tup [.str ((applyS ml i.2[n8].2).getD []), .bool (applyS ml i.2[n8].2).isSome] := by
      unfold applyA; cases applyS ml i.2[n8].2 <;> rfl
    rw [hshape]
    simp only [xTup_tup, xCons_cons, xStr_some, xBool_some, xNil_nil]
    have S3 := (hS.cat sq).cat s3
    have o3 := s3.get oq (Own.lt oq)
    refine bcase_not (fun b2 => ?_) (fun b2 => ?_)
    · have : needsW i t = none := by rw [hnw, not_all hgl b2]; rfl
      exact ⟨S3.cat same_last, _, 0, 0, true, by rw [this]; rfl, by rw [this]; exact ⟨rfl, .inl rfl⟩⟩
    · simp only [hCell_of o3, List.getElem?_cons_zero, xStr_some]
      refine ((hv.same sq).same s3).pushN u_L_iNeed c_iNeed k_iNeed b_iNeed (by rw [flat_length eP_len]; simp; omega) rfl (by omega) rfl (by omega) (fun h6 hl6 hi6 hk6 => ?_)
      simp only [xSl_some]
      rw [wrap_nat (by omega)]
      have hle := S3.le
      have hlq := sq.le
      have hl3 := s3.le
      have hb8 : ∀ j, a8 = some (j, 0) → h.length ≤ j := fun j hj => by rcases ha j hj with hh | hh <;> omega
      have hlast : ∀ j, (some (h3.length + 1, 0) : Pt) = some (j, 0) → j = h0.length ∨ h2.length ≤ j := fun j hj => by
        cases hj
        exact .inr (by omega)
      refine hR (n8 + 1) _ _ _ _ _ _ (by omega) ⟨rfl, by omega, ⟨by omega, fun j hj => ?_⟩, by omega, ?_, take_succ_all hgl hall b2, rfl, Vec.mk1 ?_, hlast⟩
      · rw [hk6 j (by omega) fun q hq => by have := hb8 q hq; omega]; exact S3.eq j hj
      · have hr3 := (hrm.same' sq).same' s3
        obtain ⟨hx1, hx2⟩ := hr3
        rcases fm.2 with h0' | ⟨q2, hq2, hqb2, hq3⟩
        · exact ⟨hx1, .inl (by omega)⟩
        · refine ⟨hx1, hx2.imp id ?_⟩
          rintro ⟨q, o', ty, all, ro, hqa, hqb, hqg, hq4, hq5⟩
          refine ⟨q, o', ty, all, ro, hqa, by omega, ?_, hq4, hq5⟩
          rw [hk6 q hqb fun q' hq' => ?_]
          · exact hqg
          · intro e
            subst e
            rw [hqa] at hq2; cases hq2
            have := Own.lt hq3
            rcases ha _ hq' with hh | hh
            · have := Own.lt o1; omega
            · omega
      · rw [hi6, List.take_succ_eq_append_getElem hgl, List.map_append, flat_append]; rfl
  · apply F_spec_l4Needs.A6x0i
    have : n8 = n := by omega
    subst this
    rw [show i.2.take n8 = i.2 from List.take_of_length_le (by omega)] at hv hall
    have : needsW i t = some (i.2.map (putN ml)) := by rw [hnw, hall]; rfl
    refine ⟨hS, a8, n8, c8, e8, by rw [this]; rfl, ?_⟩
    rw [this]
    exact hv.fresh (b := h.length) (by simp; omega) fun j hj => by rcases ha j hj with hh | hh <;> omega
end Go.Sim

set_option linter.unusedVariables false
set_option linter.unusedSimpArgs false
set_option maxRecDepth 20000
namespace Go.Sim
open Go Go.RowKit

end Go.Sim

/- The classes above one: plain Lean. -/
set_option linter.unusedSimpArgs false
set_option linter.unusedVariables false
namespace Go.Sim

/-- The class of letter a is right below that of letter b. -/
def Up (cs : List Nd) (a b : Nat) : Prop := ∃ i, ∃ h : i < cs.length, cs[i].1 = [a] ∧ b ∈ cs[i].2
/-- Above by one or more steps. -/
inductive Rch (cs : List Nd) (a : Nat) : Nat → Prop
  | one {b : Nat} : Up cs a b → Rch cs a b
  | more {b c : Nat} : Rch cs a b → Up cs b c → Rch cs a c
theorem clsOk_at {cs : List Nd} (h : clsOk cs = true) {i : Nat} (hi : i < cs.length) : clsAt cs i = true := by
  unfold clsOk at h
  simp only [Bool.and_eq_true, List.all_eq_true] at h
  exact h.1 i (List.mem_range.2 hi)
theorem cls_name {cs : List Nd} (h : clsOk cs = true) {i : Nat} (hi : i < cs.length) : ∃ d, cs[i].1 = [d] ∧ 65 ≤ d ∧ d ≤ 84 := by
  have := clsOk_at h hi
  unfold clsAt at this
  rw [getD_at hi] at this
  simp only [Bool.and_eq_true] at this
  have h1 := this.1.1
  unfold isCls at h1
  split at h1
  · rename_i d hd; exact ⟨d, hd, by simpa using h1⟩
  · cases h1
theorem cls_less1 {cs : List Nd} (h : clsOk cs = true) {i : Nat} (hi : i + 1 < cs.length) {a b : Nat} (ha : cs[i].1 = [a]) (hb : cs[i + 1].1 = [b]) : a < b := by
  have := clsOk_at h hi
  unfold clsAt at this
  rw [getD_at hi, Nat.add_sub_cancel, getD_at (by omega), ha, hb] at this
  simp only [Bool.and_eq_true] at this
  have h1 := this.1.2
  simpa [natLess] using h1
theorem cls_less {cs : List Nd} (h : clsOk cs = true) : ∀ (k i : Nat) (hi : i + k + 1 < cs.length) {a b : Nat}, cs[i].1 = [a] → cs[i + k + 1].1 = [b] → a < b
  | 0, i, hi, a, b, ha, hb => cls_less1 h hi ha hb
  | k + 1, i, hi, a, b, ha, hb => by
    obtain ⟨d, hd, _⟩ := cls_name h (show i + k + 1 < cs.length by omega)
    have h1 := cls_less h k i (by omega) ha hd
    have h2 := cls_less1 h (i := i + k + 1) (by omega) hd hb
    omega
theorem cls_inj {cs : List Nd} (h : clsOk cs = true) {i j : Nat} (hi : i < cs.length) (hj : j < cs.length) {a : Nat} (ha : cs[i].1 = [a]) (hb : cs[j].1 = [a]) : i = j := by
  rcases Nat.lt_trichotomy i j with hl | he | hl
  · obtain ⟨k, rfl⟩ : ∃ k, j = i + k + 1 := ⟨j - i - 1, by omega⟩
    have := cls_less h k i hj ha hb; omega
  · exact he
  · obtain ⟨k, rfl⟩ : ∃ k, i = j + k + 1 := ⟨i - j - 1, by omega⟩
    have := cls_less h k j hi hb ha; omega
/-- What is above a class are classes ahead of it. -/
theorem cls_above {cs : List Nd} (h : clsOk cs = true) {i : Nat} (hi : i < cs.length) {b : Nat} (hb : b ∈ cs[i].2) : ∃ j, ∃ hj : j < i, cs[j].1 = [b] := by
  have := clsOk_at h hi
  unfold clsAt at this
  rw [getD_at hi] at this
  simp only [Bool.and_eq_true] at this
  have h1 := this.2
  unfold supsOk at h1
  rw [List.all_eq_true] at h1
  obtain ⟨k, hk, rfl⟩ := List.mem_iff_getElem.1 hb
  have h2 := h1 k (List.mem_range.2 hk)
  unfold supAt at h2
  rw [getD_at hk] at h2
  simp only [Bool.and_eq_true] at h2
  have h3 := h2.1
  unfold knownC at h3
  rw [List.any_eq_true] at h3
  obtain ⟨x, hx, he⟩ := h3
  obtain ⟨j, hj, rfl⟩ := List.mem_iff_getElem.1 hx
  rw [List.length_take] at hj
  exact ⟨j, by omega, by simpa using he⟩
theorem Up.ix {cs : List Nd} (h : clsOk cs = true) {a b i : Nat} (u : Up cs a b) (hi : i < cs.length) (ha : cs[i].1 = [a]) : b ∈ cs[i].2 := by
  obtain ⟨j, hj, hja, hb⟩ := u
  have := cls_inj h hi hj ha hja
  subst this; exact hb
theorem Rch.ix {cs : List Nd} (h : clsOk cs = true) {a b i : Nat} (r : Rch cs a b) (hi : i < cs.length) (ha : cs[i].1 = [a]) : ∃ j, ∃ hj : j < i, cs[j].1 = [b] := by
  induction r with
  | one u => exact cls_above h hi (u.ix h hi ha)
  | more _ u ih =>
    obtain ⟨j, hj, hb⟩ := ih
    obtain ⟨k, hk, hc⟩ := cls_above h (show j < cs.length by omega) (u.ix h (by omega) hb)
    exact ⟨k, by omega, hc⟩
/-- The program's step down the list of classes: what is known of the letters so far. -/
structure DownI (cs : List Nd) (a : Nat) (i : Nat) (ab : List Nat) : Prop where
  sound : ∀ d ∈ ab, Rch cs a d
  done : ∀ j, i ≤ j → ∀ hj : j < cs.length, (cs[j].1 = [a] ∨ ∃ d, cs[j].1 = [d] ∧ d ∈ ab) → ∀ b ∈ cs[j].2, b ∈ ab
theorem DownI.step {cs : List Nd} (h : clsOk cs = true) {a i : Nat} {ab : List Nat} (D : DownI cs a (i + 1) ab) (hi : i < cs.length) (hc : cs[i].1 = [a] ∨ ∃ d, cs[i].1 = [d] ∧ d ∈ ab) : DownI cs a i (ab ++ cs[i].2) := by
  refine ⟨fun d hd => ?_, fun j hj hjl hcj b hb => ?_⟩
  · rcases List.mem_append.1 hd with hd | hd
    · exact D.sound d hd
    · rcases hc with hc | ⟨e, he, hm⟩
      · exact .one ⟨i, hi, hc, hd⟩
      · exact .more (D.sound e hm) ⟨i, hi, he, hd⟩
  · by_cases hji : j = i
    · subst hji; exact List.mem_append_right _ hb
    · refine List.mem_append_left _ (D.done j (by omega) hjl ?_ b hb)
      rcases hcj with hcj | ⟨e, he, hm⟩
      · exact .inl hcj
      · rcases List.mem_append.1 hm with hm | hm
        · exact .inr ⟨e, he, hm⟩
        · exfalso
          obtain ⟨k, hk, hke⟩ := cls_above h hi hm
          have := cls_inj h hjl (show k < cs.length by omega) he hke
          omega
theorem DownI.skip {cs : List Nd} {a i : Nat} {ab : List Nat} (D : DownI cs a (i + 1) ab) (hc : ∀ hi : i < cs.length, ¬ (cs[i].1 = [a] ∨ ∃ d, cs[i].1 = [d] ∧ d ∈ ab)) : DownI cs a i ab :=
  ⟨D.sound, fun j hj hjl hcj b hb => by
    by_cases hji : j = i
    · subst hji; exact absurd hcj (hc hjl)
    · exact D.done j (by omega) hjl hcj b hb⟩
theorem DownI.all {cs : List Nd} (h : clsOk cs = true) {a i : Nat} {ab : List Nat} (D : DownI cs a 0 ab) (hi : i < cs.length) (ha : cs[i].1 = [a]) (d : Nat) : d ∈ ab ↔ Rch cs a d := by
  refine ⟨D.sound d, fun r => ?_⟩
  induction r with
  | one u => exact D.done i (by omega) hi (.inl ha) _ (u.ix h hi ha)
  | more r u ih =>
    obtain ⟨j, hj, hb⟩ := r.ix h hi ha
    exact D.done j (by omega) (by omega) (.inr ⟨_, hb, ih⟩) _ (u.ix h (by omega) hb)
/-- The reference's rounds: letters of classes that are not far ahead are in. -/
structure RndI (cs : List Nd) (a i : Nat) (r : Nat) (ab : List Nat) : Prop where
  sound : ∀ d ∈ ab, Rch cs a d
  first : ∀ d, Up cs a d → d ∈ ab
  near : ∀ j, j < i → i ≤ j + 1 + r → ∀ hj : j < cs.length, ∀ d, cs[j].1 = [d] → Rch cs a d → d ∈ ab
theorem RndI.next {cs : List Nd} (h : clsOk cs = true) {a i r : Nat} {ab ab' : List Nat} (R : RndI cs a i r ab) (hi : i < cs.length) (ha : cs[i].1 = [a])
    (hs : ∀ d ∈ ab', d ∈ ab ∨ ∃ e ∈ ab, Up cs e d) (hc : ∀ d, (d ∈ ab ∨ ∃ e ∈ ab, Up cs e d) → d ∈ ab') : RndI cs a i (r + 1) ab' := by
  refine ⟨fun d hd => ?_, fun d u => hc d (.inl (R.first d u)), fun j hj hn hjl d hd rc => ?_⟩
  · rcases hs d hd with hd | ⟨e, he, u⟩
    · exact R.sound d hd
    · exact .more (R.sound e he) u
  · cases rc with
    | one u => exact hc d (.inl (R.first d u))
    | more rc u =>
      rename_i e
      obtain ⟨k, hk, hb⟩ := rc.ix h hi ha
      have hjk : j < k := by
        obtain ⟨q, hq, hcq⟩ := cls_above h (show k < cs.length by omega) (u.ix h (by omega) hb)
        have := cls_inj h hjl (show q < cs.length by omega) hd hcq
        omega
      exact hc d (.inr ⟨e, R.near k hk (by omega) (by omega) e hb rc, u⟩)
theorem RndI.all {cs : List Nd} (h : clsOk cs = true) {a i r : Nat} {ab : List Nat} (R : RndI cs a i r ab) (hi : i < cs.length) (ha : cs[i].1 = [a]) (hr : i ≤ r + 1) (d : Nat) : d ∈ ab ↔ Rch cs a d := by
  refine ⟨R.sound d, fun rc => ?_⟩
  obtain ⟨j, hj, hd⟩ := rc.ix h hi ha
  exact R.near j hj (by omega) (by omega) d hd rc
end Go.Sim

set_option linter.unusedVariables false
set_option linter.unusedSimpArgs false
set_option maxRecDepth 20000
namespace Go.Sim
open Go Go.RowKit

end Go.Sim

set_option linter.unusedVariables false
set_option linter.unusedSimpArgs false
set_option maxRecDepth 20000
namespace Go.Sim
open Go Go.RowKit

end Go.Sim

set_option linter.unusedVariables false
set_option linter.unusedSimpArgs false
set_option maxRecDepth 20000
namespace Go.Sim
open Go Go.RowKit

theorem pair_eq (x y : Nd) : (decide (x.1 = y.1) && decide (x.2 = y.2)) = decide (x = y) := by
  rw [Bool.eq_iff_iff]; simp [Prod.ext_iff]
theorem index_need {h : AHeap} {a : Pt} {n c : Nat} {e : Bool} {l : List Nd} {x : Nd} (r : Row h.length h a (n * 2) (flat eP l)) (hn : n ≤ 1048576) :
    SCall pg n_slices_Index_L_impl_Need_impl_Need [.slice a n c e, .agg [.str x.1, .str x.2]] h fun v h' => (∃ z : Int, v = .int .i64 z ∧ decide (z ≥ 0) = decide (x ∈ l)) ∧ Same h.length h h' := by
  have hl : l.length = n := by have := r.1; rw [flat_length eP_len] at this; omega
  apply F_slices_Index_L_impl_Need_impl_Need.call
  simp only [letH_def]
  generalize hh0 : h ++ [AObj.cells t_impl_Need [.str x.1, .str x.2] false] = h0
  have s0 : Same h.length h h0 := by rw [← hh0]; exact same_last
  have x0 : h0[h.length]? = some (.cells t_impl_Need [.str x.1, .str x.2] false) := by rw [← hh0]; simp
  refine F_slices_Index_L_impl_Need_impl_Need.L2ind _ _ _ _ _ _ _ _ (J := fun (g : Nat) x8 h' => x8 = (g : Int) ∧ g ≤ n ∧ h' = h0 ∧ x ∉ l.take g) (fun g => n - g) ?_ 0 _ _ ⟨rfl, by omega, rfl, by simp⟩
  rintro g x8 h' ⟨rfl, hg, rfl, hk⟩ R hR
  unfold F_slices_Index_L_impl_Need_impl_Need.L2t
  refine bcase_dec (fun hlt => ?_) (fun hge => ?_)
  · obtain ⟨i, o, hgl, rfl, _, hr, _⟩ := (r.same s0).pr (k := g) (by omega)
    rw [row_all2 x0]
    simp only [xSome_some, Int.toNat_natCast, hr, xRow_some, xCons_cons, xNil_nil, xStr_some, true_and, pair_eq]
    refine ⟨by omega, bcase_dec (fun he => ?_) (fun he => ?_)⟩
    · refine ⟨⟨_, rfl, ?_⟩, s0⟩
      have : x ∈ l := by rw [he]; exact List.getElem_mem hgl
      simp [this]
    · rw [wrap_nat (by omega)]
      refine hR (g + 1) _ _ (by omega) ⟨rfl, by omega, rfl, ?_⟩
      rw [List.take_succ_eq_append_getElem hgl, List.mem_append]
      rintro (hx | hx)
      · exact hk hx
      · exact he (by simpa using hx)
  · apply F_slices_Index_L_impl_Need_impl_Need.A2x0i
    have : g = n := by omega
    subst this
    rw [List.take_of_length_le (by omega)] at hk
    exact ⟨⟨_, rfl, by simp [hk]⟩, s0⟩
theorem contains_need {h : AHeap} {a : Pt} {n c : Nat} {e : Bool} {l : List Nd} {x : Nd} (r : Row h.length h a (n * 2) (flat eP l)) (hn : n ≤ 1048576) :
    SCall pg n_slices_Contains_L_impl_Need_impl_Need [.slice a n c e, .agg [.str x.1, .str x.2]] h fun v h' => v = .bool (decide (x ∈ l)) ∧ Same h.length h h' := by
  apply F_slices_Contains_L_impl_Need_impl_Need.call
  simp only [letH_def]
  have s0 : Same h.length h (h ++ [.cells t_impl_Need [.str x.1, .str x.2] false]) := same_last
  rw [rowL2]
  simp only [xRow_some, xCons_cons, xNil_nil, xStr_some]
  refine (index_need (x := x) (r.same' s0) hn).mono ?_
  rintro v h2 ⟨⟨z, rfl, hz⟩, s2⟩
  simp only [xInt_some]
  exact ⟨by rw [hz], s0.cat s2⟩
theorem l9In_ok {h : AHeap} {a : Pt} {n c : Nat} {e : Bool} {l : List Nd} {x : Nd} (r : Row h.length h a (n * 2) (flat eP l)) (hn : n ≤ 1048576) :
    SCall pg n_spec_l9In [.slice a n c e, .agg [.str x.1, .str x.2]] h fun v h' => v = .bool (decide (x ∈ l)) ∧ Same h.length h h' := by
  have hl : l.length = n := by have := r.1; rw [flat_length eP_len] at this; omega
  apply F_spec_l9In.call
  simp only [letH_def]
  generalize hh0 : h ++ [AObj.cells t_impl_Need [.str x.1, .str x.2] false] = h0
  have s0 : Same h.length h h0 := by rw [← hh0]; exact same_last
  have x0 : h0[h.length]? = some (.cells t_impl_Need [.str x.1, .str x.2] false) := by rw [← hh0]; simp
  refine F_spec_l9In.L2ind _ _ _ _ _ _ _ _ (J := fun (g : Nat) x8 h' => x8 = (g : Int) ∧ g ≤ n ∧ Same h0.length h0 h' ∧ x ∉ l.take g) (fun g => n - g) ?_ 0 _ _ ⟨rfl, by omega, Same.refl _ _, by simp⟩
  rintro g x8 h' ⟨rfl, hg, hS, hk⟩ R hR
  have SS := s0.cat hS
  unfold F_spec_l9In.L2t
  refine bcase_dec (fun hlt => ?_) (fun hge => ?_)
  · obtain ⟨i, o, hgl, rfl, _, hr, _⟩ := (r.same SS).pr (k := g) (by omega)
    simp only [xSome_some, Int.toNat_natCast, hr, xRow_some, xCons_cons, xNil_nil, xStr_some, letH_def]
    rw [store2]
    generalize hq : h' ++ [AObj.cells t_impl_Need [.str l[g].1, .str l[g].2] false] = hq'
    have sq : Same h'.length h' hq' := by rw [← hq]; exact same_last
    simp only [xHeap_some]
    rw [row_all2 ((hS.cat sq).get x0 (Own.lt x0)), ← hq, rowL2, hq]
    simp only [xRow_some, xCons_cons, xNil_nil, xStr_some, pair_eq]
    refine ⟨by omega, bcase_dec (fun he => ?_) (fun he => ?_)⟩
    · have : x ∈ l := by rw [← he]; exact List.getElem_mem hgl
      exact ⟨by simp [this], SS.cat sq⟩
    · rw [wrap_nat (by omega)]
      refine hR (g + 1) _ _ (by omega) ⟨rfl, by omega, hS.cat sq, ?_⟩
      rw [List.take_succ_eq_append_getElem hgl, List.mem_append]
      rintro (hx | hx)
      · exact hk hx
      · exact he (List.mem_singleton.1 hx).symm
  · apply F_spec_l9In.A2x0i
    have : g = n := by omega
    subst this
    rw [List.take_of_length_le (by omega)] at hk
    exact ⟨by simp [hk], SS⟩
/-- One need more, if it is not there. -/
def onceP (l : List Nd) (x : Nd) : List Nd := if x ∈ l then l else l ++ [x]
/-- A list of needs that grows. -/
structure NVec (b : Nat) (h : AHeap) (a : Pt) (n c : Nat) (l : List Nd) : Prop where
  vec : Vec t_impl_Need h a n c (flat eP l)
  len : l.length = n
  low : ∀ i, a = some (i, 0) → b ≤ i
theorem NVec.row {b : Nat} {h : AHeap} {a : Pt} {n c : Nat} {l : List Nd} (f : NVec b h a n c l) : Row h.length h a (n * 2) (flat eP l) := f.vec.row (by rw [flat_length eP_len, f.len])
theorem NVec.same {b : Nat} {h h' : AHeap} {a : Pt} {n c : Nat} {l : List Nd} (f : NVec b h a n c l) (s : Same h.length h h') : NVec b h' a n c l := ⟨f.vec.same s, f.len, f.low⟩
/-- Nothing has turned but the list's row. -/
def But (a : Pt) (h h' : AHeap) : Prop := h.length ≤ h'.length ∧ ∀ j, j < h.length → (∀ i, a = some (i, 0) → j ≠ i) → h'[j]? = h[j]?
theorem But.of {a : Pt} {h h' : AHeap} (s : Same h.length h h') : But a h h' := ⟨s.le, fun j hj _ => s.eq j hj⟩
theorem But.below {a : Pt} {b : Nat} {h h' : AHeap} (s : But a h h') (hb : b ≤ h.length) (hl : ∀ i, a = some (i, 0) → b ≤ i) : Same b h h' := ⟨s.1, fun j hj => s.2 j (by omega) fun i hi => by have := hl i hi; omega⟩
theorem once_ok {h : AHeap} {b : Nat} {a a1 : Pt} {n c c1 : Nat} {e e1 : Bool} {l : List Nd} {x : Nd} (f : NVec b h a n c l) (hb : b ≤ h.length) (hn : n ≤ 524288) (r : Row h.length h a1 (1 * 2) (flat eP [x])) :
    SCall pg n_impl_once [.slice a n c e, .slice a1 1 c1 e1] h fun v h' => ∃ a' n' c' e', v = .slice a' n' c' e' ∧ NVec b h' a' n' c' (onceP l x) ∧ But a h h' ∧ (a' = a ∨ ∀ i, a' = some (i, 0) → h.length ≤ i) := by
  apply F_impl_once.call
  refine F_impl_once.L2ind _ _ _ _ _ _ (J := fun (g : Nat) a0 n0 c0 e0 x9 h' => x9 = (g : Int) ∧ g ≤ 1 ∧ ((g = 0 ∧ a0 = a ∧ n0 = n ∧ c0 = c ∧ h' = h) ∨ (g = 1 ∧ NVec b h' a0 n0 c0 (onceP l x) ∧ But a h h' ∧ (a0 = a ∨ ∀ i, a0 = some (i, 0) → h.length ≤ i)))) (fun g => 1 - g) ?_ 0 _ _ _ _ _ _ ⟨rfl, by omega, .inl ⟨rfl, rfl, rfl, rfl, rfl⟩⟩
  rintro g a0 n0 c0 e0 x9 h' ⟨rfl, hg, hst⟩ R hR
  unfold F_impl_once.L2t
  refine bcase_dec (fun hlt => ?_) (fun hge => ?_)
  · rcases hst with ⟨rfl, rfl, rfl, rfl, rfl⟩ | ⟨rfl, _⟩
    · obtain ⟨i, o, hgl, rfl, _, hr, _⟩ := r.pr (k := 0) (by omega)
      simp only [xSome_some, Int.toNat_natCast, hr, xRow_some, xCons_cons, xNil_nil, xStr_some, letH_def, List.getElem_cons_zero]
      rw [store2]
      simp only [xHeap_some]
      rw [rowL2]
      simp only [xRow_some, xCons_cons, xNil_nil, xStr_some]
      generalize hq : h' ++ [AObj.cells t_impl_Need [.str x.1, .str x.2] false] = hq'
      have sq : Same h'.length h' hq' := by rw [← hq]; exact same_last
      have iq : hq'[h'.length]? = some (.cells t_impl_Need [.str x.1, .str x.2] false) := by rw [← hq]; simp
      have fq := f.same sq
      refine ⟨by omega, (contains_need (x := x) fq.row (by omega)).mono ?_⟩
      rintro v h3 ⟨rfl, s3⟩
      simp only [xBool_some]
      have f3 := fq.same s3
      have i3 := s3.get iq (Own.lt iq)
      have S3 := sq.cat s3
      refine bcase_not (fun hm => ?_) (fun hm => ?_)
      · rw [row_all2 i3]
        simp only [xRow_some, xCons_cons, xNil_nil, xStr_some]
        have hnm : onceP l x = l ++ [x] := by unfold onceP; rw [if_neg (by simpa using hm)]
        refine f3.vec.pushN u_L_Need c_Need k_Need b_Need (by rw [flat_length eP_len, f3.len]) rfl (by omega) rfl (by omega) (fun h4 hl4 hi4 hk4 => ?_)
        simp only [xSl_some]
        apply F_impl_once.J6i
        have hle := S3.le
        have hrl := f.low
        refine hR 1 _ _ _ _ _ _ (by omega) ⟨rfl, by omega, .inr ⟨rfl, ⟨Vec.mk1 ?_, ?_, fun i hi => by cases hi; omega⟩, ⟨by omega, fun j hj hne => ?_⟩, .inr fun i hi => by cases hi; omega⟩⟩
        · rw [hi4, hnm, flat_append]; rfl
        · rw [hnm, List.length_append, f.len]; rfl
        · rw [hk4 j (by omega) hne]; exact S3.eq j hj
      · apply F_impl_once.J6i
        have hnm : onceP l x = l := by unfold onceP; rw [if_pos (by simpa using hm)]
        exact hR 1 _ _ _ _ _ _ (by omega) ⟨rfl, by omega, .inr ⟨rfl, by rw [hnm]; exact f3, But.of S3, .inl rfl⟩⟩
    · omega
  · rcases hst with ⟨rfl, _⟩ | ⟨rfl, fv, bt⟩
    · omega
    · apply F_impl_once.A2x0i
      exact ⟨_, _, _, _, rfl, fv, bt⟩
end Go.Sim

/- The reduction of needs: plain Lean; over the candidates and the needs of instances, whatever they are. -/
set_option linter.unusedSimpArgs false
set_option linter.unusedVariables false
namespace Go.Sim

/-- What is told of a search: candidates of a need; the needs of an instance for a type; which of some is the most special (or -1). -/
structure Wk where
  cand : Nd → List Int
  needs : Int → List Nat → Option (List Nd)
  most : List Int → Int
def onceQ (l : List Nd) (x : Nd) : List Nd := if x ∈ l then l else l ++ [x]
/-- The reduction: the fuel is how deep it may still go. -/
def redP (k : Wk) : Nat → (List Nd × Nat) → Nd → Bool × (List Nd × Nat)
  | f, s, n =>
    if isVarS n.2 then (true, (onceQ s.1 n, s.2)) else
    match f with
    | 0 => (false, s)
    | f + 1 =>
      if 300 ≤ s.2 then (false, s) else
      match k.cand n with
      | [x] => (match k.needs x n.2 with
        | none => (false, (s.1, s.2 + 1))
        | some ms => ms.foldl (fun r m => if r.1 then redP k f r.2 m else r) (true, (s.1, s.2 + 1)))
      | _ => (false, s)
theorem red_stop {α : Type} (g : (List Nd × Nat) → α → Bool × (List Nd × Nat)) : ∀ (l : List α) (s : List Nd × Nat), l.foldl (fun r m => if r.1 then g r.2 m else r) (false, s) = (false, s)
  | [], s => rfl
  | a :: l, s => by simp only [List.foldl_cons, Bool.false_eq_true, if_false]; exact red_stop g l s
theorem red_take {α : Type} (g : (List Nd × Nat) → α → Bool × (List Nd × Nat)) (l : List α) (z : Bool × (List Nd × Nat)) (q : Nat) (hq : q < l.length) :
    (l.take (q + 1)).foldl (fun r m => if r.1 then g r.2 m else r) z = (fun r => if r.1 then g r.2 l[q] else r) ((l.take q).foldl (fun r m => if r.1 then g r.2 m else r) z) := by
  rw [List.take_succ_eq_append_getElem hq, List.foldl_append]; rfl
theorem red_false {α : Type} (g : (List Nd × Nat) → α → Bool × (List Nd × Nat)) (l : List α) (z : Bool × (List Nd × Nat)) (q : Nat) {s : List Nd × Nat} (h : (l.take q).foldl (fun r m => if r.1 then g r.2 m else r) z = (false, s)) : l.foldl (fun r m => if r.1 then g r.2 m else r) z = (false, s) := by
  conv => lhs; rw [← List.take_append_drop q l]
  rw [List.foldl_append, h, red_stop]
/-- At most three needs of an instance. -/
def Wk.Three (k : Wk) : Prop := ∀ (n : Nd) (x : Int) (ms : List Nd), x ∈ k.cand n → k.needs x n.2 = some ms → ms.length ≤ 3
theorem onceQ_len (l : List Nd) (x : Nd) : (onceQ l x).length ≤ l.length + 1 := by unfold onceQ; split <;> simp
theorem red_fold {α : Type} {g : (List Nd × Nat) → α → Bool × (List Nd × Nat)} (hg : ∀ s m, s.2 ≤ 300 → (g s m).2.2 ≤ 300 ∧ s.2 ≤ (g s m).2.2 ∧ (g s m).2.1.length + 3 * s.2 ≤ s.1.length + 1 + 3 * (g s m).2.2) :
    ∀ (l : List α) (b : Bool) (s : List Nd × Nat), s.2 ≤ 300 → let r := l.foldl (fun r m => if r.1 then g r.2 m else r) (b, s); r.2.2 ≤ 300 ∧ s.2 ≤ r.2.2 ∧ r.2.1.length + 3 * s.2 ≤ s.1.length + l.length + 3 * r.2.2
  | [], b, s, h => ⟨h, Nat.le_refl _, by simp⟩
  | m :: l, b, s, h => by
    simp only [List.foldl_cons, List.length_cons]
    cases b with
    | false =>
      have := red_fold hg l false s h
      simp only at this
      simp only [Bool.false_eq_true, if_false]
      exact ⟨this.1, this.2.1, by omega⟩
    | true =>
      obtain ⟨h1, h2, h3⟩ := hg s m h
      have := red_fold hg l (g s m).1 (g s m).2 h1
      rw [show ((g s m).1, (g s m).2) = g s m from rfl] at this
      simp only [if_true]
      exact ⟨this.1, by omega, by omega⟩
theorem red_bound {k : Wk} (hk : k.Three) : ∀ (f : Nat) (s : List Nd × Nat) (n : Nd), s.2 ≤ 300 → (redP k f s n).2.2 ≤ 300 ∧ s.2 ≤ (redP k f s n).2.2 ∧ (redP k f s n).2.1.length + 3 * s.2 ≤ s.1.length + 1 + 3 * (redP k f s n).2.2
  | f, s, n, h => by
    have ho := onceQ_len s.1 n
    unfold redP
    split
    · exact ⟨h, Nat.le_refl _, by simp <;> omega⟩
    · cases f with
      | zero => exact ⟨h, Nat.le_refl _, by simp <;> omega⟩
      | succ f =>
        simp only
        split
        · exact ⟨h, Nat.le_refl _, by simp <;> omega⟩
        · rename_i h3
          split
          · rename_i x hx
            split
            · exact ⟨by simp; omega, by simp, by simp; omega⟩
            · rename_i ms hms
              have h3l := hk n x ms (by rw [hx]; simp) hms
              have := red_fold (g := redP k f) (fun s m h => red_bound hk f s m h) ms true (s.1, s.2 + 1) (by simp; omega)
              simp only at this
              exact ⟨this.1, by omega, by omega⟩
          · exact ⟨h, Nat.le_refl _, by simp <;> omega⟩
/-- What a search found: a text, or the reason why it failed with the need at which it did. -/
inductive Fnd where
  | ok (s : List Nat)
  | no (why : List Nat) (n : Nd)
end Go.Sim

set_option linter.unusedVariables false
set_option linter.unusedSimpArgs false
set_option maxRecDepth 20000
namespace Go.Sim
open Go Go.RowKit

/-- What is told of a search in a world. -/
noncomputable def wk (w : Wd) : Wk := ⟨candW w, fun x t => needsW (insAt w x) t, mostI w⟩
theorem wk_three {w : Wd} (hw : worldOk w = true) : (wk w).Three := by
  intro n x ms hx hm
  obtain ⟨k, hk, rfl, _⟩ := ixs_mem hx
  have hm' : needsW (insAt w (k : Int)) n.2 = some ms := hm
  rw [insAt_of hk] at hm'
  exact (needsW_ok hw (List.getElem_mem hk) hm').1
/-- Nothing has turned but an object and a list that hangs on it. -/
structure FrS (i : Nat) (qa : Pt) (h h' : AHeap) (qa' : Pt) : Prop where
  le : h.length ≤ h'.length
  eq : ∀ j, j < h.length → j ≠ i → (∀ q, qa = some (q, 0) → j ≠ q) → h'[j]? = h[j]?
  pt : qa' = qa ∨ ∀ q, qa' = some (q, 0) → h.length ≤ q
theorem FrS.of_same {i : Nat} {qa : Pt} {h h' : AHeap} (s : Same h.length h h') : FrS i qa h h' qa := ⟨s.le, fun j hj _ _ => s.eq j hj, .inl rfl⟩
theorem FrS.refl (i : Nat) (qa : Pt) (h : AHeap) : FrS i qa h h qa := .of_same (Same.refl _ _)
theorem FrS.ne {i : Nat} {qa qa' : Pt} {h h' : AHeap} (f : FrS i qa h h' qa') {j : Nat} (hj : j < h.length) (hq : ∀ q, qa = some (q, 0) → j ≠ q) : ∀ q, qa' = some (q, 0) → j ≠ q := by
  intro q hq'
  rcases f.pt with e | e
  · exact hq q (e ▸ hq')
  · have := e q hq'; omega
theorem FrS.trans {i : Nat} {qa qa1 qa2 : Pt} {h h1 h2 : AHeap} (f : FrS i qa h h1 qa1) (g : FrS i qa1 h1 h2 qa2) : FrS i qa h h2 qa2 := by
  have := f.le; have := g.le
  refine ⟨by omega, fun j hj hi hq => ?_, ?_⟩
  · rw [g.eq j (by omega) hi (f.ne hj hq)]; exact f.eq j hj hi hq
  · rcases g.pt with e | e
    · rcases f.pt with e' | e'
      · exact .inl (e.trans e')
      · exact .inr fun q hq => e' q (e ▸ hq)
    · exact .inr fun q hq => by have := e q hq; omega
theorem FrS.set {i : Nat} {qa : Pt} {h : AHeap} {x : AObj} : FrS i qa h (h.set i x) qa := ⟨by simp, fun j _ hi _ => set_ne (fun e => hi e.symm), .inl rfl⟩
theorem FrS.but {i : Nat} {qa qa' : Pt} {h h' : AHeap} (s : But qa h h') (hp : qa' = qa ∨ ∀ q, qa' = some (q, 0) → h.length ≤ q) : FrS i qa h h' qa' := ⟨s.1, fun j hj _ hq => s.2 j hj hq, hp⟩
theorem FrS.get {i : Nat} {qa qa' : Pt} {h h' : AHeap} (f : FrS i qa h h' qa') {j : Nat} {x : AObj} (hj : h[j]? = some x) (hi : j ≠ i) (hq : ∀ q, qa = some (q, 0) → j ≠ q) : h'[j]? = some x := by rw [f.eq j (Own.lt hj) hi hq]; exact hj
theorem FrS.row {i : Nat} {qa qa' : Pt} {h h' : AHeap} (f : FrS i qa h h' qa') {a : Pt} {n : Nat} {cs : List AVal} (r : Row h.length h a n cs) (hn : ∀ j o, n ≠ 0 → a = some (j, o) → j ≠ i ∧ ∀ q, qa = some (q, 0) → j ≠ q) : Row h'.length h' a n cs := by
  obtain ⟨hl, r⟩ := r
  by_cases h0 : n = 0
  · exact ⟨hl, .inl h0⟩
  · refine ⟨hl, r.imp id ?_⟩
    rintro ⟨j, o', t, all, ro, ha, hi, hg, x⟩
    have := f.le
    obtain ⟨h1, h2⟩ := hn j o' h0 ha
    exact ⟨j, o', t, all, ro, ha, by omega, by rw [f.eq j hi h1 h2]; exact hg, x⟩
theorem FrS.below {i b : Nat} {qa qa' : Pt} {h h' : AHeap} (f : FrS i qa h h' qa') (hb : b ≤ h.length) (hi : b ≤ i) (hq : ∀ q, qa = some (q, 0) → b ≤ q) : Same b h h' := ⟨f.le, fun j hj => f.eq j (by omega) (by omega) fun q hq' => by have := hq q hq'; omega⟩
/-- A reducer in memory. -/
structure RdS (t : TypeId) (hb : AHeap) (i : Nat) (u v : AVal) (h : AHeap) (qa : Pt) (s : List Nd × Nat) : Prop where
  same : Same hb.length hb h
  ge : hb.length ≤ i
  ob : ∃ qn qc qe, h[i]? = some (.cells t [u, v, .slice qa qn qc qe, .int .i64 (s.2 : Int)] false) ∧ NVec hb.length h qa qn qc s.1
  ne : ∀ q, qa = some (q, 0) → q ≠ i
theorem RdS.step {t : TypeId} {hb : AHeap} {i : Nat} {u v : AVal} {h h' : AHeap} {qa : Pt} {s : List Nd × Nat} (r : RdS t hb i u v h qa s) (k : Same h.length h h') : RdS t hb i u v h' qa s := by
  obtain ⟨qn, qc, qe, ho, hv⟩ := r.ob
  exact ⟨r.same.trans (k.mono r.same.le), r.ge, ⟨qn, qc, qe, k.get ho (Own.lt ho), hv.same k⟩, r.ne⟩
theorem RdS.lt {t : TypeId} {hb : AHeap} {i : Nat} {u v : AVal} {h : AHeap} {qa : Pt} {s : List Nd × Nat} (r : RdS t hb i u v h qa s) : i < h.length := by obtain ⟨_, _, _, ho, _⟩ := r.ob; exact Own.lt ho
theorem RdS.low {t : TypeId} {hb : AHeap} {i : Nat} {u v : AVal} {h : AHeap} {qa : Pt} {s : List Nd × Nat} (r : RdS t hb i u v h qa s) : ∀ q, qa = some (q, 0) → hb.length ≤ q ∧ q < h.length := by
  obtain ⟨qn, qc, qe, ho, hv⟩ := r.ob
  exact fun q hq => ⟨hv.low q hq, hv.vec.lt' hq⟩
/-- The object is written anew. -/
theorem RdS.write {t : TypeId} {hb : AHeap} {i : Nat} {u v : AVal} {h : AHeap} {qa' : Pt} {qn qc : Nat} {qe : Bool} {x : AObj} {l : List Nd} {m : Nat} (sm : Same hb.length hb h) (ge : hb.length ≤ i) (ho : h[i]? = some x)
    (hv : NVec hb.length h qa' qn qc l) (ne : ∀ q, qa' = some (q, 0) → q ≠ i) : RdS t hb i u v (h.set i (.cells t [u, v, .slice qa' qn qc qe, .int .i64 (m : Int)] false)) qa' (l, m) := by
  refine ⟨⟨by simp; exact sm.le, fun j hj => by rw [set_ne (by omega)]; exact sm.eq j hj⟩, ge, ⟨qn, qc, qe, set_get ho, ⟨?_, hv.len, hv.low⟩⟩, ne⟩
  exact hv.vec.agree fun j hj => set_ne (fun e => ne j hj e.symm)
theorem isVarS_cons {t : List Nat} (h : tyOk t = true) : ∃ c r, t = c :: r ∧ isVarS t = isVarN c := by
  obtain ⟨u, hu, rfl, _⟩ := tyOk_iff.1 h
  obtain ⟨r, hr⟩ := u.txt_cons
  refine ⟨u.hd, r, hr, ?_⟩
  have := var_hd h
  rw [hr] at this ⊢; exact this
theorem redP_var {k : Wk} (f : Nat) {s : List Nd × Nat} {n : Nd} (hv : isVarS n.2 = true) : redP k f s n = (true, (onceQ s.1 n, s.2)) := by cases f <;> (unfold redP; rw [if_pos hv])
theorem redP_big {k : Wk} (f : Nat) {s : List Nd × Nat} {n : Nd} (hv : isVarS n.2 = false) (h : 300 ≤ s.2) : redP k f s n = (false, s) := by
  cases f <;> (unfold redP; simp [hv, h])
theorem redP_deep {k : Wk} {s : List Nd × Nat} {n : Nd} (hv : isVarS n.2 = false) : redP k 0 s n = (false, s) := by unfold redP; simp [hv]
theorem redP_none {k : Wk} (f : Nat) {s : List Nd × Nat} {n : Nd} (hv : isVarS n.2 = false) (hc : ∀ x, k.cand n ≠ [x]) : redP k f s n = (false, s) := by
  cases f with
  | zero => exact redP_deep hv
  | succ f =>
    by_cases h : 300 ≤ s.2
    · exact redP_big _ hv h
    · unfold redP
      simp only [hv, Bool.false_eq_true, if_false, if_neg h]
theorem redP_go {k : Wk} {f : Nat} {s : List Nd × Nat} {n : Nd} {x : Int} (hv : isVarS n.2 = false) (h : ¬ 300 ≤ s.2) (hc : k.cand n = [x]) : redP k (f + 1) s n =
    ((k.needs x n.2).getD []).foldl (fun r m => if r.1 then redP k f r.2 m else r) ((k.needs x n.2).isSome, (s.1, s.2 + 1)) := by
  conv => lhs; unfold redP
  simp only [hv, Bool.false_eq_true, if_false, if_neg h, hc]
  cases k.needs x n.2 <;> rfl
/-- What a reduction leaves. -/
def RedQ (t : TypeId) (hb : AHeap) (i : Nat) (u v : AVal) (h : AHeap) (qa : Pt) (r : Bool × (List Nd × Nat)) (x : AVal) (h' : AHeap) : Prop := ∃ qa', x = .bool r.1 ∧ RdS t hb i u v h' qa' r.2 ∧ FrS i qa h h' qa'
/-- One need more on the list. -/
theorem redVar {hb : AHeap} {u v : AVal} {h h2 : AHeap} {i : Nat} {qa : Pt} {s : List Nd × Nat} {n : Nd} (rd : RdS t_impl_reduction hb i u v h qa s) (s2 : Same h.length h h2) (hl : s.1.length ≤ 524288) {p0 p1 : Nat} (hp0 : h2[p0]? = some (.cells t_P_impl_reduction [.ptr (some (i, 0))] false)) (hp1 : h2[p1]? = some (.cells t_impl_Need [.str n.1, .str n.2] false)) (hp0' : h.length ≤ p0) (K : AVal → AHeap → Prop)
    (hK : ∀ h3 qa', RdS t_impl_reduction hb i u v h3 qa' (onceP s.1 n, s.2) → FrS i qa h h3 qa' → K (.bool true) h3) :
    xPtr (hCell h2 (.ptr (some (p0, 0)))) fun a_7 => xPtr (hCell h2 (.ptr (some (p0, 0)))) fun a_8 => xSome a_8 fun i_9 o_10 => xSl (hCell h2 (.ptr (some (i_9, o_10 + 2)))) fun a_11 n_12 c_13 e_14 => xRow (hRow h2 (.ptr (some (p1, 0))) 2) fun cs_15 => xCons cs_15 fun c_16 r_17 => xStr (some c_16) fun s_18 => xCons r_17 fun c_19 r_20 => xStr (some c_19) fun s_21 => xNil r_20 (letH (h2 ++ [.cells t_impl_Need [.str s_18, .str s_21] false]) fun h_22 => (hCell h_22 (.ptr (some (i_9, o_10 + 2))) = hCell h2 (.ptr (some (i_9, o_10 + 2)))) ∧ (hCell h_22 (.ptr (some (p0, 0))) = hCell h2 (.ptr (some (p0, 0)))) ∧ (hCell h_22 (.ptr (some (p0, 0))) = hCell h2 (.ptr (some (p0, 0)))) ∧ SCall pg n_impl_once [.slice a_11 n_12 c_13 e_14, .slice (some (List.length h2, 0)) 1 1 true] h_22 fun v_23 h_24 =>
 xSl (some v_23) fun a_25 n_26 c_27 e_28 => (hCell h_24 (.ptr (some (p0, 0))) = hCell h_22 (.ptr (some (p0, 0)))) ∧ (hCell h_24 (.ptr (some (p0, 0))) = hCell h_22 (.ptr (some (p0, 0)))) ∧ xSome a_7 fun i_29 o_30 => xHeap (hStore h_24 (.ptr (some (i_29, o_30 + 2))) [.slice a_25 n_26 c_27 e_28]) fun h_31 => K (.bool true) h_31) := by
  have rd2 := rd.step s2
  obtain ⟨qn, qc, qe, ho, hv⟩ := rd2.ob
  have hlow := rd.low
  have hle2 := s2.le
  have hil := rd.lt
  simp only [hCell_of hp0, hCell_of hp1, hCell_of ho, row_all2 hp1, Nat.zero_add, List.getElem?_cons_succ, List.getElem?_cons_zero, xPtr_some, xSome_some, xSl_some, xRow_some, xCons_cons, xNil_nil, xStr_some, letH_def, true_and]
  generalize hq : h2 ++ [AObj.cells t_impl_Need [.str n.1, .str n.2] false] = h3
  have s3 : Same h2.length h2 h3 := by rw [← hq]; exact same_last
  have o3 := s3.get ho (Own.lt ho)
  have p3 := s3.get hp0 (Own.lt hp0)
  have oq : h3[h2.length]? = some (.cells t_impl_Need [.str n.1, .str n.2] false) := by rw [← hq]; simp
  refine ⟨by rw [hCell_of o3]; rfl, by rw [hCell_of p3]; rfl, by rw [hCell_of p3]; rfl, ?_⟩
  have hl3 := s3.le
  have hr1 : Row h3.length h3 (some (h2.length, 0)) (1 * 2) (flat eP [n]) := ⟨rfl, .inr ⟨h2.length, 0, _, _, _, rfl, Own.lt oq, oq, by simp, by simp [eP]⟩⟩
  have hvl := hv.len
  refine (once_ok (x := n) (hv.same s3) (by have := rd.same.le; omega) (by omega) hr1).mono ?_
  rintro v4 h4 ⟨a4, n4, c4, e4, rfl, hv4, hbut, hpt⟩
  have hqn : ∀ j, j < h3.length → (∀ q, qa = some (q, 0) → j ≠ q) → h4[j]? = h3[j]? := fun j hj hne => hbut.2 j hj hne
  have p4 : h4[p0]? = some (.cells t_P_impl_reduction [.ptr (some (i, 0))] false) := by rw [hqn _ (Own.lt p3) fun q hq => by have := (hlow q hq).2; omega]; exact p3
  have o4 : h4[i]? = some (.cells t_impl_reduction [u, v, .slice qa qn qc qe, .int .i64 (s.2 : Int)] false) := by rw [hqn _ (Own.lt o3) fun q hq => by have := rd.ne q hq; omega]; exact o3
  simp only [xSl_some, hCell_of p3, hCell_of p4, List.getElem?_cons_zero, true_and]
  rw [hStore_of o4 (by simp)]
  simp only [xHeap_some, putRow, List.take_succ_cons, List.take_zero, List.length_cons, List.length_nil, List.drop_succ_cons, List.drop_zero, List.drop_nil, List.cons_append, List.nil_append, List.append_nil]
  have hne4 : ∀ q, a4 = some (q, 0) → q ≠ i := fun q hq => by
    rcases hpt with e | e
    · exact rd.ne q (e ▸ hq)
    · have := e q hq; omega
  have same4 : Same hb.length hb h4 := by
    have := hbut.below (b := hb.length) (by have := rd.same.le; omega) (fun q hq => (hlow q hq).1)
    exact (rd2.step s3).same.trans this
  have F : FrS i qa h h4 a4 := (FrS.of_same (s2.cat s3)).trans (FrS.but hbut hpt)
  exact hK _ a4 (RdS.write same4 rd.ge o4 hv4 hne4) (F.trans FrS.set)
/-- The reduction with that much fuel does as told. -/
def RedC (f : Nat) (m : FuncId) (t : TypeId) (hb : AHeap) (a0 a1 : Pt) (n0 c0 n1 c1 : Nat) (e0 e1 : Bool) (w : Wd) : Prop := ∀ {h : AHeap} {i : Nat} {qa : Pt} {s : List Nd × Nat} {n : Nd}, RdS t hb i (.slice a0 n0 c0 e0) (.slice a1 n1 c1 e1) h qa s → s.1.length ≤ 3 * s.2 → s.2 ≤ 300 → needOkW w n = true → f ≤ 31 →
      SCall pg m [.ptr (some (i, 0)), .agg [.str n.1, .str n.2], .int .i64 (31 - (f : Int))] h (RedQ t hb i (.slice a0 n0 c0 e0) (.slice a1 n1 c1 e1) h qa (redP (wk w) f s n))
theorem needs_all {w : Wd} (hw : worldOk w = true) {n : Nd} {k : Nat} (hk : k < w.is.length) {ms : List Nd} (h : needsW w.is[k] n.2 = some ms) : ms.length ≤ 3 ∧ ∀ m ∈ ms, needOkW w m = true := by
  have := needsW_ok hw (List.getElem_mem hk) h
  exact ⟨this.1, this.2⟩
theorem reduce_step {hb : AHeap} {a0 a1 : Pt} {n0 c0 n1 c1 : Nat} {e0 e1 : Bool} {w : Wd} (r : WRep hb a0 n0 c0 a1 n1 c1 w) (b : WB w) (hw : worldOk w = true) (f : Nat)
    (ih : ∀ f', f = f' + 1 → RedC f' n_impl_reduction_reduce t_impl_reduction hb a0 a1 n0 c0 n1 c1 e0 e1 w) : RedC f n_impl_reduction_reduce t_impl_reduction hb a0 a1 n0 c0 n1 c1 e0 e1 w := by
  intro h i qa s n rd hlen hs2 hnd hf
  apply F_impl_reduction_reduce.call
  simp only [letH_def]
  generalize hh0 : h ++ [AObj.cells t_P_impl_reduction [.ptr (some (i, 0))] false] = h0
  generalize hh1 : h0 ++ [AObj.cells t_impl_Need [.str n.1, .str n.2] false] = h1
  generalize hh2 : h1 ++ [AObj.cells t_int [.int .i64 (31 - (f : Int))] false] = h2
  have s0 : Same h.length h h0 := by rw [← hh0]; exact same_last
  have s1 : Same h0.length h0 h1 := by rw [← hh1]; exact same_last
  have s2 : Same h1.length h1 h2 := by rw [← hh2]; exact same_last
  have l0 : h0.length = h.length + 1 := by rw [← hh0]; simp
  have l1 : h1.length = h0.length + 1 := by rw [← hh1]; simp
  have l2 : h2.length = h1.length + 1 := by rw [← hh2]; simp
  have p0 : h0[h.length]? = some (.cells t_P_impl_reduction [.ptr (some (i, 0))] false) := by rw [← hh0]; simp
  have p0 := s2.get (s1.get p0 (Own.lt p0)) (by have := Own.lt p0; omega)
  have p1 : h1[h0.length]? = some (.cells t_impl_Need [.str n.1, .str n.2] false) := by rw [← hh1]; simp
  have p1 := s2.get p1 (Own.lt p1)
  have p2 : h2[h1.length]? = some (.cells t_int [.int .i64 (31 - (f : Int))] false) := by rw [← hh2]; simp
  have S2 := (s0.cat s1).cat s2
  have hil := rd.lt
  have hlow := rd.low
  simp only [hCell_of p1, Nat.zero_add, List.getElem?_cons_succ, List.getElem?_cons_zero, xStr_some, true_and]
  refine (isVar_ok n.2).mono ?_
  rintro v h3 ⟨rfl, rfl⟩
  simp only [xBool_some]
  refine bcase_intro (fun hv => ?_) (fun hv => ?_)
  · rw [redP_var f hv]
    exact redVar rd S2 (by omega) p0 p1 (Nat.le_refl _) (fun x h' => RedQ t_impl_reduction hb i _ _ h qa (true, (onceQ s.1 n, s.2)) x h') fun h3 qa' hr hF => ⟨qa', rfl, hr, hF⟩
  · have rd2 := rd.step S2
    obtain ⟨qn, qc, qe, ho, hvv⟩ := rd2.ob
    have r2 := r.same rd2.same
    simp only [hCell_of p0, List.getElem?_cons_zero, xPtr_some, xSome_some, hRow_of ho (show 0 + 0 + 2 ≤ _ by simp), row_all2 p1, List.drop_zero, List.take_succ_cons, List.take_zero, xRow_some, xCons_cons, xNil_nil, xSl_some, xStr_some, true_and]
    refine (candidates_ok (nd := n) r2 b).mono ?_
    rintro v h4 ⟨s4, ca, cn, cc, ce, rfl, fc⟩
    have rd4 := rd2.step s4
    have S4 := S2.cat s4
    have q0 := s4.get p0 (Own.lt p0)
    have q1 := s4.get p1 (Own.lt p1)
    have q2 := s4.get p2 (Own.lt p2)
    have o4 := s4.get ho (Own.lt ho)
    have hcl := fc.1
    have l4 := s4.le
    simp only [xSl_some, hCell_of q0, hCell_of q2, hCell_of o4, Nat.zero_add, List.getElem?_cons_succ, List.getElem?_cons_zero, xPtr_some, xSome_some, xInt_some, true_and]
    have F4 : FrS i qa h h4 qa := FrS.of_same S4
    refine bcase_dec (fun h300 => ?_) (fun h300 => ?_)
    · rw [redP_big f hv (by omega)]
      exact ⟨qa, rfl, rd4, F4⟩
    refine bcase_dec (fun hd => ?_) (fun hd => ?_)
    · have : f = 0 := by omega
      subst this
      rw [redP_deep hv]
      exact ⟨qa, rfl, rd4, F4⟩
    refine bcase_nbeq (fun hn1 => ?_) (fun hn1 => ?_)
    · have : ∀ x, (wk w).cand n ≠ [x] := fun x hx => by
        have hx' : candW w n = [x] := hx
        rw [hx'] at hcl; simp at hcl; omega
      rw [redP_none f hv this]
      exact ⟨qa, rfl, rd4, F4⟩
    · obtain ⟨f', rfl⟩ : ∃ f', f = f' + 1 := ⟨f - 1, by omega⟩
      have ih := @ih f' rfl
      obtain ⟨x, hx⟩ : ∃ x, candW w n = [x] := by
        match hc : candW w n with
        | [] => rw [hc] at hcl; simp at hcl; omega
        | [x] => exact ⟨x, rfl⟩
        | _ :: _ :: _ => rw [hc] at hcl; simp at hcl; omega
      rw [redP_go hv (by omega) (show (wk w).cand n = [x] from hx)]
      obtain ⟨k, hk, rfl, _⟩ := ixs_mem (show x ∈ ixs (candF n) w.is by show x ∈ candW w n; rw [hx]; simp)
      have hneeds : (wk w).needs (k : Int) n.2 = needsW w.is[k] n.2 := by show needsW (insAt w (k : Int)) n.2 = _; rw [insAt_of hk]
      rw [hneeds]
      apply F_impl_reduction_reduce.J7i
      simp only [hCell_of q0, hCell_of o4, Nat.zero_add, List.getElem?_cons_succ, List.getElem?_cons_zero, xPtr_some, xSome_some, xInt_some]
      rw [wrap_nat (by omega), hStore_of o4 (by simp)]
      simp only [xHeap_some, putRow, List.take_succ_cons, List.take_zero, List.length_cons, List.length_nil, List.drop_succ_cons, List.drop_zero, List.drop_nil, List.cons_append, List.nil_append, List.append_nil]
      obtain ⟨qn4, qc4, qe4, ho4, hv4⟩ := rd4.ob
      rw [ho4] at o4
      simp only [Option.some.injEq, AObj.cells.injEq, List.cons.injEq, AVal.slice.injEq, true_and, and_true] at o4
      obtain ⟨rfl, rfl, rfl⟩ := o4
      have rd5 : RdS t_impl_reduction hb i (.slice a0 n0 c0 e0) (.slice a1 n1 c1 e1) (h4.set i (.cells t_impl_reduction [.slice a0 n0 c0 e0, .slice a1 n1 c1 e1, .slice qa qn4 qc4 qe4, .int .i64 ((s.2 + 1 : Nat) : Int)] false)) qa (s.1, s.2 + 1) := RdS.write rd4.same rd4.ge ho4 hv4 rd4.ne
      have F5 : FrS i qa h (h4.set i (.cells t_impl_reduction [.slice a0 n0 c0 e0, .slice a1 n1 c1 e1, .slice qa qn4 qc4 qe4, .int .i64 ((s.2 + 1 : Nat) : Int)] false)) qa := F4.trans FrS.set
      generalize hh5 : h4.set i (.cells t_impl_reduction [.slice a0 n0 c0 e0, .slice a1 n1 c1 e1, .slice qa qn4 qc4 qe4, .int .i64 ((s.2 + 1 : Nat) : Int)] false) = h5 at rd5 F5 ⊢
      have keep5 : ∀ j y, h4[j]? = some y → j ≠ i → h5[j]? = some y := fun j y hj hne => by rw [← hh5, set_ne (by omega)]; exact hj
      have o5 : h5[i]? = some (.cells t_impl_reduction [.slice a0 n0 c0 e0, .slice a1 n1 c1 e1, .slice qa qn4 qc4 qe4, .int .i64 ((s.2 + 1 : Nat) : Int)] false) := by rw [← hh5]; exact set_get ho4
      have m0 := keep5 _ _ q0 (by omega)
      have m1 := keep5 _ _ q1 (by omega)
      have m2 := keep5 _ _ q2 (by omega)
      have l5 : h5.length = h4.length := by rw [← hh5]; simp
      have fc5 : FreshR t_int eI h3.length h5 ca cn (candW w n) := ⟨fc.1, fc.2.imp id fun ⟨j, hj1, hj2, hj3⟩ => ⟨j, hj1, hj2, keep5 _ _ hj3 (by omega)⟩⟩
      obtain ⟨ic, oc, hkc, rfl, _, hcell⟩ := Row.el1 eI_len (by simpa using FreshR.row eI_len fc5) (k := 0) (by omega)
      have hcell0 : hCell h5 (.ptr (some (ic, oc + (Int.toNat 0) * 1))) = some (.int .i64 (k : Int)) := by
        rw [show Int.toNat 0 = 0 from rfl, hcell]; simp only [hx]; rfl
      obtain ⟨ii, oi, hki, na, nn, ncp, ne, rfl, _, hri, _, _, _, hrow, hnl⟩ := (r.same rd5.same).inst (k := k) (by have := r.len1; omega)
      have hbk := b.is _ (List.getElem_mem hk)
      have hl1 := r.len1
      simp only [xSome_some, hCell_of m0, hCell_of m1, hCell_of o5, Nat.zero_add, List.getElem?_cons_succ, List.getElem?_cons_zero, xPtr_some, xSl_some, hcell0, xInt_some, Int.toNat_natCast, hri, xRow_some, xCons_cons, xNil_nil, xStr_some, true_and]
      refine ⟨by omega, by omega, ?_⟩
      refine (needs_ok (i := w.is[k]) (t := n.2) hrow (by omega)).mono ?_
      rintro v h6 ⟨s6, ma, mn, mc, me, rfl, fm⟩
      have rd6 := rd5.step s6
      have F6 : FrS i qa h h6 qa := F5.trans (FrS.of_same s6)
      have m0 := s6.get m0 (Own.lt m0)
      have m1 := s6.get m1 (Own.lt m1)
      have m2 := s6.get m2 (Own.lt m2)
      have o6 := s6.get o5 (Own.lt o5)
      have hcell6 : hCell h6 (.ptr (some (ic, oc + (Int.toNat 0) * 1))) = some (.int .i64 (k : Int)) := by
        obtain ⟨ic', oc', _, he', _, hcell'⟩ := Row.el1 eI_len (by simpa using FreshR.row eI_len (fc5.same s6)) (k := 0) (by omega)
        cases he'
        rw [show Int.toNat 0 = 0 from rfl, hcell']; simp only [hx]; rfl
      have l6 := s6.le
      simp only [xTup_tup, xCons_cons, xSl_some, xBool_some, xNil_nil, hCell_of m0, hCell_of o6, hCell_of (s6.get (show h5[i]? = _ from o5) (Own.lt o5))]
      refine ⟨hcell6, rfl, rfl, ?_⟩
      have hms : ((needsW w.is[k] n.2).getD []).length ≤ 3 ∧ ∀ m ∈ (needsW w.is[k] n.2).getD [], needOkW w m = true := by
        cases hm : needsW w.is[k] n.2 with
        | none => exact ⟨by simp, fun m hm => by simp at hm⟩
        | some ms => exact needs_all hw hk hm
      generalize hgm : (needsW w.is[k] n.2).getD [] = ms at fm hms ⊢
      generalize hgs : (needsW w.is[k] n.2).isSome = ok at hgm ⊢
      refine bcase_intro (fun hok => ?_) (fun hok => ?_)
      · subst hok
        have hfl : ∀ g, ((ms.take g).foldl (fun r m => if r.1 then redP (wk w) f' r.2 m else r) (true, (s.1, s.2 + 1))).2.2 ≤ 300 ∧ ((ms.take g).foldl (fun r m => if r.1 then redP (wk w) f' r.2 m else r) (true, (s.1, s.2 + 1))).2.1.length ≤ 3 * ((ms.take g).foldl (fun r m => if r.1 then redP (wk w) f' r.2 m else r) (true, (s.1, s.2 + 1))).2.2 := by
          intro g
          have := red_fold (g := redP (wk w) f') (fun s m h => red_bound (wk_three hw) f' s m h) (ms.take g) true (s.1, s.2 + 1) (by simp; omega)
          simp only at this
          have hlt : (ms.take g).length ≤ 3 := by rw [List.length_take]; omega
          exact ⟨this.1, by omega⟩
        apply F_slices_ContainsFunc_L_impl_Need_impl_Need__impl_reduction_reduce_lit1.call
        apply F_slices_IndexFunc_L_impl_Need_impl_Need__impl_reduction_reduce_lit1.call
        have hmn := fm.1
        refine F_slices_IndexFunc_L_impl_Need_impl_Need__impl_reduction_reduce_lit1.L2ind _ _ _ _ _ _ _ _ (J := fun (g : Nat) x8 h' => x8 = (g : Int) ∧ g ≤ mn ∧ ((ms.take g).foldl (fun r m => if r.1 then redP (wk w) f' r.2 m else r) (true, (s.1, s.2 + 1))).1 = true ∧ ∃ qa', RdS t_impl_reduction hb i (.slice a0 n0 c0 e0) (.slice (some (ii, oi)) n1 c1 e1) h' qa' ((ms.take g).foldl (fun r m => if r.1 then redP (wk w) f' r.2 m else r) (true, (s.1, s.2 + 1))).2 ∧ FrS i qa h6 h' qa') (fun g => mn - g) ?_ 0 _ _ ⟨rfl, by omega, rfl, qa, by simpa using rd6, FrS.refl _ _ _⟩
        rintro g x8 h' ⟨rfl, hg, htrue, qa', rdg, Fg⟩ R hR
        obtain ⟨hb1, hb2⟩ := hfl g
        unfold F_slices_IndexFunc_L_impl_Need_impl_Need__impl_reduction_reduce_lit1.L2t
        have hne0 : ∀ j, h3.length ≤ j + 3 → j < h3.length → j ≠ i ∧ ∀ q, qa = some (q, 0) → j ≠ q := fun j hj1 hj2 => ⟨by omega, fun q hq => by have := (hlow q hq).2; omega⟩
        refine bcase_dec (fun hlt => ?_) (fun hge => ?_)
        · have fmg : Row h'.length h' ma (mn * 2) (flat eP ms) := Fg.row (fm.row eP_len) fun j o hn ha => by
            obtain ⟨_, h0 | ⟨j', hj', hb', _⟩⟩ := fm
            · omega
            · rw [ha] at hj'
              cases hj'
              have := l5
              exact ⟨by omega, fun q hq => by have := (hlow q hq).2; omega⟩
          obtain ⟨im, om, hgl, rfl, _, hrm, _⟩ := fmg.pr (k := g) (by omega)
          simp only [xSome_some, Int.toNat_natCast, hrm, xRow_some, xCons_cons, xNil_nil, xStr_some]
          refine ⟨by omega, ?_⟩
          apply F_impl_reduction_reduce_lit1.call
          simp only [letH_def]
          generalize hh7 : h' ++ [AObj.cells t_impl_Need [.str ms[g].1, .str ms[g].2] false] = h7
          have s7 : Same h'.length h' h7 := by rw [← hh7]; exact same_last
          have o7 : h7[h'.length]? = some (.cells t_impl_Need [.str ms[g].1, .str ms[g].2] false) := by rw [← hh7]; simp
          have g0 := s7.get (Fg.get m0 (hne0 _ (by omega) (by omega)).1 (hne0 _ (by omega) (by omega)).2) (Own.lt (Fg.get m0 (hne0 _ (by omega) (by omega)).1 (hne0 _ (by omega) (by omega)).2))
          have g2 := s7.get (Fg.get m2 (hne0 _ (by omega) (by omega)).1 (hne0 _ (by omega) (by omega)).2) (Own.lt (Fg.get m2 (hne0 _ (by omega) (by omega)).1 (hne0 _ (by omega) (by omega)).2))
          simp only [hCell_of g0, hCell_of g2, row_all2 o7, List.getElem?_cons_zero, xPtr_some, xRow_some, xCons_cons, xNil_nil, xStr_some, xInt_some]
          rw [show IntKind.wrap .i64 (31 - ((f' + 1 : Nat) : Int) + 1) = 31 - (f' : Int) by
            have := IntWalk.i64_in (31 - ((f' + 1 : Nat) : Int) + 1) (by omega)
            rw [this]; omega]
          have hstep := red_take (redP (wk w) f') ms (true, (s.1, s.2 + 1)) g hgl
          simp only [htrue, if_true] at hstep
          refine (ih (n := ms[g]) (rdg.step s7) hb2 hb1 (hms.2 _ (List.getElem_mem hgl)) (by omega)).mono ?_
          rintro v h8 ⟨qa8, rfl, rd8, F8⟩
          have F8' := (Fg.trans (FrS.of_same s7)).trans F8
          simp only [xBool_some]
          refine bcase_not (fun hbb => ?_) (fun hbb => ?_)
          · have hz : (redP (wk w) f' ((ms.take g).foldl (fun r m => if r.1 then redP (wk w) f' r.2 m else r) (true, (s.1, s.2 + 1))).2 ms[g]) = (false, (redP (wk w) f' ((ms.take g).foldl (fun r m => if r.1 then redP (wk w) f' r.2 m else r) (true, (s.1, s.2 + 1))).2 ms[g]).2) := Prod.ext hbb rfl
            have hall := red_false (redP (wk w) f') ms (true, (s.1, s.2 + 1)) (g + 1) (hstep.trans hz)
            rw [hall]
            exact ⟨qa8, by simp, rd8, F6.trans F8'⟩
          · rw [wrap_nat (by omega)]
            refine hR (g + 1) _ _ (by omega) ⟨rfl, by omega, by rw [hstep]; exact hbb, qa8, by rw [hstep]; exact rd8, F8'⟩
        · apply F_slices_IndexFunc_L_impl_Need_impl_Need__impl_reduction_reduce_lit1.A2x0i
          have : g = mn := by omega
          subst this
          rw [List.take_of_length_le (by omega)] at htrue rdg
          simp only [xInt_some]
          exact ⟨qa', by rw [htrue]; rfl, rdg, F6.trans Fg⟩
      · subst hok
        rw [show ms = [] from by rw [← hgm]; cases hh : needsW w.is[k] n.2 <;> simp_all]
        exact ⟨qa, rfl, rd6, F6⟩
theorem reduce_ok {hb : AHeap} {a0 a1 : Pt} {n0 c0 n1 c1 : Nat} {e0 e1 : Bool} {w : Wd} (r : WRep hb a0 n0 c0 a1 n1 c1 w) (b : WB w) (hw : worldOk w = true) : ∀ f, RedC f n_impl_reduction_reduce t_impl_reduction hb a0 a1 n0 c0 n1 c1 e0 e1 w
  | 0 => reduce_step r b hw 0 fun f' h => by omega
  | f + 1 => reduce_step r b hw (f + 1) fun f' h => by cases h; exact reduce_ok r b hw f

end Go.Sim
