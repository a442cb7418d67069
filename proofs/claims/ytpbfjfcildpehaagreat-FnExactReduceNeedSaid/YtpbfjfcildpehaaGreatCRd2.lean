/- A part of the proof of a statement of this seat: see the text that holds the theorem. No condition. -/
import Derived.Test.YtpbfjfcildpehaaGreatPTCSApply2
import Derived.Test.YtpbfjfcildpehaaGreatCReduce
import Derived.Test.YtpbfjfcildpehaaGreatPTCAll2
import Derived.Test.YtpbfjfcildpehaaGreatNm
import Derived.Test.YtpbfjfcildpehaaGreatPTCMarkW
import Derived.Test.YtpbfjfcildpehaaGreatPSearch
set_option linter.unusedVariables false
set_option linter.unusedSimpArgs false
set_option linter.all false
set_option linter.unusedVariables false
set_option linter.unusedSimpArgs false
set_option maxRecDepth 20000
namespace Go.Sim
open Go Go.RowKit

theorem needOkW_ty {w : Wd} {n : Nd} (h : needOkW w n = true) : tyOk n.2 = true ∧ n.2.length ≤ 60 := by
  have : tyOk n.2 = true := by
    unfold needOkW at h
    simp only [Bool.and_eq_true] at h
    exact h.2
  exact ⟨this, (tyOk_len this)⟩
theorem sReduce_step {hb : AHeap} {a0 a1 : Pt} {n0 c0 n1 c1 : Nat} {e0 e1 : Bool} {w : Wd} (r : WRep hb a0 n0 c0 a1 n1 c1 w) (b : WB w) (hw : worldOk w = true) (f : Nat)
    (ih : ∀ f', f = f' + 1 → RedC f' n_spec_l9Reducer_reduce t_spec_l9Reducer hb a0 a1 n0 c0 n1 c1 e0 e1 w) : RedC f n_spec_l9Reducer_reduce t_spec_l9Reducer hb a0 a1 n0 c0 n1 c1 e0 e1 w := by
  intro h i qa s n rd hlen hs2 hnd hf
  have hty := needOkW_ty hnd
  apply F_spec_l9Reducer_reduce.call
  simp only [letH_def]
  generalize hh0 : h ++ [AObj.cells t_impl_Need [.str n.1, .str n.2] false] = h0
  have s0 : Same h.length h h0 := by rw [← hh0]; exact same_last
  have l0 : h0.length = h.length + 1 := by rw [← hh0]; simp
  have p1 : h0[h.length]? = some (.cells t_impl_Need [.str n.1, .str n.2] false) := by rw [← hh0]; simp
  have hil := rd.lt
  have hlow := rd.low
  obtain ⟨vc, vr, hnc, hvv⟩ := isVarS_cons hty.1
  simp only [hCell_of p1, Nat.zero_add, List.getElem?_cons_succ, List.getElem?_cons_zero, xStr_some, true_and]
  rw [hnc]
  refine ⟨⟨by omega, by simp⟩, ?_⟩
  simp only [Int.toNat_zero, List.getD_cons_zero]
  refine (l1Variable_ok vc).mono ?_
  rintro v h3 ⟨rfl, rfl⟩
  have rd2 := rd.step s0
  obtain ⟨qn, qc, qe, ho, hvec⟩ := rd2.ob
  have r2 := r.same rd2.same
  simp only [xBool_some]
  rw [← hvv]
  refine bcase_intro (fun hv => ?_) (fun hv => ?_)
  · rw [redP_var f hv]
    have hvl := hvec.len
    simp only [xSome_some, hCell_of ho, row_all2 p1, Nat.zero_add, List.getElem?_cons_succ, List.getElem?_cons_zero, xSl_some, xRow_some, xCons_cons, xNil_nil, xStr_some, true_and]
    refine (l9In_ok (x := n) hvec.row (by omega)).mono ?_
    rintro v h4 ⟨rfl, s4⟩
    have o4 := s4.get ho (Own.lt ho)
    have p4 := s4.get p1 (Own.lt p1)
    have rd4 := rd2.step s4
    have l4 := s4.le
    simp only [xBool_some]
    refine bcase_not (fun hm => ?_) (fun hm => ?_)
    · simp only [xSome_some, hCell_of o4, row_all2 p4, Nat.zero_add, List.getElem?_cons_succ, List.getElem?_cons_zero, xSl_some, xRow_some, xCons_cons, xNil_nil, xStr_some, true_and]
      have hnm : onceQ s.1 n = s.1 ++ [n] := by unfold onceQ; rw [if_neg (by simpa using hm)]
      have s5 : Same h4.length h4 (h4 ++ [AObj.cells t_impl_Need [.str n.1, .str n.2] false]) := same_last
      have o5 := s5.get o4 (Own.lt o4)
      refine ⟨by rw [hCell_of o5]; rfl, ?_⟩
      have hv4 := hvec.same s4
      refine hv4.vec.pushN u_L_Need c_Need k_Need b_Need (by rw [flat_length eP_len, hv4.len]) rfl (by omega) rfl (by omega) (fun h6 hl6 hi6 hk6 => ?_)
      have o6 : h6[i]? = some (.cells t_spec_l9Reducer [.slice a0 n0 c0 e0, .slice a1 n1 c1 e1, .slice qa qn qc qe, .int .i64 (s.2 : Int)] false) := by rw [hk6 i (Own.lt o4) fun q hq => (rd.ne q hq).symm]; exact o4
      simp only [xSl_some, xSome_some]
      rw [hStore_of o6 (by simp)]
      simp only [xHeap_some, putRow, List.take_succ_cons, List.take_zero, List.length_cons, List.length_nil, List.drop_succ_cons, List.drop_zero, List.drop_nil, List.cons_append, List.nil_append, List.append_nil]
      apply F_spec_l9Reducer_reduce.J4i
      have S4 := s0.cat s4
      have hle := rd.same.le
      have hS4 := S4.le
      refine ⟨some (h4.length + 1, 0), rfl, RdS.write (l := onceQ s.1 n) (m := s.2) ?_ rd.ge o6 ⟨Vec.mk1 ?_, ?_, fun q hq => by cases hq; omega⟩ (fun q hq => by cases hq; omega), ?_⟩
      · exact ⟨by omega, fun j hj => by rw [hk6 j (by omega) fun q hq => by have := (hlow q hq).1; omega]; exact rd4.same.eq j hj⟩
      · rw [hi6, hnm, flat_append]; rfl
      · rw [hnm, List.length_append, hvl]; rfl
      · refine FrS.trans (qa1 := some (h4.length + 1, 0)) ⟨by omega, fun j hj hne hq => ?_, .inr fun q hq => by cases hq; omega⟩ FrS.set
        rw [hk6 j (by omega) hq]; exact S4.eq j hj
    · apply F_spec_l9Reducer_reduce.J4i
      have hnm : onceQ s.1 n = s.1 := by unfold onceQ; rw [if_pos (by simpa using hm)]
      rw [hnm]
      exact ⟨qa, rfl, rd4, FrS.of_same (s0.cat s4)⟩
  · simp only [xSome_some, hRow_of ho (show 0 + 0 + 2 ≤ _ by simp), row_all2 p1, List.drop_zero, List.take_succ_cons, List.take_zero, xRow_some, xCons_cons, xNil_nil, xSl_some, xStr_some, true_and]
    refine (sCandidates_ok (nd := n) r2 b (by omega)).mono ?_
    rintro v h4 ⟨s4, ca, cn, cc, ce, rfl, fc⟩
    have rd4 := rd2.step s4
    have S4 := s0.cat s4
    have q1 := s4.get p1 (Own.lt p1)
    have o4 := s4.get ho (Own.lt ho)
    have hcl := fc.1
    have l4 := s4.le
    simp only [xSl_some]
    have F4 : FrS i qa h h4 qa := FrS.of_same S4
    refine bcase_nbeq (fun hn1 => ?_) (fun hn1 => ?_)
    · have : ∀ x, (wk w).cand n ≠ [x] := fun x hx => by
        have hx' : candW w n = [x] := hx
        rw [hx'] at hcl; simp at hcl; omega
      rw [redP_none f hv this]
      exact ⟨qa, rfl, rd4, F4⟩
    refine bcase_dec (fun hd => ?_) (fun hd => ?_)
    · have : f = 0 := by omega
      subst this
      rw [redP_deep hv]
      exact ⟨qa, rfl, rd4, F4⟩
    simp only [hCell_of o4, Nat.zero_add, List.getElem?_cons_succ, List.getElem?_cons_zero, xSome_some, xInt_some, true_and]
    refine bcase_dec (fun h300 => ?_) (fun h300 => ?_)
    · rw [redP_big f hv (by omega)]
      exact ⟨qa, rfl, rd4, F4⟩
    · obtain ⟨f', rfl⟩ : ∃ f', f = f' + 1 := ⟨f - 1, by omega⟩
      have ih := @ih f' rfl
      obtain ⟨x, hx⟩ : ∃ x, candW w n = [x] := by
        match hc : candW w n with
        | [] => rw [hc] at hcl; simp at hcl; omega
        | [x] => exact ⟨x, rfl⟩
        | _ :: _ :: _ => rw [hc] at hcl; simp at hcl; omega
      rw [redP_go hv (by omega) (show (wk w).cand n = [x] from hx)]
      obtain ⟨k, hk, rfl, _⟩ := ixs_mem (show x ∈ ixs (candF n) w.is by show x ∈ candW w n; rw [hx]; simp)
      have hneeds : (wk w).needs (k : Int) n.2 = needsW w.is[k] n.2 := by show needsW (insAt w (k : Int)) n.2 = _; rw [insAt_of hk]
      rw [hneeds]
      apply F_spec_l9Reducer_reduce.J8i
      simp only [hCell_of o4, Nat.zero_add, List.getElem?_cons_succ, List.getElem?_cons_zero, xPtr_some, xSome_some, xInt_some]
      rw [wrap_nat (by omega), hStore_of o4 (by simp)]
      simp only [xHeap_some, putRow, List.take_succ_cons, List.take_zero, List.length_cons, List.length_nil, List.drop_succ_cons, List.drop_zero, List.drop_nil, List.cons_append, List.nil_append, List.append_nil]
      have hv4 := hvec.same s4
      have rd5 : RdS t_spec_l9Reducer hb i (.slice a0 n0 c0 e0) (.slice a1 n1 c1 e1) (h4.set i (.cells t_spec_l9Reducer [.slice a0 n0 c0 e0, .slice a1 n1 c1 e1, .slice qa qn qc qe, .int .i64 ((s.2 + 1 : Nat) : Int)] false)) qa (s.1, s.2 + 1) := RdS.write rd4.same rd4.ge o4 hv4 rd4.ne
      have F5 : FrS i qa h (h4.set i (.cells t_spec_l9Reducer [.slice a0 n0 c0 e0, .slice a1 n1 c1 e1, .slice qa qn qc qe, .int .i64 ((s.2 + 1 : Nat) : Int)] false)) qa := F4.trans FrS.set
      generalize hh5 : h4.set i (.cells t_spec_l9Reducer [.slice a0 n0 c0 e0, .slice a1 n1 c1 e1, .slice qa qn qc qe, .int .i64 ((s.2 + 1 : Nat) : Int)] false) = h5 at rd5 F5 ⊢
      have keep5 : ∀ j y, h4[j]? = some y → j ≠ i → h5[j]? = some y := fun j y hj hne => by rw [← hh5, set_ne (by omega)]; exact hj
      have o5 : h5[i]? = some (.cells t_spec_l9Reducer [.slice a0 n0 c0 e0, .slice a1 n1 c1 e1, .slice qa qn qc qe, .int .i64 ((s.2 + 1 : Nat) : Int)] false) := by rw [← hh5]; exact set_get o4
      have m1 := keep5 _ _ q1 (by omega)
      have l5 : h5.length = h4.length := by rw [← hh5]; simp
      have fc5 : FreshR t_int eI h3.length h5 ca cn (candW w n) := ⟨fc.1, fc.2.imp id fun ⟨j, hj1, hj2, hj3⟩ => ⟨j, hj1, hj2, keep5 _ _ hj3 (by omega)⟩⟩
      obtain ⟨ic, oc, hkc, rfl, _, hcell⟩ := Row.el1 eI_len (by simpa using FreshR.row eI_len fc5) (k := 0) (by omega)
      have hcell0 : hCell h5 (.ptr (some (ic, oc + (Int.toNat 0) * 1))) = some (.int .i64 (k : Int)) := by
        rw [show Int.toNat 0 = 0 from rfl, hcell]; simp only [hx]; rfl
      obtain ⟨ii, oi, hki, na, nn, ncp, ne, rfl, _, hri, _, _, _, hrow, hnl⟩ := (r.same rd5.same).inst (k := k) (by have := r.len1; omega)
      have hbk := b.is _ (List.getElem_mem hk)
      have hl1 := r.len1
      simp only [xSome_some, hCell_of m1, hCell_of o5, Nat.zero_add, List.getElem?_cons_succ, List.getElem?_cons_zero, xPtr_some, xSl_some, hcell0, xInt_some, Int.toNat_natCast, hri, xRow_some, xCons_cons, xNil_nil, xStr_some, true_and]
      refine ⟨by omega, by omega, ?_⟩
      refine (sNeeds_ok (i := w.is[k]) (t := n.2) hrow (by omega) (by omega) (by omega) ?_).mono ?_
      · exact fun p hp => (hbk.2.2.2 p hp).2
      rintro v h6 ⟨s6, ma, mn, mc, me, rfl, fm⟩
      have rd6 := rd5.step s6
      have F6 : FrS i qa h h6 qa := F5.trans (FrS.of_same s6)
      have m1 := s6.get m1 (Own.lt m1)
      have o6 := s6.get o5 (Own.lt o5)
      have hcell6 : hCell h6 (.ptr (some (ic, oc + (Int.toNat 0) * 1))) = some (.int .i64 (k : Int)) := by
        obtain ⟨ic', oc', _, he', _, hcell'⟩ := Row.el1 eI_len (by simpa using FreshR.row eI_len (fc5.same s6)) (k := 0) (by omega)
        cases he'
        rw [show Int.toNat 0 = 0 from rfl, hcell']; simp only [hx]; rfl
      have l6 := s6.le
      simp only [xTup_tup, xCons_cons, xSl_some, xBool_some, xNil_nil, hCell_of o6]
      refine ⟨hcell6, rfl, ?_⟩
      have hms : ((needsW w.is[k] n.2).getD []).length ≤ 3 ∧ ∀ m ∈ (needsW w.is[k] n.2).getD [], needOkW w m = true := by
        cases hm : needsW w.is[k] n.2 with
        | none => exact ⟨by simp, fun m hm => by simp at hm⟩
        | some ms => exact needs_all hw hk hm
      generalize hgm : (needsW w.is[k] n.2).getD [] = ms at fm hms ⊢
      generalize hgs : (needsW w.is[k] n.2).isSome = ok at hgm ⊢
      have hfl : ∀ g, ((ms.take g).foldl (fun r m => if r.1 then redP (wk w) f' r.2 m else r) (ok, (s.1, s.2 + 1))).2.2 ≤ 300 ∧ ((ms.take g).foldl (fun r m => if r.1 then redP (wk w) f' r.2 m else r) (ok, (s.1, s.2 + 1))).2.1.length ≤ 3 * ((ms.take g).foldl (fun r m => if r.1 then redP (wk w) f' r.2 m else r) (ok, (s.1, s.2 + 1))).2.2 := by
        intro g
        have := red_fold (g := redP (wk w) f') (fun s m h => red_bound (wk_three hw) f' s m h) (ms.take g) ok (s.1, s.2 + 1) (by simp; omega)
        simp only at this
        have hlt : (ms.take g).length ≤ 3 := by rw [List.length_take]; omega
        exact ⟨this.1, by omega⟩
      have hmn := fm.1
      refine F_spec_l9Reducer_reduce.L11ind _ _ _ _ _ _ _ _ (J := fun (g : Nat) x9 x8 h' => x8 = (g : Int) ∧ g ≤ mn ∧ x9 = ((ms.take g).foldl (fun r m => if r.1 then redP (wk w) f' r.2 m else r) (ok, (s.1, s.2 + 1))).1 ∧ ∃ qa', RdS t_spec_l9Reducer hb i (.slice a0 n0 c0 e0) (.slice (some (ii, oi)) n1 c1 e1) h' qa' ((ms.take g).foldl (fun r m => if r.1 then redP (wk w) f' r.2 m else r) (ok, (s.1, s.2 + 1))).2 ∧ FrS i qa h6 h' qa') (fun g => mn - g) ?_ 0 _ _ _ ⟨rfl, by omega, rfl, qa, by simpa using rd6, FrS.refl _ _ _⟩
      rintro g x9 x8 h' ⟨rfl, hg, rfl, qa', rdg, Fg⟩ R hR
      obtain ⟨hb1, hb2⟩ := hfl g
      unfold F_spec_l9Reducer_reduce.L11t
      refine bcase_dec (fun hlt => ?_) (fun hge => ?_)
      · have fmg : Row h'.length h' ma (mn * 2) (flat eP ms) := Fg.row (fm.row eP_len) fun j o hn ha => by
          obtain ⟨_, h0 | ⟨j', hj', hb', _⟩⟩ := fm
          · omega
          · rw [ha] at hj'
            cases hj'
            have := l5
            exact ⟨by omega, fun q hq => by have := (hlow q hq).2; omega⟩
        obtain ⟨im, om, hgl, rfl, _, hrm, _⟩ := fmg.pr (k := g) (by omega)
        simp only [xSome_some, Int.toNat_natCast, hrm, xRow_some, xCons_cons, xNil_nil, xStr_some, letH_def]
        rw [store2]
        generalize hh7 : h' ++ [AObj.cells t_impl_Need [.str ms[g].1, .str ms[g].2] false] = h7
        have s7 : Same h'.length h' h7 := by rw [← hh7]; exact same_last
        have o7 : h7[h'.length]? = some (.cells t_impl_Need [.str ms[g].1, .str ms[g].2] false) := by rw [← hh7]; simp
        simp only [xHeap_some]
        have hstep := red_take (redP (wk w) f') ms (ok, (s.1, s.2 + 1)) g hgl
        refine ⟨by omega, bcase_intro (fun htrue => ?_) (fun hfalse => ?_)⟩
        · simp only [row_all2 o7, xRow_some, xCons_cons, xNil_nil, xStr_some]
          rw [show IntKind.wrap .i64 (31 - ((f' + 1 : Nat) : Int) + 1) = 31 - (f' : Int) by
            have := IntWalk.i64_in (31 - ((f' + 1 : Nat) : Int) + 1) (by omega)
            rw [this]; omega]
          simp only [htrue, if_true] at hstep
          refine (ih (n := ms[g]) (rdg.step s7) hb2 hb1 (hms.2 _ (List.getElem_mem hgl)) (by omega)).mono ?_
          rintro v h8 ⟨qa8, rfl, rd8, F8⟩
          have F8' := (Fg.trans (FrS.of_same s7)).trans F8
          simp only [xBool_some]
          apply F_spec_l9Reducer_reduce.J14i
          rw [wrap_nat (by omega)]
          exact hR (g + 1) _ _ _ (by omega) ⟨rfl, by omega, by rw [hstep], qa8, by rw [hstep]; exact rd8, F8'⟩
        · simp only [hfalse, Bool.false_eq_true, if_false] at hstep
          apply F_spec_l9Reducer_reduce.J14i
          rw [wrap_nat (by omega)]
          exact hR (g + 1) _ _ _ (by omega) ⟨rfl, by omega, by rw [hstep, hfalse], qa', by rw [hstep]; exact rdg.step s7, Fg.trans (FrS.of_same s7)⟩
      · apply F_spec_l9Reducer_reduce.A11x0i
        have : g = mn := by omega
        subst this
        rw [List.take_of_length_le (by omega)] at rdg ⊢
        exact ⟨qa', rfl, rdg, F6.trans Fg⟩
theorem sReduce_ok {hb : AHeap} {a0 a1 : Pt} {n0 c0 n1 c1 : Nat} {e0 e1 : Bool} {w : Wd} (r : WRep hb a0 n0 c0 a1 n1 c1 w) (b : WB w) (hw : worldOk w = true) : ∀ f, RedC f n_spec_l9Reducer_reduce t_spec_l9Reducer hb a0 a1 n0 c0 n1 c1 e0 e1 w
  | 0 => sReduce_step r b hw 0 fun f' h => by omega
  | f + 1 => sReduce_step r b hw (f + 1) fun f' h => by cases h; exact sReduce_ok r b hw f
end Go.Sim

set_option linter.unusedVariables false
set_option linter.unusedSimpArgs false
set_option maxRecDepth 20000
namespace Go.Sim
open Go Go.RowKit

end Go.Sim

set_option linter.unusedVariables false
set_option linter.unusedSimpArgs false
set_option maxRecDepth 20000
namespace Go.Sim
open Go Go.RowKit

theorem NVec.fresh {b : Nat} {h : AHeap} {a : Pt} {n c : Nat} {l : List Nd} (f : NVec b h a n c l) : FreshR t_impl_Need eP b h a n l := by
  refine ⟨f.len, ?_⟩
  rcases f.vec with ⟨rfl, h0, _⟩ | ⟨i, rfl, hi⟩
  · exact .inl h0
  · exact .inr ⟨i, rfl, f.low i rfl, hi⟩
end Go.Sim

set_option linter.unusedVariables false
set_option linter.unusedSimpArgs false
set_option maxRecDepth 20000
namespace Go.Sim
open Go Go.RowKit

/-- What ReduceNeed answers. -/
noncomputable def redN (w : Wd) (n : Nd) : List Nd × Bool := if worldOk w && needOkW w n then (if (redP (wk w) 31 ([], 0) n).1 then ((redP (wk w) 31 ([], 0) n).2.1, true) else ([], false)) else ([], false)
def RedNQ (w : Wd) (n : Nd) (h : AHeap) (v : AVal) (h' : AHeap) : Prop := Same h.length h h' ∧ ∃ a m c e, v = .tup [.slice a m c e, .bool (redN w n).2] ∧ FreshR t_impl_Need eP h.length h' a m (redN w n).1
theorem redN_len {w : Wd} (hw : WB w) (n : Nd) : (redN w n).1.length ≤ 1048576 := by
  unfold redN
  split
  · rename_i hc
    simp only [Bool.and_eq_true] at hc
    split
    · have := red_bound (wk_three hc.1) 31 ([], 0) n (by simp)
      simp at this; simp; omega
    · simp
  · simp
theorem reduceNeed_ok {h : AHeap} {a0 a1 : Pt} {n0 c0 n1 c1 : Nat} {e0 e1 : Bool} {w : Wd} {nd : Nd} (r : WRep h a0 n0 c0 a1 n1 c1 w) (b : WB w) :
    SCall pg n_impl_ReduceNeed [.agg [.slice a0 n0 c0 e0, .slice a1 n1 c1 e1], .agg [.str nd.1, .str nd.2]] h (RedNQ w nd h) := by
  apply F_impl_ReduceNeed.call
  simp only [letH_def]
  generalize hh0 : h ++ [AObj.cells t_impl_World [.slice a0 n0 c0 e0, .slice a1 n1 c1 e1] false] = h0
  generalize hh1 : h0 ++ [AObj.cells t_impl_Need [.str nd.1, .str nd.2] false] = h1
  have s0 : Same h.length h h0 := by rw [← hh0]; exact same_last
  have s1 : Same h0.length h0 h1 := by rw [← hh1]; exact same_last
  have w0 : h0[h.length]? = some (wObj a0 n0 c0 e0 a1 n1 c1 e1) := by rw [← hh0]; simp [wObj]
  have w1 := s1.get w0 (Own.lt w0)
  have p1 : h1[h0.length]? = some (.cells t_impl_Need [.str nd.1, .str nd.2] false) := by rw [← hh1]; simp
  rw [wRow w1]
  simp only [xRow_some, xCons_cons, xNil_nil, xSl_some]
  generalize hh2 : h1 ++ [AObj.cells t_impl_reduction [.slice a0 n0 c0 e0, .slice a1 n1 c1 e1, .slice none 0 0 true, .int .i64 0] false] = h2
  have s2 : Same h1.length h1 h2 := by rw [← hh2]; exact same_last
  have w2 := s2.get w1 (Own.lt w1)
  have p2 := s2.get p1 (Own.lt p1)
  have o2 : h2[h1.length]? = some (.cells t_impl_reduction [.slice a0 n0 c0 e0, .slice a1 n1 c1 e1, .slice none 0 0 true, .int .i64 0] false) := by rw [← hh2]; simp
  have S2 := (s0.cat s1).cat s2
  rw [wRow w2, row_all2 p2]
  simp only [xRow_some, xCons_cons, xNil_nil, xSl_some, xStr_some]
  refine (iNeedValid_ok (ct := nd.1) (tt := nd.2) (r.same S2) b).mono ?_
  rintro v h3 ⟨rfl, s3⟩
  have S3 := S2.cat s3
  have p3 := s3.get p2 (Own.lt p2)
  have o3 := s3.get o2 (Own.lt o2)
  have w3 := s3.get w2 (Own.lt w2)
  simp only [xBool_some]
  refine bcase_not (fun hc => ?_) (fun hc => ?_)
  · have : redN w nd = ([], false) := by unfold redN; rw [hc]; rfl
    exact ⟨S3, _, _, _, _, by rw [this], by rw [this]; exact ⟨rfl, .inl rfl⟩⟩
  rw [row_all2 p3]
  simp only [xRow_some, xCons_cons, xNil_nil, xStr_some]
  have hc' := hc
  simp only [Bool.and_eq_true] at hc'
  have le3 := S3.le
  have l1 : h1.length = h0.length + 1 := by rw [← hh1]; simp
  have l0 : h0.length = h.length + 1 := by rw [← hh0]; simp
  have rd : RdS t_impl_reduction h h1.length (.slice a0 n0 c0 e0) (.slice a1 n1 c1 e1) h3 none (([], 0) : List Nd × Nat) :=
    ⟨S3, by omega, ⟨0, 0, true, o3, ⟨.inl ⟨rfl, rfl, by simp⟩, rfl, fun q hq => by cases hq⟩⟩, fun q hq => by cases hq⟩
  refine (reduce_ok r b hc'.1 31 (n := nd) rd (by simp) (by simp) hc'.2 (by omega)).mono ?_
  rintro v h4 ⟨qa, rfl, rd4, F4⟩
  simp only [xBool_some]
  refine bcase_not (fun hr => ?_) (fun hr => ?_)
  · have : redN w nd = ([], false) := by unfold redN; rw [hc, hr]; rfl
    exact ⟨rd4.same, _, _, _, _, by rw [this], by rw [this]; exact ⟨rfl, .inl rfl⟩⟩
  · apply F_impl_ReduceNeed.J4i
    obtain ⟨qn, qc, qe, ho, hv⟩ := rd4.ob
    simp only [hCell_of ho, Nat.zero_add, List.getElem?_cons_succ, List.getElem?_cons_zero, xSl_some]
    have : redN w nd = ((redP (wk w) 31 ([], 0) nd).2.1, true) := by unfold redN; rw [hc, hr]; rfl
    exact ⟨rd4.same, _, _, _, _, by rw [this], by rw [this]; exact hv.fresh⟩
theorem sReduceNeed_ok {h : AHeap} {a0 a1 : Pt} {n0 c0 n1 c1 : Nat} {e0 e1 : Bool} {w : Wd} {nd : Nd} (r : WRep h a0 n0 c0 a1 n1 c1 w) (b : WB w) (hnt : nd.2.length ≤ 1048576) :
    SCall pg n_spec_ReduceNeed [.agg [.slice a0 n0 c0 e0, .slice a1 n1 c1 e1], .agg [.str nd.1, .str nd.2]] h (RedNQ w nd h) := by
  apply F_spec_ReduceNeed.call
  simp only [letH_def]
  generalize hh0 : h ++ [AObj.cells t_impl_World [.slice a0 n0 c0 e0, .slice a1 n1 c1 e1] false] = h0
  generalize hh1 : h0 ++ [AObj.cells t_impl_Need [.str nd.1, .str nd.2] false] = h1
  have s0 : Same h.length h h0 := by rw [← hh0]; exact same_last
  have s1 : Same h0.length h0 h1 := by rw [← hh1]; exact same_last
  have w0 : h0[h.length]? = some (wObj a0 n0 c0 e0 a1 n1 c1 e1) := by rw [← hh0]; simp [wObj]
  have w1 := s1.get w0 (Own.lt w0)
  have p1 : h1[h0.length]? = some (.cells t_impl_Need [.str nd.1, .str nd.2] false) := by rw [← hh1]; simp
  rw [wRow w1]
  simp only [xRow_some, xCons_cons, xNil_nil, xSl_some]
  generalize hh1' : h1 ++ [AObj.cells t_impl_Need [] false] = h1'
  have s1' : Same h1.length h1 h1' := by rw [← hh1']; exact same_last
  have e1' : h1'[h1.length]? = some (.cells t_impl_Need [] false) := by rw [← hh1']; simp
  generalize hh2 : h1' ++ [AObj.cells t_spec_l9Reducer [.slice a0 n0 c0 e0, .slice a1 n1 c1 e1, .slice (some (h1.length, 0)) 0 0 true, .int .i64 0] false] = h2
  have s2 : Same h1'.length h1' h2 := by rw [← hh2]; exact same_last
  have w2 := s2.get (s1'.get w1 (Own.lt w1)) (Own.lt (s1'.get w1 (Own.lt w1)))
  have p2 := s2.get (s1'.get p1 (Own.lt p1)) (Own.lt (s1'.get p1 (Own.lt p1)))
  have e2 := s2.get e1' (Own.lt e1')
  have o2 : h2[h1'.length]? = some (.cells t_spec_l9Reducer [.slice a0 n0 c0 e0, .slice a1 n1 c1 e1, .slice (some (h1.length, 0)) 0 0 true, .int .i64 0] false) := by rw [← hh2]; simp
  have S2 := ((s0.cat s1).cat s1').cat s2
  rw [wRow w2, row_all2 p2]
  simp only [xRow_some, xCons_cons, xNil_nil, xSl_some, xStr_some]
  refine (needValid_ok (ct := nd.1) (tt := nd.2) (r.same S2) b hnt).mono ?_
  rintro v h3 ⟨rfl, s3⟩
  have S3 := S2.cat s3
  have p3 := s3.get p2 (Own.lt p2)
  have o3 := s3.get o2 (Own.lt o2)
  have w3 := s3.get w2 (Own.lt w2)
  have e3 := s3.get e2 (Own.lt e2)
  simp only [xBool_some]
  refine bcase_not (fun hc => ?_) (fun hc => ?_)
  · have : redN w nd = ([], false) := by unfold redN; rw [hc]; rfl
    exact ⟨S3.cat same_last, _, _, _, _, by rw [this], by rw [this]; exact ⟨rfl, .inl rfl⟩⟩
  rw [row_all2 p3]
  simp only [xRow_some, xCons_cons, xNil_nil, xStr_some]
  have hc' := hc
  simp only [Bool.and_eq_true] at hc'
  have le3 := S3.le
  have l1 : h1.length = h0.length + 1 := by rw [← hh1]; simp
  have l1' : h1'.length = h1.length + 1 := by rw [← hh1']; simp
  have l0 : h0.length = h.length + 1 := by rw [← hh0]; simp
  have rd : RdS t_spec_l9Reducer h h1'.length (.slice a0 n0 c0 e0) (.slice a1 n1 c1 e1) h3 (some (h1.length, 0)) (([], 0) : List Nd × Nat) :=
    ⟨S3, by omega, ⟨0, 0, true, o3, ⟨Vec.mk1 e3, rfl, fun q hq => by cases hq; omega⟩⟩, fun q hq => by cases hq; omega⟩
  refine (sReduce_ok r b hc'.1 31 (n := nd) rd (by simp) (by simp) hc'.2 (by omega)).mono ?_
  rintro v h4 ⟨qa, rfl, rd4, F4⟩
  simp only [xBool_some]
  refine bcase_not (fun hr => ?_) (fun hr => ?_)
  · have : redN w nd = ([], false) := by unfold redN; rw [hc, hr]; rfl
    exact ⟨rd4.same.trans (Same.mono same_last rd4.same.le), _, _, _, _, by rw [this], by rw [this]; exact ⟨rfl, .inl rfl⟩⟩
  · apply F_spec_ReduceNeed.J4i
    obtain ⟨qn, qc, qe, ho, hv⟩ := rd4.ob
    simp only [hCell_of ho, Nat.zero_add, List.getElem?_cons_succ, List.getElem?_cons_zero, xSl_some]
    have : redN w nd = ((redP (wk w) 31 ([], 0) nd).2.1, true) := by unfold redN; rw [hc, hr]; rfl
    exact ⟨rd4.same, _, _, _, _, by rw [this], by rw [this]; exact hv.fresh⟩
end Go.Sim

set_option linter.unusedVariables false
set_option linter.unusedSimpArgs false
set_option maxRecDepth 20000
namespace Go.Sim
open Go Go.RowKit

end Go.Sim

set_option linter.unusedVariables false
set_option linter.unusedSimpArgs false
set_option maxRecDepth 20000
namespace Go.Sim
open Go Go.RowKit
theorem markClasses_ok {h : AHeap} {b : Nat} {a : Pt} {n c : Nat} {e : Bool} {l : List Nd} {k : Int} (f : FreshR t_impl_Class eP b h a n l) (hk : 0 ≤ k ∧ k + 2 * n ≤ 4611686018427387000) :
    SCall pg n_laws_markClassS [.slice a n c e, .int .i64 k] h fun v h' => v = .int .i64 (k + 2 * n) ∧ Only a n h h' ∧ FreshR t_impl_Class eP b h' a n (markP k n) := by
  apply F_laws_markClassS.call
  obtain ⟨hl, hf⟩ := f
  refine F_laws_markClassS.L2ind _ _ _ _ _ (J := fun (g : Nat) x1 x5 h' => x5 = (g : Int) ∧ g ≤ n ∧ x1 = k + 2 * g ∧ Only a n h h' ∧ (n = 0 ∨ ∃ i, a = some (i, 0) ∧ b ≤ i ∧ h'[i]? = some (.cells t_impl_Class (flat eP (markP k g ++ l.drop g)) false))) (fun g => n - g) ?_ 0 _ _ _
    ⟨rfl, by omega, by simp, Only.refl _ _ _, by simpa [markP] using hf⟩
  rintro g x1 x5 h' ⟨rfl, hg, rfl, hO, hst⟩ R hR
  unfold F_laws_markClassS.L2t
  refine bcase_dec (fun hlt => ?_) (fun hge => ?_)
  · rcases hst with h0 | ⟨i, rfl, hbi, ho⟩
    · omega
    have hn0 : n ≠ 0 := by omega
    have hgl : g < (markP k g ++ l.drop g).length := by simp [markP_len]; omega
    have hlen : (flat eP (markP k g ++ l.drop g)).length = n * 2 := by rw [flat_length eP_len]; simp [markP_len]; omega
    refine (markText_ok (by omega)).mono ?_
    rintro v h1 ⟨rfl, s1⟩
    simp only [xStr_some, xSome_some, Int.toNat_natCast, Nat.zero_add, Nat.add_zero]
    have ho1 : h1[i]? = some (.cells t_impl_Class (flat eP (markP k g ++ l.drop g)) false) := by rw [s1.eq i (Own.lt ho)]; exact ho
    rw [hStore_of ho1 (by rw [hlen]; simp; omega)]
    simp only [xHeap_some]
    refine ⟨by omega, (markText_ok (by rw [IntWalk.i64_in _ (by omega)]; omega)).mono ?_⟩
    rintro v h2 ⟨rfl, s2⟩
    simp only [xStr_some]
    rw [IntWalk.i64_in (k + 2 * (g : Int) + 1) (by omega)]
    have ho2 : h2[i]? = some (.cells t_impl_Class (putRow (flat eP (markP k g ++ l.drop g)) (g * 2) [.str (markT (k + 2 * g))]) false) := by rw [s2.eq i (by simp; exact Own.lt ho1)]; exact set_get ho1
    have hlen2 : (putRow (flat eP (markP k g ++ l.drop g)) (g * 2) [.str (markT (k + 2 * g))]).length = n * 2 := by rw [putRow_length (by rw [hlen]; simp; omega), hlen]
    rw [hStore_of ho2 (by rw [hlen2]; simp; omega)]
    simp only [xHeap_some]
    rw [IntWalk.i64_in _ (by omega), wrap_nat (by omega)]
    refine ⟨by omega, hR (g + 1) _ _ _ (by omega) ⟨rfl, by omega, by omega, ((hO.same s1).set hn0 |>.same s2).set hn0, .inr ⟨i, rfl, hbi, ?_⟩⟩⟩
    rw [set_get ho2, put_two hgl]
    congr 3
    rw [List.take_left' (markP_len k g), markP_succ]
    have : (markP k g ++ l.drop g).drop (g + 1) = l.drop (g + 1) := by
      rw [← List.drop_drop, List.drop_left' (markP_len k g), List.drop_drop]
    rw [this]; simp
  · have : g = n := by omega
    subst this
    apply F_laws_markClassS.A2x0i
    refine ⟨rfl, hO, markP_len _ _, ?_⟩
    rw [List.drop_of_length_le (by omega), List.append_nil] at hst
    exact hst
theorem put_one {cs : List AVal} {o : Nat} {v : AVal} (h : o < cs.length) : putRow cs o [v] = cs.set o v := by
  unfold putRow; rw [List.set_eq_take_append_cons_drop, if_pos h]; simp
theorem cells_ne {h : AHeap} {i j : Nat} {t t' : TypeId} {cs cs' : List AVal} (hi : h[i]? = some (.cells t cs false)) (hj : h[j]? = some (.cells t' cs' false)) (ht : t ≠ t') : i ≠ j := by
  intro e; subst e; rw [hi] at hj; cases hj; exact ht rfl
theorem ne_ty : t_impl_Instance ≠ t_impl_Need := by decide
theorem FreshR.off {α : Type} {ty : TypeId} {enc : α → List AVal} {b : Nat} {h h' : AHeap} {a : Pt} {n : Nat} {l : List α} (f : FreshR ty enc b h a n l) (hk : ∀ i, a = some (i, 0) → n ≠ 0 → i < h.length → h'[i]? = h[i]?) : FreshR ty enc b h' a n l := by
  obtain ⟨hl, h0 | ⟨i, ha, hb, hi⟩⟩ := f
  · exact ⟨hl, .inl h0⟩
  · by_cases hn : n = 0
    · exact ⟨hl, .inl hn⟩
    · exact ⟨hl, .inr ⟨i, ha, hb, by rw [hk i ha hn (Own.lt hi)]; exact hi⟩⟩
/-- Marking the instances: what has turned lies between b and the end of the heap. -/
theorem markInstances_ok {h : AHeap} {b n c : Nat} {e : Bool} {a : Pt} {ys : List EI} {is : List Ins} {k : Int} (f : FreshR t_impl_Instance eN b h a n ys) (hl : ys.length = is.length) (hn20 : n ≤ 1048576) (hi20 : ∀ i ∈ is, i.2.length ≤ 1048576)
    (hN : ∀ (k : Nat) (x : EI) (i : Ins), ys[k]? = some x → is[k]? = some i → FreshR t_impl_Need eP b h x.a x.n i.2) (sep : ∀ (j k : Nat) (x y : EI), j ≠ k → ys[j]? = some x → ys[k]? = some y → x.n ≠ 0 → y.n ≠ 0 → x.a ≠ y.a)
    {H : Nat} (hH : ∀ i, a = some (i, 0) → n ≠ 0 → i < H) (hHn : ∀ (q : Nat) (x : EI), ys[q]? = some x → ∀ j, x.a = some (j, 0) → x.n ≠ 0 → j < H)
    (hk : 0 ≤ k ∧ k ≤ 4398046511104) : SCall pg n_laws_markInstanceS [.slice a n c e, .int .i64 k] h fun v h' => (∃ z, v = .int .i64 z ∧ 0 ≤ z ∧ z ≤ 13194139533312) ∧ Mid b H h h' := by
  apply F_laws_markInstanceS.call
  obtain ⟨hyl, hf⟩ := f
  refine F_laws_markInstanceS.L2ind _ _ _ _ _ (J := fun (g : Nat) x1 x5 h' => x5 = (g : Int) ∧ g ≤ n ∧ 0 ≤ x1 ∧ x1 ≤ k + g * 2097160 ∧ Mid b H h h' ∧
      (n = 0 ∨ ∃ i cs, a = some (i, 0) ∧ b ≤ i ∧ i < H ∧ h'[i]? = some (.cells t_impl_Instance cs false) ∧ cs.length = n * 3 ∧ ∀ (q : Nat) (x : EI), ys[q]? = some x → cs[q * 3 + 2]? = some (.slice x.a x.n x.cp x.e)) ∧
      (∀ (q : Nat) (x : EI) (i : Ins), g ≤ q → ys[q]? = some x → is[q]? = some i → FreshR t_impl_Need eP b h' x.a x.n i.2 ∧ ∀ j, x.a = some (j, 0) → x.n ≠ 0 → j < H)) (fun g => n - g) ?_ 0 _ _ _
    ⟨rfl, by omega, hk.1, by omega, Mid.refl _ _ _, ?_, ?_⟩
  · rintro g x1 x5 h' ⟨rfl, hg, h0, hx1, hM, hst, hrow⟩ R hR
    unfold F_laws_markInstanceS.L2t
    refine bcase_dec (fun hlt => ?_) (fun hge => ?_)
    · rcases hst with hz | ⟨i, cs, rfl, hbi, hih, hi, hcl, hsl⟩
      · omega
      have hgy : g < ys.length := by omega
      have hgi : g < is.length := by omega
      have hB : (g : Int) * 2097160 ≤ 1048576 * 2097160 := by omega
      have hlm := hM.1
      refine (markText_ok (by omega)).mono ?_
      rintro v h1 ⟨rfl, s1⟩
      simp only [xStr_some, xSome_some, Int.toNat_natCast, Nat.zero_add, Nat.add_zero]
      have i1 := s1.get hi (Own.lt hi)
      rw [hStore_of i1 (by rw [hcl]; simp; omega), put_one (by rw [hcl]; omega)]
      simp only [xHeap_some]
      refine ⟨by omega, (markText_ok (by rw [IntWalk.i64_in _ (by omega)]; omega)).mono ?_⟩
      rintro v h2 ⟨rfl, s2⟩
      simp only [xStr_some]
      have i2 := s2.get (set_get i1 (x := .cells t_impl_Instance (cs.set (g * 3) (.str (markT x1))) false)) (by simp; exact Own.lt i1)
      rw [hStore_of i2 (by rw [List.length_set, hcl]; simp; omega), put_one (by rw [List.length_set, hcl]; omega)]
      simp only [xHeap_some]
      have i3 := set_get i2 (x := .cells t_impl_Instance ((cs.set (g * 3) (.str (markT x1))).set (g * 3 + 1) (.str (markT (IntKind.wrap .i64 (x1 + 1))))) false)
      have hcell : ((cs.set (g * 3) (.str (markT x1))).set (g * 3 + 1) (.str (markT (IntKind.wrap .i64 (x1 + 1)))))[g * 3 + 2]? = some (.slice ys[g].a ys[g].n ys[g].cp ys[g].e) := by
        rw [List.getElem?_set_ne (by omega), List.getElem?_set_ne (by omega)]
        exact hsl g ys[g] (List.getElem?_eq_getElem hgy)
      refine ⟨by omega, by omega, ?_⟩
      rw [hCell_of i3, hcell]
      simp only [xSl_some]
      rw [IntWalk.i64_in (x1 + 1) (by omega), IntWalk.i64_in (x1 + 1 + 1) (by omega)] at *
      generalize hh3 : h2.set i (.cells t_impl_Instance ((cs.set (g * 3) (.str (markT x1))).set (g * 3 + 1) (.str (markT (x1 + 1)))) false) = h3 at *
      have M3 : Mid b H h h3 := by
        rw [← hh3]
        exact ((((hM.same s1).set hbi hih).same s2).set hbi hih)
      have oth : ∀ j, j ≠ i → j < h'.length → h3[j]? = h'[j]? := fun j hj hjl => by
        rw [← hh3, set_ne (Ne.symm hj), s2.eq j (by simp; have := s1.le; omega), set_ne (Ne.symm hj), s1.eq j hjl]
      have hrow3 : ∀ (q : Nat) (x : EI) (ii : Ins), g ≤ q → ys[q]? = some x → is[q]? = some ii → FreshR t_impl_Need eP b h3 x.a x.n ii.2 ∧ ∀ j, x.a = some (j, 0) → x.n ≠ 0 → j < H := fun q x ii hq hx hii => by
        obtain ⟨p1, p2⟩ := hrow q x ii hq hx hii
        refine ⟨p1.off fun j ha hn hj => oth j (fun e => ?_) hj, p2⟩
        subst e
        rcases p1.2 with h0 | ⟨j', ha', _, hj'⟩
        · exact hn h0
        · rw [ha] at ha'; cases ha'
          exact cells_ne hi hj' ne_ty rfl
      obtain ⟨p1, p2⟩ := hrow3 g ys[g] is[g] (Nat.le_refl _) (List.getElem?_eq_getElem hgy) (List.getElem?_eq_getElem hgi)
      have hlen := hi20 is[g] (List.getElem_mem hgi)
      have hpn := p1.1
      refine (markNeeds_ok p1 (k := x1 + 1 + 1) (by omega)).mono ?_
      rintro v h4 ⟨rfl, o4, f4⟩
      simp only [xInt_some]
      rw [wrap_nat (by omega)]
      have i4 : h4[i]? = some (.cells t_impl_Instance ((cs.set (g * 3) (.str (markT x1))).set (g * 3 + 1) (.str (markT (x1 + 1)))) false) := by
        rw [o4.2 i (Own.lt i3) fun j hj hn => ?_]; exact i3
        rcases p1.2 with h0 | ⟨j', ha', _, hj'⟩
        · exact absurd h0 hn
        · rw [hj] at ha'; cases ha'
          exact cells_ne i3 hj' ne_ty
      refine hR (g + 1) _ _ _ (by omega) ⟨rfl, by omega, by omega, by push_cast; omega, M3.trans ?_, .inr ⟨i, _, rfl, hbi, hih, i4, by simp [hcl], fun q x hx => ?_⟩, fun q x ii hq hx hii => ?_⟩
      · refine ⟨o4.1, fun j hj hn => o4.2 j hj fun q hq h0 => ?_⟩
        have := p2 q hq h0
        rcases p1.2 with hz | ⟨j', ha', hb', _⟩
        · exact absurd hz h0
        · rw [hq] at ha'; cases ha'; omega
      · rw [List.getElem?_set_ne (by omega), List.getElem?_set_ne (by omega)]
        exact hsl q x hx
      · obtain ⟨r1, r2⟩ := hrow3 q x ii (by omega) hx hii
        refine ⟨r1.off fun j ha hn hj => o4.2 j hj fun q' hq' h0 => ?_, r2⟩
        intro e; subst e
        exact sep g q ys[g] x (by omega) (List.getElem?_eq_getElem hgy) hx h0 hn (by rw [hq', ha])
    · apply F_laws_markInstanceS.A2x0i
      exact ⟨⟨_, rfl, h0, by omega⟩, hM⟩
  · rcases hf with h0 | ⟨i, ha, hbi, hi⟩
    · exact .inl h0
    by_cases hn0 : n = 0
    · exact .inl hn0
    refine .inr ⟨i, _, ha, hbi, hH i ha hn0, hi, by rw [flat_length eN_len, hyl], fun q x hx => ?_⟩
    have hq := (List.getElem?_eq_some_iff.1 hx).1
    have hd := flat_dp eN_len ys q
    have h2 : (flat eN ys)[q * 3 + 2]? = ((flat eN ys).drop (q * 3))[2]? := by rw [List.getElem?_drop]
    rw [h2, hd, List.drop_eq_getElem_cons hq, flat_cons]
    have : ys[q] = x := by rw [List.getElem?_eq_getElem hq] at hx; exact Option.some.inj hx
    rw [this]; rfl
  · intro q x i _ hx hii
    refine ⟨hN q x i hx hii, fun j ha hn => ?_⟩
    exact hHn q x hx j ha hn
/-- All of a world's own rows lie below H. -/
structure WBel (H : Nat) (a0 : Pt) (n0 : Nat) (a1 : Pt) (n1 : Nat) (ys : List EI) : Prop where
  cls : ∀ i, a0 = some (i, 0) → n0 ≠ 0 → i < H
  ins : ∀ i, a1 = some (i, 0) → n1 ≠ 0 → i < H
  need : ∀ (q : Nat) (x : EI), ys[q]? = some x → ∀ j, x.a = some (j, 0) → x.n ≠ 0 → j < H
theorem WFresh.bel {b : Nat} {h : AHeap} {a0 a1 : Pt} {n0 n1 : Nat} {ys : List EI} {w : Wd} (f : WFresh b h a0 n0 a1 n1 ys w) : WBel h.length a0 n0 a1 n1 ys :=
  ⟨fun i hi hn => (f.cls.in i hi hn).2, fun i hi hn => (f.ins.in i hi hn).2, fun q x hx j hj hn => by
    have hq := (List.getElem?_eq_some_iff.1 hx).1
    exact ((f.need q x (w.is[q]'(by have := f.len; omega)) hx (List.getElem?_eq_getElem _)).2.2.in j hj hn).2⟩
theorem markWorld_ok {h : AHeap} {b n0 c0 n1 c1 : Nat} {e0 e1 : Bool} {a0 a1 : Pt} {ys : List EI} {w : Wd} {k : Int} (f : WFresh b h a0 n0 a1 n1 ys w) (hb : WB w) {H : Nat} (hH : WBel H a0 n0 a1 n1 ys) (hHl : H ≤ h.length) (hk : 0 ≤ k ∧ k ≤ 1048576) :
    SCall pg n_laws_markWorld [.agg [.slice a0 n0 c0 e0, .slice a1 n1 c1 e1], .int .i64 k] h fun v h' => (∃ z, v = .int .i64 z ∧ 0 ≤ z ∧ z ≤ 13194139533312) ∧ Mid b H h h' := by
  have hl0 := f.cls.1
  have hl1 := f.ins.1
  have hlc := hb.lc
  have hli := hb.li
  have hyl := f.len
  apply F_laws_markWorld.call
  simp only [letH_def]
  generalize hh0 : h ++ [AObj.cells t_impl_World [.slice a0 n0 c0 e0, .slice a1 n1 c1 e1] false] = h0
  have s0 : Same h.length h h0 := by rw [← hh0]; exact same_last
  have w0 : h0[h.length]? = some (wObj a0 n0 c0 e0 a1 n1 c1 e1) := by rw [← hh0]; simp [wObj]
  simp only [wCell w0, Nat.zero_add, List.getElem?_cons_succ, List.getElem?_cons_zero, xSl_some]
  have f0 := f.same s0
  refine (markClasses_ok f0.cls (by omega)).mono ?_
  rintro v h2 ⟨rfl, o2, g2⟩
  simp only [xInt_some]
  have hin := f.cls.in
  have w2 : h2[h.length]? = some (wObj a0 n0 c0 e0 a1 n1 c1 e1) := by
    rw [o2.2 _ (Own.lt w0) fun j hj hn => by have := (hin j hj hn).2; omega]; exact w0
  simp only [wCell w2, Nat.zero_add, List.getElem?_cons_succ, List.getElem?_cons_zero, xSl_some]
  have M2 : Mid b H h h2 := (Mid.of_same s0).trans (o2.mid fun i hi hn => ⟨(hin i hi hn).1, hH.cls i hi hn⟩)
  have offC : ∀ (ty : TypeId), ty ≠ t_impl_Class → ∀ {α : Type} {enc : α → List AVal} {a : Pt} {n : Nat} {l : List α}, FreshR ty enc b h0 a n l → FreshR ty enc b h2 a n l := fun ty hty α enc a n l p => p.off fun j ha hn hj => o2.2 j hj fun q hq h0 e => by
    subst e
    rcases p.2 with hz | ⟨j', ha', _, hj'⟩
    · exact hn hz
    · rw [ha] at ha'; cases ha'
      rcases f0.cls.2 with hz | ⟨j', ha', _, hj''⟩
      · exact h0 hz
      · rw [hq] at ha'; cases ha'
        exact cells_ne hj' hj'' hty rfl
  have n1 : t_impl_Instance ≠ t_impl_Class := by decide
  have n2 : t_impl_Need ≠ t_impl_Class := by decide
  refine (markInstances_ok (offC _ n1 f0.ins) hyl (by omega) (fun i hi => (hb.is i hi).2.2.1) (fun k x i hx hi => offC _ n2 (f0.need k x i hx hi).2.2) f.sep hH.ins hH.need (by omega)).mono ?_
  rintro v h3 ⟨⟨z, rfl, hz0, hz1⟩, M3⟩
  simp only [xInt_some]
  exact ⟨⟨z, rfl, hz0, hz1⟩, M2.trans M3⟩
end Go.Sim

set_option linter.unusedVariables false
namespace Go.Sim
open Go Go.RowKit
theorem rowN {h : AHeap} {b n : Nat} {a : Pt} {l : List Nd} (f : FreshR t_impl_Need eP b h a n l) : Row h.length h a (n * 2) (flat eP l) := f.row eP_len
end Go.Sim

set_option linter.unusedVariables false
set_option linter.unusedSimpArgs false
set_option maxRecDepth 20000
namespace Go.Sim
open Go Go.RowKit

theorem lawReduceNeed {h : AHeap} {a0 a1 : Pt} {n0 c0 n1 c1 : Nat} {e0 e1 : Bool} {w : Wd} {nd0 : Nd} (r : WRep h a0 n0 c0 a1 n1 c1 w) (hb : WBig w) (hb0 : PBig nd0) :
    SCall pg n_laws_FnExactReduceNeed [.agg [.slice a0 n0 c0 e0, .slice a1 n1 c1 e1], .agg [.str nd0.1, .str nd0.2]] h fun v _ => v = .bool true := by
  apply F_laws_FnExactReduceNeed.call
  simp only [letH_def]
  generalize hg0 : h ++ [AObj.cells t_laws_World [.slice a0 n0 c0 e0, .slice a1 n1 c1 e1] false] = g0
  have sg0 : Same h.length h g0 := by rw [← hg0]; exact same_last
  have xw0 : g0[h.length]? = some (.cells t_laws_World [.slice a0 n0 c0 e0, .slice a1 n1 c1 e1] false) := by rw [← hg0]; simp
  generalize hg1 : g0 ++ [AObj.cells t_laws_Need [.str nd0.1, .str nd0.2] false] = g1
  have sg1 : Same g0.length g0 g1 := by rw [← hg1]; exact same_last
  have xw_g1 := sg1.get xw0 (Own.lt xw0)
  have S_g1 := sg0.cat sg1
  have xn0_g1 : g1[g0.length]? = some (.cells t_laws_Need [.str nd0.1, .str nd0.2] false) := by rw [← hg1]; simp
  simp only [row_all2 xw_g1, row_all2 xn0_g1, xRow_some, xCons_cons, xNil_nil, xSl_some, xStr_some, xAgg_agg, xInt_some, xBool_some, xTup_tup, xHeap_some, true_and]
  refine (szWorld_ok (r.same S_g1) hb (x := 1048576) (by omega)).mono ?_
  rintro v k11 ⟨y, rfl, sk11, hy⟩
  have xw_k11 := sk11.get xw_g1 (Own.lt xw_g1)
  have xn0_k11 := sk11.get xn0_g1 (Own.lt xn0_g1)
  have S_k11 := S_g1.cat sk11
  simp only [xInt_some]
  refine bcase_dec (fun _ => by trivial) (fun hge => ?_)
  have hyy := hy (by omega)
  have b : WB w := .of hb (by omega)
  have hbl0 := hb0.1
  have hbm0 := hb0.2.1
  unfold NBig at hbl0 hbm0
  simp only [row_all2 xw_k11, row_all2 xn0_k11, row_all2 xw_g1, row_all2 xn0_g1, xRow_some, xCons_cons, xNil_nil, xSl_some, xStr_some, xAgg_agg, xInt_some, xBool_some, xTup_tup, xHeap_some, true_and]
  refine (szNeed_ok hbl0 hbm0 (x := y) (by omega)).mono ?_
  rintro v k12 ⟨z0, rfl, sk12, hz0⟩
  have xw_k12 := sk12.get xw_k11 (Own.lt xw_k11)
  have xn0_k12 := sk12.get xn0_k11 (Own.lt xn0_k11)
  have S_k12 := S_k11.cat sk12
  simp only [xInt_some]
  refine bcase_dec (fun _ => by trivial) (fun hge0 => ?_)
  have hzz0 := hz0 (by omega)
  have hnt0 : nd0.2.length ≤ 1048576 := by omega
  have hnc0 : nd0.1.length ≤ 1048576 := by omega
  simp only [row_all2 xw_k12, row_all2 xn0_k12, row_all2 xw_k11, row_all2 xn0_k11, xRow_some, xCons_cons, xNil_nil, xSl_some, xStr_some, xAgg_agg, xInt_some, xBool_some, xTup_tup, xHeap_some, true_and]
  refine (toWorld_ok (r.same S_k12) b).mono ?_
  rintro v k13 ⟨b0, d0, f0, b1, d1, f1, ys, rfl, hd0, hd1, sk13, W3⟩
  have xw_k13 := sk13.get xw_k12 (Own.lt xw_k12)
  have xn0_k13 := sk13.get xn0_k12 (Own.lt xn0_k12)
  have S_k13 := S_k12.cat sk13
  simp only [row_all2 xw_k13, row_all2 xn0_k13, row_all2 xw_k12, row_all2 xn0_k12, xRow_some, xCons_cons, xNil_nil, xSl_some, xStr_some, xAgg_agg, xInt_some, xBool_some, xTup_tup, xHeap_some, true_and]
  refine (toNeed_ok (c := nd0.1) (t := nd0.2)).mono ?_
  rintro v k14 ⟨rfl, sk14⟩
  have xw_k14 := sk14.get xw_k13 (Own.lt xw_k13)
  have xn0_k14 := sk14.get xn0_k13 (Own.lt xn0_k13)
  have S_k14 := S_k13.cat sk14
  simp only [row_all2 xw_k14, row_all2 xn0_k14, row_all2 xw_k13, row_all2 xn0_k13, xRow_some, xCons_cons, xNil_nil, xSl_some, xStr_some, xAgg_agg, xInt_some, xBool_some, xTup_tup, xHeap_some, true_and]
  refine (sReduceNeed_ok ((W3.rep hd0 hd1).same sk14) b hnt0).mono ?_
  rintro v k15 ⟨sk15, wa, wn, wc, we, rfl, F5⟩
  have xw_k15 := sk15.get xw_k14 (Own.lt xw_k14)
  have xn0_k15 := sk15.get xn0_k14 (Own.lt xn0_k14)
  have S_k15 := S_k14.cat sk15
  simp only [row_all2 xw_k15, row_all2 xn0_k15, row_all2 xw_k14, row_all2 xn0_k14, xRow_some, xCons_cons, xNil_nil, xSl_some, xStr_some, xAgg_agg, xInt_some, xBool_some, xTup_tup, xHeap_some, true_and]
  refine (toWorld_ok (r.same S_k15) b).mono ?_
  rintro v k16 ⟨p0, q0, g0', p1, q1, g1', zs, rfl, hq0, hq1, sk16, W6⟩
  have xw_k16 := sk16.get xw_k15 (Own.lt xw_k15)
  have xn0_k16 := sk16.get xn0_k15 (Own.lt xn0_k15)
  have S_k16 := S_k15.cat sk16
  simp only [row_all2 xw_k16, row_all2 xn0_k16, row_all2 xw_k15, row_all2 xn0_k15, xRow_some, xCons_cons, xNil_nil, xSl_some, xStr_some, xAgg_agg, xInt_some, xBool_some, xTup_tup, xHeap_some, true_and]
  rw [store2]
  generalize hg2 : k16 ++ [AObj.cells t_impl_World [.slice p0 n0 q0 g0', .slice p1 n1 q1 g1'] false] = g2
  have sg2 : Same k16.length k16 g2 := by rw [← hg2]; exact same_last
  have xw_g2 := sg2.get xw_k16 (Own.lt xw_k16)
  have xn0_g2 := sg2.get xn0_k16 (Own.lt xn0_k16)
  have S_g2 := S_k16.cat sg2
  have xi_g2 : g2[k16.length]? = some (.cells t_impl_World [.slice p0 n0 q0 g0', .slice p1 n1 q1 g1'] false) := by rw [← hg2]; simp
  simp only [row_all2 xw_g2, row_all2 xn0_g2, row_all2 xi_g2, row_all2 xw_k15, row_all2 xn0_k15, xRow_some, xCons_cons, xNil_nil, xSl_some, xStr_some, xAgg_agg, xInt_some, xBool_some, xTup_tup, xHeap_some, true_and]
  have W7 := W6.same sg2
  refine (toNeed_ok (c := nd0.1) (t := nd0.2)).mono ?_
  rintro v k17 ⟨rfl, sk17⟩
  have xw_k17 := sk17.get xw_g2 (Own.lt xw_g2)
  have xn0_k17 := sk17.get xn0_g2 (Own.lt xn0_g2)
  have xi_k17 := sk17.get xi_g2 (Own.lt xi_g2)
  have S_k17 := S_g2.cat sk17
  simp only [row_all2 xw_k17, row_all2 xn0_k17, row_all2 xi_k17, row_all2 xw_g2, row_all2 xn0_g2, row_all2 xi_g2, xRow_some, xCons_cons, xNil_nil, xSl_some, xStr_some, xAgg_agg, xInt_some, xBool_some, xTup_tup, xHeap_some, true_and]
  refine (reduceNeed_ok ((W7.rep hq0 hq1).same sk17) b).mono ?_
  rintro v k18 ⟨sk18, ga, gn, gc, ge, rfl, F9⟩
  have xw_k18 := sk18.get xw_k17 (Own.lt xw_k17)
  have xn0_k18 := sk18.get xn0_k17 (Own.lt xn0_k17)
  have xi_k18 := sk18.get xi_k17 (Own.lt xi_k17)
  have S_k18 := S_k17.cat sk18
  simp only [xTup_tup, xCons_cons, xNil_nil, xSl_some, xStr_some, xInt_some, xBool_some]
  have hwn : ((redN w nd0).1).length = wn := F5.1
  have hgn : ((redN w nd0).1).length = gn := F9.1
  have hgl := redN_len b nd0
  have R5 : Row k15.length k15 wa (wn * 2) (flat eP ((redN w nd0).1)) := rowN F5
  have T9 := (((sk16).cat sg2).cat sk17).cat sk18
  have R9 := R5.same T9
  refine (eqNeeds_ok (rowN F9) (R9.mono T9.le) (by omega) rfl).mono ?_
  rintro v k19 ⟨rfl, sk19⟩
  have xw_k19 := sk19.get xw_k18 (Own.lt xw_k18)
  have xn0_k19 := sk19.get xn0_k18 (Own.lt xn0_k18)
  have xi_k19 := sk19.get xi_k18 (Own.lt xi_k18)
  have S_k19 := S_k18.cat sk19
  simp only [xBool_some, beq_self_eq_true, Bool.not_true, bcase_false]
  apply F_laws_FnExactReduceNeed.J13i
  simp only [row_all2 xw_k19, row_all2 xn0_k19, row_all2 xi_k19, row_all2 xw_k18, row_all2 xn0_k18, row_all2 xi_k18, xRow_some, xCons_cons, xNil_nil, xSl_some, xStr_some, xAgg_agg, xInt_some, xBool_some, xTup_tup, xHeap_some, true_and]
  refine (toWorld_ok (r.same S_k19) b).mono ?_
  rintro v k20 ⟨u0, v0, j0, u1, v1, j1, ts, rfl, hv0, hv1, sk20, W10⟩
  have xw_k20 := sk20.get xw_k19 (Own.lt xw_k19)
  have xn0_k20 := sk20.get xn0_k19 (Own.lt xn0_k19)
  have xi_k20 := sk20.get xi_k19 (Own.lt xi_k19)
  have S_k20 := S_k19.cat sk20
  simp only [row_all2 xw_k20, row_all2 xn0_k20, row_all2 xi_k20, row_all2 xw_k19, row_all2 xn0_k19, row_all2 xi_k19, xRow_some, xCons_cons, xNil_nil, xSl_some, xStr_some, xAgg_agg, xInt_some, xBool_some, xTup_tup, xHeap_some, true_and]
  refine (eqWorld_ok (((((W7.rep hq0 hq1).same sk17).same sk18).same sk19).same sk20) (W10.rep hv0 hv1) b).mono ?_
  rintro v k21 ⟨rfl, sk21⟩
  have xw_k21 := sk21.get xw_k20 (Own.lt xw_k20)
  have xn0_k21 := sk21.get xn0_k20 (Own.lt xn0_k20)
  have xi_k21 := sk21.get xi_k20 (Own.lt xi_k20)
  have S_k21 := S_k20.cat sk21
  simp only [xBool_some, Bool.not_true, bcase_false]
  simp only [row_all2 xw_k21, row_all2 xn0_k21, row_all2 xi_k21, row_all2 xw_k20, row_all2 xn0_k20, row_all2 xi_k20, xRow_some, xCons_cons, xNil_nil, xSl_some, xStr_some, xAgg_agg, xInt_some, xBool_some, xTup_tup, xHeap_some, true_and]
  have T12 := ((((((sk16).cat sg2).cat sk17).cat sk18).cat sk19).cat sk20).cat sk21
  have lsk15 := sk15.le
  have lsk16 := sk16.le
  have lsg2 := sg2.le
  have lsk17 := sk17.le
  have lsk18 := sk18.le
  have lsk19 := sk19.le
  have lsk20 := sk20.le
  have lsk21 := sk21.le
  have lS5 := S_k15.le
  have W12 := (((((W7).same sk17).same sk18).same sk19).same sk20).same sk21
  refine (markWorld_ok W12 b (H := k16.length) ⟨W6.bel.cls, W6.bel.ins, W6.bel.need⟩ (by omega) (k := 1) (by omega)).mono ?_
  rintro v m1 ⟨⟨zm, rfl, hm0, hm1⟩, M13⟩
  simp only [xInt_some]
  rw [show decide (zm < 0) = false by simp; omega]
  simp only [bcase_false]
  have lm1 := M13.1
  have F13 : FreshR t_impl_Need eP k17.length m1 ga gn ((redN w nd0).1) := ((((F9).same sk19).same sk20).same sk21).mid M13 (by omega)
  have R13 : Row k15.length m1 wa (wn * 2) (flat eP ((redN w nd0).1)) := (R5.same T12).mid M13 (Nat.le_refl _)
  refine (eqNeeds_ok (rowN F13) (R13.mono (by omega)) (by omega) rfl).mono ?_
  rintro v m2 ⟨rfl, sm2⟩
  simp only [xBool_some, beq_self_eq_true, Bool.not_true, bcase_false]
  apply F_laws_FnExactReduceNeed.J19i
  have F14 := F13.same sm2
  have lm2 := sm2.le
  refine (markNeeds_ok F14 (k := 1) (by omega)).mono ?_
  rintro v m3 ⟨rfl, o15, F15⟩
  simp only [xInt_some]
  have hin := F14.in
  have M15 : Mid k17.length m2.length m2 m3 := o15.mid fun i hi hn => hin i hi hn
  have lm3 := M15.1
  refine (heldNeeds_ok (rowN F15) (by omega)).mono ?_
  rintro v m4 ⟨rfl, sm4⟩
  simp only [xInt_some]
  rw [show decide ((1 + 2 * (gn : Int)) < 0) = false by simp; omega]
  simp only [bcase_false, beq_self_eq_true, Bool.not_true]
  have lm4 := sm4.le
  have U : Same k15.length k15 m4 := ⟨by omega, fun j hj => by
    rw [sm4.eq j (by omega), M15.2 j (by omega) (.inl (by omega)), sm2.eq j (by omega), M13.2 j (by omega) (.inl (by omega)), T12.eq j hj]⟩
  have xw_m4 := U.get xw_k15 (Own.lt xw_k15)
  have xn0_m4 := U.get xn0_k15 (Own.lt xn0_k15)
  have S_m4 := S_k15.cat U
  simp only [row_all2 xw_m4, row_all2 xn0_m4, xRow_some, xCons_cons, xNil_nil, xSl_some, xStr_some, xAgg_agg, xInt_some, xBool_some, xTup_tup, xHeap_some, true_and]
  refine (toWorld_ok (r.same S_m4) b).mono ?_
  rintro v k22 ⟨P0, Q0, G0, P1, Q1, G1, Zs, rfl, hQ0, hQ1, sk22, W20⟩
  have xw_k22 := sk22.get xw_m4 (Own.lt xw_m4)
  have xn0_k22 := sk22.get xn0_m4 (Own.lt xn0_m4)
  have S_k22 := S_m4.cat sk22
  simp only [row_all2 xw_k22, row_all2 xn0_k22, row_all2 xw_m4, row_all2 xn0_m4, xRow_some, xCons_cons, xNil_nil, xSl_some, xStr_some, xAgg_agg, xInt_some, xBool_some, xTup_tup, xHeap_some, true_and]
  refine (toNeed_ok (c := nd0.1) (t := nd0.2)).mono ?_
  rintro v k23 ⟨rfl, sk23⟩
  have xw_k23 := sk23.get xw_k22 (Own.lt xw_k22)
  have xn0_k23 := sk23.get xn0_k22 (Own.lt xn0_k22)
  have S_k23 := S_k22.cat sk23
  simp only [row_all2 xw_k23, row_all2 xn0_k23, row_all2 xw_k22, row_all2 xn0_k22, xRow_some, xCons_cons, xNil_nil, xSl_some, xStr_some, xAgg_agg, xInt_some, xBool_some, xTup_tup, xHeap_some, true_and]
  refine (reduceNeed_ok ((W20.rep hQ0 hQ1).same sk23) b).mono ?_
  rintro v k24 ⟨sk24, Ga, Gn, Gc, Ge, rfl, F22⟩
  have xw_k24 := sk24.get xw_k23 (Own.lt xw_k23)
  have xn0_k24 := sk24.get xn0_k23 (Own.lt xn0_k23)
  have S_k24 := S_k23.cat sk24
  simp only [row_all2 xw_k24, row_all2 xn0_k24, row_all2 xw_k23, row_all2 xn0_k23, xRow_some, xCons_cons, xNil_nil, xSl_some, xStr_some, xAgg_agg, xInt_some, xBool_some, xTup_tup, xHeap_some, true_and]
  have R22 := R5.same ((((U).cat sk22).cat sk23).cat sk24)
  have lR := ((((U).cat sk22).cat sk23).cat sk24).le
  have hGn : ((redN w nd0).1).length = Gn := F22.1
  refine (eqNeeds_ok (rowN F22) (R22.mono lR) (by omega) rfl).mono ?_
  rintro v m9 ⟨rfl, sm9⟩
  simp only [xBool_some, beq_self_eq_true, Bool.not_true, bcase_false]
  apply F_laws_FnExactReduceNeed.J30i
  refine (heldNeeds_ok (rowN (((((F15.same sm4).same sk22).same sk23).same sk24).same sm9)) (by omega)).mono ?_
  rintro v m10 ⟨rfl, sm10⟩
  simp only [xInt_some]
  rw [show decide ((1 + 2 * (gn : Int)) < 0) = false by simp; omega]
  simp only [bcase_false, beq_self_eq_true, Bool.not_true]
end Go.Sim

set_option linter.unusedVariables false
namespace Go.Sim
open Go Go.RowKit
end Go.Sim
