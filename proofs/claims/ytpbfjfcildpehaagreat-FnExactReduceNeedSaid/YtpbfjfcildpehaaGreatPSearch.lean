/- A part of the proof of a statement of this seat: see the text that holds the theorem. No condition. -/
import Derived.Test.YtpbfjfcildpehaaGreatPTCAll2
import Derived.Test.YtpbfjfcildpehaaGreatCSMatch
import Derived.Test.YtpbfjfcildpehaaGreatPTCMatch
import Derived.Test.YtpbfjfcildpehaaGreatCIter
import Derived.Test.YtpbfjfcildpehaaGreatNm
import Derived.Test.YtpbfjfcildpehaaGreatCMarkN
set_option linter.unusedVariables false
set_option linter.unusedSimpArgs false
set_option linter.all false
set_option linter.unusedVariables false
set_option linter.unusedSimpArgs false
set_option maxRecDepth 20000
namespace Go.Sim
open Go Go.RowKit

theorem l2Length_ok : ∀ (N : Nat) {S : Nat → Prop} {h : AHeap} {t : Ty} {v : List AVal}, t.size ≤ N → t.txt.length ≤ 1048576 → SRep S h t v → SCall pg n_spec_l2Length [.agg v] h fun x h' => x = .int .i64 (t.txt.length : Nat) ∧ Same h.length h h'
  | 0, S, h, t, v, hN, _, _ => by have := t.size_ps; omega
  | N + 1, S, h, t, v, hN, hB, r => by
    obtain ⟨a, c, e, vs, rfl, hrow, hS, hvl, hp⟩ := r.parts
    have hps2 : t.ps.length ≤ 2 := by cases t <;> simp [Ty.ps]
    have htx := t.txt_mids
    have hln := congrArg List.length htx
    rw [List.length_append, List.length_cons] at hln
    apply F_spec_l2Length.call
    simp only [letH_def, hCell_last, Nat.zero_add, List.getElem?_cons_succ, List.getElem?_cons_zero, xSl_some]
    generalize hh0 : h ++ [AObj.cells t_spec_l1Node [.int .u8 (t.hd : Int), .slice a t.ps.length c e] false] = h0
    have s0 : Same h.length h h0 := by rw [← hh0]; exact same_last
    have o0 : h0[h.length]? = some (.cells t_spec_l1Node [.int .u8 (t.hd : Int), .slice a t.ps.length c e] false) := by rw [← hh0]; simp
    refine F_spec_l2Length.L3ind _ _ _ _ _ _ _ _ (J := fun (g : Nat) x3 x9 h' => x9 = (g : Int) ∧ g ≤ t.ps.length ∧ Same h.length h h' ∧ Same h0.length h0 h' ∧ x3 = ((1 + (midsL 0 (t.ps.take g)).length : Nat) : Int)) (fun g => t.ps.length - g) ?_ 0 _ _ _ ⟨rfl, by omega, s0, Same.refl _ _, by simp [midsL]⟩
    rintro g x3 x9 h' ⟨rfl, hg, hSm, hS1, rfl⟩ R hR
    unfold F_spec_l2Length.L3t
    have o2 := hS1.get o0 (Own.lt o0)
    refine bcase_dec (fun hlt => ?_) (fun hge => ?_)
    · have hg' : g < t.ps.length := by omega
      obtain ⟨i, o, a2, c2, e2, rfl, hr, hk⟩ := SRep.get (hrow.same' hSm) hvl (fun k w x h1 h2 => (hp k w x h1 h2).same hSm) hg'
      simp only [xSome_some, Int.toNat_natCast, hr, xRow_some, xCons_cons, xNil_nil, xInt_some, xSl_some, letH_def]
      rw [store2]
      simp only [xHeap_some]
      rw [rowL2]
      simp only [xRow_some, xCons_cons, xNil_nil, xInt_some, xSl_some]
      have hm := List.getElem_mem hg'
      have h1 := Ty.size_part hm
      have h2 := Ty.len_part hm
      have hmt := midsL_take t.ps 0 g hg'
      have hml : (midsL 0 (t.ps.take (g + 1))).length ≤ (midsL 0 t.ps).length := midsL_len _ _ _
      have hmtl := congrArg List.length hmt
      simp only [List.length_append, List.length_cons, Nat.zero_add] at hmtl
      have s2 : Same h'.length h' (h' ++ [.cells t_spec_l1Node [.int .u8 (t.ps[g].hd : Int), .slice a2 t.ps[g].ps.length c2 e2] false]) := same_last
      refine ⟨by omega, (l2Length_ok N (by omega) (by omega) (hk.same s2)).mono ?_⟩
      rintro x h3 ⟨rfl, s3⟩
      simp only [xInt_some]
      rw [wrap_nat (by omega), wrap_nat (by omega), IntWalk.i64_in _ (by omega)]
      exact hR (g + 1) _ _ _ (by omega) ⟨rfl, by omega, (hSm.cat s2).cat s3, (hS1.cat s2).cat s3, by omega⟩
    · apply F_spec_l2Length.A3x0i
      have : g = t.ps.length := by omega
      subst this
      simp only [hCell_of o2, Nat.zero_add, List.getElem?_cons_succ, List.getElem?_cons_zero, xSl_some]
      rw [List.take_length]
      refine bcase_dec (fun hpos => ?_) (fun hneg => ?_)
      · have hne : t.ps ≠ [] := fun e => by rw [e] at hpos; simp at hpos
        rw [if_neg hne] at hln
        apply F_spec_l2Length.J9i
        simp only [List.length_cons, List.length_nil] at hln
        rw [wrap_nat (by omega)]
        exact ⟨by congr 1; omega, hSm⟩
      · have hne : t.ps = [] := List.eq_nil_of_length_eq_zero (by omega)
        rw [if_pos hne] at hln
        simp only [List.length_nil] at hln
        apply F_spec_l2Length.J9i
        exact ⟨by congr 1; omega, hSm⟩
/-- The bindings of the first variables. -/
def bdTo (m : Bd) (g : Nat) : List Nd := (varsN.take g).filterMap fun v => (bget m v).map fun t => ([v], t.txt)
theorem bdTo_succ (m : Bd) (g : Nat) : bdTo m (g + 1) = bdTo m g ++ (match varsN[g]? with | some v => (match bget m v with | some t => [([v], t.txt)] | none => []) | none => []) := by
  unfold bdTo
  rw [List.take_succ, List.filterMap_append]
  cases varsN[g]? with
  | none => simp
  | some v => cases hb : bget m v <;> simp [hb]
theorem bdTo_len (m : Bd) (g : Nat) : (bdTo m g).length ≤ 6 := by
  unfold bdTo
  refine Nat.le_trans (List.length_filterMap_le _ _) ?_
  rw [List.length_take]; exact Nat.le_trans (Nat.min_le_right _ _) (by decide)
theorem sub_vars {g v : Nat} (hv : varsN[g]? = some v) : sub [88, 89, 90, 120, 121, 122, 49, 50, 51, 52, 53, 54] (g : Int) ((g : Int) + 1) = [v] := by
  have hg : g < 6 := (List.getElem?_eq_some_iff.1 hv).1
  match g, hg with
  | 0, _ | 1, _ | 2, _ | 3, _ | 4, _ | 5, _ => simp [varsN] at hv; subst hv; rfl
theorem l2Told_ok {S : Nat → Prop} {h : AHeap} {i : Nat} {m : Bd} (rm : MapR S h i m) (bo : BOk 60 m) :
    SCall pg n_spec_l2Told [.ptr (some (i, 0))] h fun v h' => Same h.length h h' ∧ ∃ a n c e, v = .tup [.slice a n c e, .bool true] ∧ n ≤ c ∧ FreshR t_impl_Binding eP h.length h' a n (bdL m) := by
  apply F_spec_l2Told.call
  simp only [letH_def, xSome_some]
  generalize hh0 : h ++ [AObj.cells t_impl_Binding [] false] = h0
  have s0 : Same h.length h h0 := by rw [← hh0]; exact same_last
  have l0 : h0.length = h.length + 1 := by rw [← hh0]; simp
  have o0 : h0[h.length]? = some (.cells t_impl_Binding [] false) := by rw [← hh0]; simp
  refine F_spec_l2Told.L3ind _ _ (J := fun (g : Nat) a4 n4 c4 e4 x10 h' => x10 = (g : Int) ∧ g ≤ 12 ∧ Same h.length h h' ∧ n4 = (bdTo m g).length ∧ n4 ≤ c4 ∧ Vec t_impl_Binding h' a4 n4 c4 (flat eP (bdTo m g)) ∧ (∀ i, a4 = some (i, 0) → h.length ≤ i)) (fun g => 12 - g) ?_ 0 _ _ _ _ _ _
    ⟨rfl, by omega, s0, by simp [bdTo], Nat.le_refl _, Vec.mk1 (by simpa [bdTo] using o0), fun i hi => by cases hi; omega⟩
  rintro g a4 n4 c4 e4 x10 h' ⟨rfl, hg, hSm, rfl, hnc, hv, ha⟩ R hR
  unfold F_spec_l2Told.L3t
  have hbl := bdTo_len m g
  refine bcase_dec (fun hlt => ?_) (fun hge => ?_)
  · have hg' : g < 12 := by omega
    obtain ⟨x, hx1, hx2, hx3⟩ := (rm.same hSm).get hg'
    have il := (rm.same hSm).lt
    have hx : ∃ (d : Nat) (a : Pt) (n c : Nat) (e : Bool), x = (.int .u8 (d : Int), .slice a n c e) ∧ (match (varsN[g]?).bind (bget m) with | some t => d = t.hd | none => d = 0) := by
      split at hx3
      · rename_i t ht
        obtain ⟨ua, uc, ue, hu⟩ := hx3.shape
        simp only [List.cons.injEq, and_true] at hu
        exact ⟨t.hd, ua, t.ps.length, uc, ue, by rw [← hu.1, ← hu.2], by first | rfl | rw [ht]⟩
      · rename_i hn; exact ⟨0, none, 0, 0, true, hx3, by first | rfl | rw [hn]⟩
    obtain ⟨d, ua, un, uc, ue, rfl, hd⟩ := hx
    simp only [Int.toNat_natCast, hx2, xSome_some, xRow_some, xCons_cons, xNil_nil, xInt_some, xSl_some, letH_def]
    generalize hq : h' ++ [AObj.cells t_spec_l1Node [.int .u8 0, .slice none 0 0 true] false] = hq'
    have sq : Same h'.length h' hq' := by rw [← hq]; exact same_last
    have hrq : hRow hq' (.ptr (some (i, 0 + g * 2))) 2 = some [.int .u8 (d : Int), .slice ua un uc ue] := by
      rw [← hx2]; simp only [hRow, sq.eq i il]
    rw [hrq, ← hq, store2]
    generalize hw : h' ++ [AObj.cells t_spec_l1Node [.int .u8 (d : Int), .slice ua un uc ue] false] = hw'
    have sw : Same h'.length h' hw' := by rw [← hw]; exact same_last
    have ow : hw'[h'.length]? = some (.cells t_spec_l1Node [.int .u8 (d : Int), .slice ua un uc ue] false) := by rw [← hw]; simp
    simp only [xHeap_some, hCell_of ow, Nat.zero_add, List.getElem?_cons_zero, xInt_some, true_and]
    have SW := hSm.cat sw
    have hsuc := bdTo_succ m g
    have skip : (varsN[g]?).bind (bget m) = none → F_spec_l2Told.J9 (fun v h' => Same h.length h h' ∧ ∃ a n c e, v = .tup [.slice a n c e, .bool true] ∧ n ≤ c ∧ FreshR t_impl_Binding eP h.length h' a n (bdL m)) R (g : Int) (some (i, 0)) a4 (bdTo m g).length c4 e4 hw' := by
      intro hn
      have hsame : bdTo m (g + 1) = bdTo m g := by
        rw [hsuc]
        cases hvg : varsN[g]? with
        | none => simp
        | some v => rw [hvg, Option.bind_some] at hn; simp [hn]
      apply F_spec_l2Told.J9i
      rw [wrap_nat (by omega)]
      exact hR (g + 1) _ _ _ _ _ _ (by omega) ⟨rfl, by omega, SW, by rw [hsame], hnc, by rw [hsame]; exact hv.same sw, ha⟩
    refine ⟨by omega, ?_⟩
    cases hb : (varsN[g]?).bind (bget m) with
    | none =>
      rw [hb] at hd
      simp only at hd
      subst hd
      simp only [show (((0 : Nat) : Int) == 0) = true from rfl, bcase_true]
      exact skip hb
    | some t =>
      rw [hb] at hd hx3
      simp only at hd hx3
      obtain ⟨v, hvg, hbv⟩ := Option.bind_eq_some_iff.1 hb
      have hu := bo.var _ (bget_mem hbv)
      have hg6 : g < 6 := (List.getElem?_eq_some_iff.1 hvg).1
      have hd0 : ((d : Int) == 0) = false := by
        have := ok_letter hu.2.1
        have hne : t.hd ≠ 0 := fun e => by rw [e] at this; simp at this
        simp; omega
      rw [show decide ((g : Int) ≥ 6) = false by simp; omega]
      simp only [hd0, bcase_false]
      apply F_spec_l2Told.J6i
      rw [← hw, rowL2, hw]
      simp only [xRow_some, xCons_cons, xNil_nil, xInt_some, xSl_some]
      have hu2 : t.txt.length ≤ 60 := hu.2.2
      refine (l2Length_ok _ (Nat.le_refl _) (by omega) (hx3.same sw)).mono ?_
      rintro v' h3 ⟨rfl, s3⟩
      have o3 := s3.get ow (Own.lt ow)
      simp only [xInt_some]
      rw [show decide (((t.txt.length : Nat) : Int) > 60) = false by simp; omega]
      simp only [bcase_false, hRow_of o3 (show 0 + 2 ≤ _ by simp), List.drop_zero, List.take_succ_cons, List.take_zero, xRow_some, xCons_cons, xNil_nil, xInt_some, xSl_some]
      rw [wrap_nat (by omega), show (((g + 1 : Nat) : Int)) = (g : Int) + 1 by omega, sub_vars hvg]
      refine ⟨⟨by omega, by omega, by simp; omega⟩, (l1Text_ok _ (Nat.le_refl _) (by omega) hu.2.1 ((hx3.same sw).same s3)).mono ?_⟩
      rintro v' h4 ⟨rfl, s4⟩
      simp only [xStr_some, letH_def]
      have S4 := (SW.cat s3).cat s4
      refine (((hv.same sw).same s3).same s4).pushN u_L_Binding c_Binding k_Binding b_Binding (by rw [flat_length eP_len]) rfl (by omega) rfl (by omega) (fun h6 hl6 hi6 hk6 => ?_)
      simp only [xSl_some]
      apply F_spec_l2Told.J9i
      rw [wrap_nat (by omega)]
      have hle := S4.le
      have hs' : bdTo m (g + 1) = bdTo m g ++ [([v], t.txt)] := by rw [hsuc, hvg]; simp [hbv]
      refine hR (g + 1) _ _ _ _ _ _ (by omega) ⟨rfl, by omega, ⟨by omega, fun j hj => ?_⟩, by rw [hs']; simp, Nat.le_refl _, Vec.mk1 ?_, fun i hi => by cases hi; omega⟩
      · rw [hk6 j (by omega) fun i hi => by have := ha i hi; omega]; exact S4.eq j hj
      · rw [hi6, hs', flat_append]; rfl
  · apply F_spec_l2Told.A3x0i
    have : g = 12 := by omega
    subst this
    have hb12 : bdTo m 12 = bdL m := by unfold bdTo bdL; rw [List.take_of_length_le (by decide)]
    rw [hb12] at hv hnc ⊢
    exact ⟨hSm, _, _, _, _, rfl, hnc, hv.fresh (b := h.length) rfl fun i hi => ha i hi⟩
theorem zeros12 : flat eR (List.replicate 12 (AVal.int .u8 0, AVal.slice none 0 0 true)) = [.int .u8 0, .slice none 0 0 true, .int .u8 0, .slice none 0 0 true, .int .u8 0, .slice none 0 0 true, .int .u8 0, .slice none 0 0 true, .int .u8 0, .slice none 0 0 true, .int .u8 0, .slice none 0 0 true, .int .u8 0, .slice none 0 0 true, .int .u8 0, .slice none 0 0 true, .int .u8 0, .slice none 0 0 true, .int .u8 0, .slice none 0 0 true, .int .u8 0, .slice none 0 0 true, .int .u8 0, .slice none 0 0 true] := rfl
/-- A node that was read: its cells, whether it is one or not. -/
theorem read_shape {h h' : AHeap} {s : List Nat} {vs : List AVal} (hm : match ofTxt s with | some t => SRep (Btw h.length h'.length) h' t vs | none => vs = [.int .u8 0, .slice none 0 0 true]) : ∃ (d : Int) (a : Pt) (n c : Nat) (e : Bool), vs = [.int .u8 d, .slice a n c e] := by
  split at hm
  · obtain ⟨a, c, e, rfl⟩ := hm.shape; exact ⟨_, _, _, _, _, rfl⟩
  · exact ⟨_, _, _, _, _, hm⟩
theorem sMatchType_ok (p s : List Nat) (hp0 : p.length ≤ 1048576) (hs0 : s.length ≤ 1048576) (h : AHeap) : SCall pg n_spec_MatchType [.str p, .str s] h (MatchQ p s h) := by
  apply F_spec_MatchType.call
  refine (l1Read_ok p (by omega) h).mono ?_
  rintro v h1 ⟨s1, vs1, rfl, r1⟩
  obtain ⟨d1, a1, n1, c1, e1, rfl⟩ := read_shape r1
  simp only [xTup_tup, xCons_cons, xAgg_agg, xInt_some, xSl_some, xNil_nil, xBool_some, letH_def]
  rw [store2]
  generalize hh2 : h1 ++ [AObj.cells t_spec_l1Node [.int .u8 d1, .slice a1 n1 c1 e1] false] = h2
  have s2 : Same h1.length h1 h2 := by rw [← hh2]; exact same_last
  have o2 : h2[h1.length]? = some (.cells t_spec_l1Node [.int .u8 d1, .slice a1 n1 c1 e1] false) := by rw [← hh2]; simp
  simp only [xHeap_some]
  refine (l1Read_ok s (by omega) h2).mono ?_
  rintro v h3 ⟨s3, vs3, rfl, r3⟩
  obtain ⟨d3, a3, n3, c3, e3, rfl⟩ := read_shape r3
  simp only [xTup_tup, xCons_cons, xAgg_agg, xInt_some, xSl_some, xNil_nil, xBool_some]
  rw [store2]
  generalize hh4 : h3 ++ [AObj.cells t_spec_l1Node [.int .u8 d3, .slice a3 n3 c3 e3] false] = h4
  have s4 : Same h3.length h3 h4 := by rw [← hh4]; exact same_last
  have o4 : h4[h3.length]? = some (.cells t_spec_l1Node [.int .u8 d3, .slice a3 n3 c3 e3] false) := by rw [← hh4]; simp
  simp only [xHeap_some]
  rw [← zeros12]
  generalize hh5 : h4 ++ [AObj.cells t_spec_l2Map (flat eR (List.replicate 12 (AVal.int .u8 0, AVal.slice none 0 0 true))) false] = h5
  have s5 : Same h4.length h4 h5 := by rw [← hh5]; exact same_last
  have o5 : h5[h4.length]? = some (.cells t_spec_l2Map (flat eR (List.replicate 12 (AVal.int .u8 0, AVal.slice none 0 0 true))) false) := by rw [← hh5]; simp
  have x2 : h5[h1.length]? = some (.cells t_spec_l1Node [.int .u8 d1, .slice a1 n1 c1 e1] false) := s5.get (s4.get (s3.get o2 (Own.lt o2)) (by have := Own.lt o2; have := s3.le; omega)) (by have := Own.lt o2; have := s3.le; have := s4.le; omega)
  have x4 := s5.get o4 (Own.lt o4)
  have S2 := s1.cat s2
  have S5 := (((S2.cat s3).cat s4).cat s5)
  have no : matchS p s = none → ∀ hz, Same h.length h hz → MatchQ p s h (.tup [.slice (some (hz.length, 0)) 0 0 true, .bool false]) (hz ++ [AObj.cells t_impl_Binding [] false]) := fun hn hz sz =>
    ⟨sz.cat same_last, _, 0, 0, true, by unfold instS; rw [hn]; rfl, Nat.le_refl _, by unfold matchR; rw [hn]; exact ⟨rfl, .inl rfl⟩⟩
  cases hp : ofTxt p with
  | none =>
    have : tyOk p = false := by unfold tyOk; rw [hp]; rfl
    rw [this]
    simp only [Bool.not_false, bcase_true]
    exact no (by unfold matchS; rw [hp]) _ S5
  | some a =>
    rw [tyOk_of hp]
    simp only [Bool.not_true, bcase_false]
    cases ht : ofTxt s with
    | none =>
      have : tyOk s = false := by unfold tyOk; rw [ht]; rfl
      rw [this]
      simp only [Bool.not_false, bcase_true]
      exact no (by unfold matchS; rw [hp, ht]) _ S5
    | some t =>
      rw [tyOk_of ht]
      rw [hp] at r1
      rw [ht] at r3
      simp only at r1 r3
      simp only [Bool.not_true, bcase_false, hRow_of x2 (show 0 + 2 ≤ _ by simp), hRow_of x4 (show 0 + 2 ≤ _ by simp), List.drop_zero, List.take_succ_cons, List.take_zero, xRow_some, xCons_cons, xNil_nil, xInt_some, xSl_some]
      obtain ⟨ha1, ha2, ha3⟩ := ofTxt_some.1 hp
      obtain ⟨ht1, ht2, ht3⟩ := ofTxt_some.1 ht
      have hms : matchS p s = matchT [] a t := by unfold matchS; rw [hp, ht]
      have l3 := s3.le; have l4 := s4.le; have l2 := s2.le
      have R1 := ((((r1.same s2).same s3).same s4).same s5).mono (S' := fun j => j ≠ h4.length) (fun j hj => by have := hj.2; omega)
      have R3 := ((r3.same s4).same s5).mono (S' := fun j => j ≠ h4.length) (fun j hj => by have := hj.2; omega)
      refine (l2Match_ok _ (Nat.le_refl _) ha1 ht1 (n := 60) (by omega) (by rw [← ht2]; exact ht3) BOk.nil (fun j hj => hj) R1 R3 (MapR.nil o5)).mono ?_
      rintro v h6 ⟨K6, hres⟩
      have l5 := S5.le
      have lh4 : h.length ≤ h4.length := (((S2.cat s3).cat s4)).le
      have S6 : Same h.length h h6 := ⟨by have := K6.le; omega, fun j hj => by rw [K6.eq j (by omega) (by omega)]; exact S5.eq j hj⟩
      cases hm : matchT [] a t with
      | none =>
        rw [hm] at hres hms
        subst hres
        simp only [xBool_some, Bool.not_false, bcase_true]
        exact no hms _ S6
      | some m =>
        rw [hm] at hres hms
        obtain ⟨rfl, rm6⟩ := hres
        simp only [xBool_some, Bool.not_true, bcase_false]
        apply F_spec_MatchType.J6i
        refine (l2Told_ok rm6 (matchS_ok hms)).mono ?_
        rintro v h7 ⟨s7, a7, n7, c7, e7, rfl, hc7, f7⟩
        simp only [xTup_tup, xCons_cons, xSl_some, xBool_some, xNil_nil]
        refine ⟨S6.cat s7, a7, n7, c7, e7, by unfold instS; rw [hms]; rfl, hc7, ?_⟩
        unfold matchR; rw [hms]
        exact ⟨f7.1, f7.2.imp id fun ⟨i, ha, hb, hi⟩ => ⟨i, ha, by have := S6.le; omega, hi⟩⟩
theorem sIsInstance_ok (p s : List Nat) (hp0 : p.length ≤ 1048576) (hs0 : s.length ≤ 1048576) (h : AHeap) : SCall pg n_spec_IsInstance [.str p, .str s] h fun v h' => v = .bool (instS p s) ∧ Same h.length h h' := by
  apply F_spec_IsInstance.call
  refine (sMatchType_ok p s hp0 hs0 h).mono ?_
  rintro v h1 ⟨s1, a, n, c, e, rfl, _⟩
  simp only [xTup_tup, xCons_cons, xSl_some, xBool_some, xNil_nil]
  exact ⟨by trivial, s1⟩
end Go.Sim

set_option linter.unusedVariables false
set_option linter.unusedSimpArgs false
set_option maxRecDepth 20000
namespace Go.Sim
open Go Go.RowKit

theorem isVarS_len {s : List Nat} (h : ((s.length : Nat) : Int) ≠ 1) : isVarS s = false := by
  match s, h with
  | [], _ => rfl
  | [x], h => exact absurd rfl h
  | _ :: _ :: _, _ => rfl
theorem one_of {s : List Nat} (h : ((s.length : Nat) : Int) = 1) : ∃ v, s = [v] := by
  match s, h with
  | [], h => simp at h
  | [x], _ => exact ⟨x, rfl⟩
  | _ :: _ :: _, h => simp at h; omega
theorem sBindingsValid_ok {h : AHeap} {a : Pt} {n c : Nat} {e : Bool} {l : List Nd} (r : Row h.length h a (n * 2) (flat eP l)) (hn : n ≤ 1048576) (hb : ∀ p ∈ l, p.2.length ≤ 1048576) (hb1 : ∀ p ∈ l, ∀ x ∈ p.1, x < 256) :
    SCall pg n_spec_BindingsValid [.slice a n c e] h fun v h' => v = .bool (bindOk l) ∧ Same h.length h h' := by
  have hl : l.length = n := by have := r.1; rw [flat_length eP_len] at this; omega
  apply F_spec_BindingsValid.call
  refine F_spec_BindingsValid.L2ind _ _ _ _ _ _ _ _ _ _ (J := fun (g : Nat) x7 h' => x7 = (g : Int) ∧ g ≤ n ∧ Same h.length h h' ∧ (List.range g).all (bindAt l) = true) (fun g => n - g) ?_ 0 _ _ ⟨rfl, by omega, Same.refl _ _, rfl⟩
  rintro g x7 h' ⟨rfl, hg, hS, hk⟩ R hR
  unfold F_spec_BindingsValid.L2t
  refine bcase_dec (fun hlt => ?_) (fun hge => ?_)
  · obtain ⟨i, o, hgl, rfl, hi, hr, _, _⟩ := (r.same hS).pr (k := g) (by omega)
    have hat : bindAt l g = (isVarS l[g].1 && tyOk l[g].2 && (g == 0 || natLess (l.getD (g - 1) ([], [])).1 l[g].1)) := by unfold bindAt; rw [getD_at hgl]
    have no : bindAt l g = false → bindOk l = false := fun hno => range_not_all hgl hno
    have hbg := hb _ (List.getElem_mem hgl)
    have hbg1 := hb1 _ (List.getElem_mem hgl)
    simp only [xSome_some, Int.toNat_natCast, hr, xRow_some, xCons_cons, xNil_nil, xStr_some, letH_def]
    rw [store2]
    generalize hq : h' ++ [AObj.cells t_impl_Binding [.str l[g].1, .str l[g].2] false] = hq'
    have sq : Same h'.length h' hq' := by rw [← hq]; exact same_last
    have oq : hq'[h'.length]? = some (.cells t_impl_Binding [.str l[g].1, .str l[g].2] false) := by rw [← hq]; simp
    have Sq := hS.cat sq
    simp only [xHeap_some, hCell_of oq, Nat.zero_add, List.getElem?_cons_succ, List.getElem?_cons_zero, xStr_some, true_and]
    refine ⟨by omega, bcase_nbeq (fun b0 => ⟨by rw [no (by rw [hat, isVarS_len b0]; rfl)], Sq⟩) (fun b0 => ?_)⟩
    obtain ⟨v, hv⟩ := one_of b0
    rw [hv] at hbg1
    have hvl := hbg1 v (by simp)
    rw [hv]
    refine ⟨by simp, ?_⟩
    simp only [Int.toNat_zero, List.getD_cons_zero]
    refine (l1Variable_ok v).mono ?_
    rintro v' h2 ⟨rfl, rfl⟩
    simp only [xBool_some]
    have hiv : isVarS l[g].1 = isVarN v := by rw [hv]; rfl
    refine bcase_not (fun b1 => ⟨by rw [no (by rw [hat, hiv, b1]; rfl)], Sq⟩) (fun b1 => ?_)
    simp only [hCell_of oq, List.getElem?_cons_succ, List.getElem?_cons_zero, xStr_some]
    refine (sTypeValid_ok l[g].2 (by omega) h2).mono ?_
    rintro v' h3 ⟨rfl, s3⟩
    simp only [xBool_some]
    have S3 := Sq.cat s3
    refine bcase_not (fun b2 => ⟨by rw [no (by rw [hat, b2]; simp)], S3⟩) (fun b2 => ?_)
    have go : (g = 0 ∨ natLess (l.getD (g - 1) ([], [])).1 l[g].1 = true) → F_spec_BindingsValid.J6 (fun v h' => v = .bool (bindOk l) ∧ Same h.length h h') R (g : Int) (((n : Nat) : Int)) (some (i, o)) n c e (some (i, o)) n c e h3 := by
      intro hz
      apply F_spec_BindingsValid.J6i
      rw [wrap_nat (by omega)]
      refine hR (g + 1) _ _ (by omega) ⟨rfl, by omega, S3, range_succ_all hk ?_⟩
      rw [hat, hiv, b1, b2]
      rcases hz with rfl | hz
      · rfl
      · rw [hz]; simp
    refine bcase_dec (fun hpos => ?_) (fun hz => go (.inl (by omega)))
    have hg0 : 0 < g := by omega
    obtain ⟨i', o', hgl', he, _, _, hc', _⟩ := (r.same S3).pr (k := g - 1) (by omega)
    cases he
    rw [wrap_pred1 hg0 (by omega)]
    simp only [xSome_some, Int.toNat_natCast, Nat.add_zero, hc', hCell_of (s3.get oq (Own.lt oq)), List.getElem?_cons_zero, xStr_some, true_and]
    have hgd : l.getD (g - 1) ([], []) = l[g - 1] := getD_at hgl'
    refine ⟨by omega, bcase_not (fun b3 => ⟨by rw [no (by rw [hat, hiv, b1, b2, hgd, b3]; simp; omega)], S3⟩) (fun b3 => go (.inr (by rw [hgd]; exact b3)))⟩
  · apply F_spec_BindingsValid.A2x0i
    have : g = n := by omega
    subst this
    exact ⟨by unfold bindOk; rw [hl, hk], hS⟩
theorem SRep.below {S : Nat → Prop} {h : AHeap} : ∀ {t : Ty} {v : List AVal}, SRep S h t v → SRep (fun j => S j ∧ j < h.length) h t v
  | .k d, _, h => h
  | .u d x, _, ⟨j, c, e, r, hv, sj, hj, hr⟩ => ⟨j, c, e, r, hv, ⟨sj, Own.lt hj⟩, hj, hr.below⟩
  | .w d x y, _, ⟨j, c, e, r, r', hv, sj, hj, hr, hr'⟩ => ⟨j, c, e, r, r', hv, ⟨sj, Own.lt hj⟩, hj, hr.below, hr'.below⟩
theorem subst_ps {f : Nat → Option Ty} {t : Ty} (h : f t.hd = none ∨ t.ps ≠ []) : (subst f t).hd = t.hd ∧ (subst f t).ps = t.ps.map (subst f) := by
  cases t with
  | k c =>
    have : f c = none := by rcases h with h | h; exact h; exact absurd rfl h
    simp [subst, this, Ty.hd, Ty.ps]
  | u c a => simp [subst, Ty.hd, Ty.ps]
  | w c a b => simp [subst, Ty.hd, Ty.ps]
theorem vu_L_l1Node : pg.underlying t_L_spec_l1Node = some (.slice t_spec_l1Node) := by kernel_rfl
theorem vc_l1Node : pg.cellsOf t_spec_l1Node = 2 := by kernel_rfl
theorem vk_l1Node : pg.okElem t_spec_l1Node = true := by kernel_rfl
theorem vb_l1Node : pg.bytesOf t_spec_l1Node ≤ 127 := Nat.le_of_ble_eq_true (by kernel_rfl)
theorem flatten_len2 {vs : List (List AVal)} (h : ∀ v ∈ vs, v.length = 2) : vs.flatten.length = vs.length * 2 := by
  rw [List.length_flatten]
  induction vs with
  | nil => rfl
  | cons v vs ih =>
    have h1 := h v (by simp)
    have h2 := ih (fun x hx => h x (by simp [hx]))
    simp only [List.map_cons, List.sum_cons, List.length_cons]; omega
/-- Putting what variables stand for into a tree. -/
theorem l2Put_ok : ∀ (N : Nat) {t : Ty} {S : Nat → Prop} {h : AHeap} {vt : List AVal} {i : Nat} {m : Bd}, t.size ≤ N → t.ok = true → (∀ j, S j → j < h.length ∧ j ≠ i) → SRep S h t vt → MapR S h i m → (∀ v u, bget m v = some u → u.ok = true) → (∀ v, isVarN v = false → bget m v = none) →
    SCall pg n_spec_l2Put [.ptr (some (i, 0)), .agg vt] h fun x h' => Same h.length h h' ∧ ∃ vs, x = .agg vs ∧ SRep (fun j => S j ∨ h.length ≤ j) h' (subst (bget m) t) vs
  | 0, t, S, h, vt, i, m, hN, _, _, _, _, _, _ => by have := t.size_ps; omega
  | N + 1, t, S, h, vt, i, m, hN, ht, hSi, rt, rm, hmo, hmn => by
    obtain ⟨at', ct, et, vts, rfl, rowt, hSt, hvtl, hvt⟩ := id rt.parts
    have hps2 : t.ps.length ≤ 2 := by cases t <;> simp [Ty.ps]
    have hil := rm.lt
    apply F_spec_l2Put.call
    simp only [letH_def]
    generalize hh0 : h ++ [AObj.cells t_spec_l1Node [.int .u8 (t.hd : Int), .slice at' t.ps.length ct et] false] = h0
    generalize hh1 : h0 ++ [AObj.cells t_spec_l1Node [.int .u8 0, .slice none 0 0 true] false] = h1
    have s0 : Same h.length h h0 := by rw [← hh0]; exact same_last
    have s1 : Same h0.length h0 h1 := by rw [← hh1]; exact same_last
    have o0 : h0[h.length]? = some (.cells t_spec_l1Node [.int .u8 (t.hd : Int), .slice at' t.ps.length ct et] false) := by rw [← hh0]; simp
    have oa := s1.get o0 (Own.lt o0)
    have oz : h1[h0.length]? = some (.cells t_spec_l1Node [.int .u8 0, .slice none 0 0 true] false) := by rw [← hh1]; simp
    have S1 := s0.cat s1
    have l0 : h0.length = h.length + 1 := by rw [← hh0]; simp
    have l1 : h1.length = h.length + 2 := by rw [← hh1]; simp [l0]
    simp only [hCell_of oa, Nat.zero_add, List.getElem?_cons_succ, List.getElem?_cons_zero, xInt_some]
    refine (l2Index_ok t.hd).mono ?_
    rintro v h2 ⟨rfl, rfl⟩
    have rm1 := rm.same S1
    simp only [xInt_some, xSome_some]
    -- nothing stands for the letter
    have main : bget m t.hd = none → F_spec_l2Put.J4 (fun x h' => Same h.length h h' ∧ ∃ vs, x = .agg vs ∧ SRep (fun j => S j ∨ h.length ≤ j) h' (subst (bget m) t) vs) h.length 0 (some (i, 0)) h0.length 0 h2 := by
      intro hno
      obtain ⟨hsh, hsp⟩ := subst_ps (f := bget m) (t := t) (.inl hno)
      apply F_spec_l2Put.J4i
      simp only [hCell_of oa, Nat.zero_add, List.getElem?_cons_succ, List.getElem?_cons_zero, xInt_some, letH_def]
      generalize hh3 : h2 ++ [AObj.cells t_spec_l1Node [] false] = h3
      have s3 : Same h2.length h2 h3 := by rw [← hh3]; exact same_last
      have o3 : h3[h2.length]? = some (.cells t_spec_l1Node [] false) := by rw [← hh3]; simp
      have l3 : h3.length = h2.length + 1 := by rw [← hh3]; simp
      rw [store2]
      generalize hh4 : h3 ++ [AObj.cells t_spec_l1Node [.int .u8 (t.hd : Int), .slice (some (h2.length, 0)) 0 0 true] false] = h4
      have s4 : Same h3.length h3 h4 := by rw [← hh4]; exact same_last
      have o4 : h4[h3.length]? = some (.cells t_spec_l1Node [.int .u8 (t.hd : Int), .slice (some (h2.length, 0)) 0 0 true] false) := by rw [← hh4]; simp
      have l4 : h4.length = h3.length + 1 := by rw [← hh4]; simp
      have oa4 := s4.get (s3.get oa (Own.lt oa)) (by have := Own.lt oa; omega)
      have oz4 := s4.get (s3.get oz (Own.lt oz)) (by have := Own.lt oz; omega)
      have o34 := s4.get o3 (Own.lt o3)
      have S4 := (S1.cat s3).cat s4
      simp only [xHeap_some, hCell_of oa4, List.getElem?_cons_succ, List.getElem?_cons_zero, xSl_some]
      refine F_spec_l2Put.L6ind _ _ _ _ _ _ _ _ _ _ _ (J := fun (g : Nat) x35 h' => x35 = (g : Int) ∧ g ≤ t.ps.length ∧ Same h.length h h' ∧ h4.length ≤ h'.length ∧ h'[h0.length]? = some (.cells t_spec_l1Node [.int .u8 0, .slice none 0 0 true] false) ∧
        ∃ (a : Pt) (cp : Nat) (e : Bool) (vs : List (List AVal)), h'[h3.length]? = some (.cells t_spec_l1Node [.int .u8 (t.hd : Int), .slice a g cp e] false) ∧ vs.length = g ∧ Vec t_spec_l1Node h' a g cp vs.flatten ∧ (∀ j, a = some (j, 0) → j = h2.length ∨ h4.length ≤ j) ∧
          ∀ (k : Nat) (v : List AVal) (x : Ty), vs[k]? = some v → t.ps[k]? = some x → SRep (fun j => (S j ∨ h4.length ≤ j) ∧ ∀ j0, a = some (j0, 0) → j ≠ j0) h' (subst (bget m) x) v)
        (fun g => t.ps.length - g) ?_ 0 _ _ ⟨rfl, by omega, S4, Nat.le_refl _, oz4, some (h2.length, 0), 0, true, [], o4, rfl, Vec.mk1 (by simpa using o34), fun j hj => by cases hj; exact .inl rfl, by simp⟩
      rintro g x35 h' ⟨rfl, hg, hS, hl4, hz, a, cp, e, vs, ho, hvl, hv, ha, hp⟩ R hR
      unfold F_spec_l2Put.L6t
      have hz2 : ∀ v ∈ vs, v.length = 2 := fun v hv => by
        obtain ⟨k, hk, rfl⟩ := List.mem_iff_getElem.1 hv
        exact (hp k vs[k] (t.ps[k]'(by omega)) (List.getElem?_eq_getElem hk) (List.getElem?_eq_getElem (by omega))).len
      refine bcase_dec (fun hlt => ?_) (fun hge => ?_)
      · have hgt : g < t.ps.length := by omega
        obtain ⟨jt, oft, a4, c4, e4, rfl, hrt, hkt⟩ := SRep.get (rowt.same' hS) hvtl (fun k w x h1 h2 => (hvt k w x h1 h2).same hS) hgt
        simp only [xSome_some, Int.toNat_natCast, hrt, xRow_some, xCons_cons, xNil_nil, xInt_some, xSl_some, letH_def]
        rw [store2]
        generalize hq : h' ++ [AObj.cells t_spec_l1Node [.int .u8 (t.ps[g].hd : Int), .slice a4 t.ps[g].ps.length c4 e4] false] = hq'
        have sq : Same h'.length h' hq' := by rw [← hq]; exact same_last
        have oq := sq.get ho (Own.lt ho)
        simp only [xHeap_some, hCell_of oq, Nat.zero_add, List.getElem?_cons_succ, List.getElem?_cons_zero, xSl_some]
        rw [← hq, rowL2, hq]
        simp only [xRow_some, xCons_cons, xNil_nil, xInt_some, xSl_some, true_and]
        have hmt := List.getElem_mem hgt
        have h1 := Ty.size_part hmt
        have hlq := sq.le
        have hSle := hS.le
        refine ⟨by omega, (l2Put_ok N (by omega) (Ty.ok_ps ht _ hmt) (S := S) (fun j hj => ⟨by have := (hSi j hj).1; omega, (hSi j hj).2⟩) (hkt.same sq) (rm.same (hS.cat sq)) hmo hmn).mono ?_⟩
        rintro v h5 ⟨s5, nv, rfl, hn5⟩
        obtain ⟨na, nc, ne, hnv⟩ := hn5.shape
        rw [hnv] at hn5
        have o5 := s5.get oq (Own.lt oq)
        simp only [hnv, xAgg_agg, xCons_cons, xNil_nil, xInt_some, xSl_some, hCell_of o5, List.getElem?_cons_succ, List.getElem?_cons_zero, true_and]
        have hc6 : hCell (h5 ++ [AObj.cells t_spec_l1Node [.int .u8 ((subst (bget m) t.ps[g]).hd : Int), .slice na (subst (bget m) t.ps[g]).ps.length nc ne] false]) (.ptr (some (h3.length, 1))) = some (.slice a g cp e) := by rw [hCell_of (app_old o5)]; rfl
        refine ⟨by rw [hc6], ?_⟩
        have v5 := (hv.same sq).same s5
        have hl5 := s5.le
        refine v5.pushN vu_L_l1Node vc_l1Node vk_l1Node vb_l1Node (by rw [flatten_len2 hz2]; omega) rfl (by omega) rfl (by omega) (fun h7 hl7 hi7 hk7 => ?_)
        simp only [xSl_some]
        have hz5 := s5.get (sq.get hz (Own.lt hz)) (by have := Own.lt hz; omega)
        have ha5 : ∀ j, a = some (j, 0) → j = h2.length ∨ h4.length ≤ j := ha
        have o7 : h7[h3.length]? = some (.cells t_spec_l1Node [.int .u8 (t.hd : Int), .slice a g cp e] false) := by
          rw [hk7 _ (Own.lt o5) fun j hj => by rcases ha j hj with hh | hh <;> omega]; exact o5
        rw [hStore_of o7 (by simp)]
        simp only [xHeap_some, putRow, List.take_succ_cons, List.take_zero, List.length_cons, List.length_nil, List.drop_succ_cons, List.drop_nil, List.cons_append, List.nil_append, List.append_nil]
        rw [wrap_nat (by omega)]
        have hS5 := (hS.cat sq).cat s5
        have h7o : ∀ j, j < h5.length → (∀ j0, a = some (j0, 0) → j ≠ j0) → j ≠ h3.length → (h7.set h3.length (AObj.cells t_spec_l1Node [.int .u8 (t.hd : Int), .slice (some (h5.length + 1, 0)) (g + 1) (g + 1) false] false))[j]? = h5[j]? := fun j hj hne hne2 => by rw [set_ne (by omega), hk7 j hj hne]
        refine hR (g + 1) _ _ (by omega) ⟨rfl, by omega, ⟨by simp; omega, fun j hj => ?_⟩, by simp; omega, ?_, some (h5.length + 1, 0), g + 1, false, vs ++ [[.int .u8 ((subst (bget m) t.ps[g]).hd : Int), .slice na (subst (bget m) t.ps[g]).ps.length nc ne]], set_get o7, by simp [hvl], Vec.mk1 ?_, fun j hj => by cases hj; right; omega, ?_⟩
        · rw [h7o j (by omega) (fun j0 hj0 => by rcases ha j0 hj0 with hh | hh <;> omega) (by omega)]; exact hS5.eq j hj
        · rw [h7o _ (Own.lt hz5) (fun j0 hj0 => by rcases ha j0 hj0 with hh | hh <;> omega) (by omega)]; exact hz5
        · rw [set_ne (by omega), hi7]; simp
        · intro k v x hv' hx
          have hkeep : ∀ {t' : Ty} {v' : List AVal}, SRep (fun j => (S j ∨ h4.length ≤ j) ∧ ∀ j0, a = some (j0, 0) → j ≠ j0) h5 t' v' → SRep (fun j => (S j ∨ h4.length ≤ j) ∧ ∀ j0, (some (h5.length + 1, 0) : Pt) = some (j0, 0) → j ≠ j0) (h7.set h3.length (AObj.cells t_spec_l1Node [.int .u8 (t.hd : Int), .slice (some (h5.length + 1, 0)) (g + 1) (g + 1) false] false)) t' v' := by
            intro t' v' hr
            have hr2 := hr.below
            refine SRep.mono (S := fun j => ((S j ∨ h4.length ≤ j) ∧ ∀ j0, a = some (j0, 0) → j ≠ j0) ∧ j < h5.length) (fun j hj => ⟨hj.1.1, fun j0 e0 => by cases e0; have := hj.2; omega⟩) (hr2.agree fun j hj => ?_)
            refine h7o j hj.2 hj.1.2 ?_
            rcases hj.1.1 with h8 | h8
            · have := (hSi j h8).1; omega
            · omega
          by_cases hkl : k < vs.length
          · rw [List.getElem?_append_left hkl] at hv'
            exact hkeep (((hp k v x hv' hx).same sq).same s5)
          · rw [List.getElem?_append_right (by omega)] at hv'
            have hk0 : k = vs.length := by
              by_cases e : k - vs.length = 0
              · omega
              · rw [List.getElem?_eq_none (by simp; omega)] at hv'; cases hv'
            subst hk0
            simp at hv'
            subst hv'
            rw [hvl, List.getElem?_eq_getElem hgt] at hx
            cases hx
            refine hkeep (SRep.mono (S := fun j => S j ∨ hq'.length ≤ j) (fun j hj => ⟨?_, fun j0 e0 => ?_⟩) hn5)
            · rcases hj with h8 | h8
              · exact .inl h8
              · exact .inr (by omega)
            · have hj0 := (hv.same sq).lt' e0
              rcases hj with h8 | h8
              · have := (hSi j h8).1
                rcases ha j0 e0 with hh | hh <;> omega
              · omega
      · apply F_spec_l2Put.A6x0i
        have : g = t.ps.length := by omega
        subst this
        have hrow := hRow_of (o := 0) (n := 2) ho (by simp)
        rw [hrow]
        simp only [List.drop_zero, List.take_succ_cons, List.take_zero, xRow_some, xCons_cons, xNil_nil, xInt_some, xSl_some]
        rw [hStore_of hz (by simp)]
        simp only [xHeap_some]
        rw [hRow_of (set_get hz) (by simp [putRow])]
        simp only [putRow, List.take_zero, List.nil_append, List.length_cons, List.length_nil, List.cons_append, List.drop_succ_cons, List.drop_zero, List.drop_nil, List.append_nil, List.take_succ_cons, xRow_some, xCons_cons, xInt_some, xSl_some, xNil_nil]
        refine ⟨⟨by simp; exact hS.le, fun j hj => by rw [set_ne (by omega)]; exact hS.eq j hj⟩, _, rfl, ?_⟩
        have hget : ∀ j, j ≠ h0.length → (h'.set h0.length (AObj.cells t_spec_l1Node [.int .u8 (t.hd : Int), .slice a t.ps.length cp e] false))[j]? = h'[j]? := fun j hj => set_ne (fun e => hj e.symm)
        rcases hv with ⟨rfl, h0', _, hvs⟩ | ⟨j0, rfl, hj0⟩
        · -- no parts
          have hps : t.ps = [] := List.eq_nil_of_length_eq_zero h0'
          cases t with
          | k d =>
            simp only [subst, show bget m d = none from hno, Option.getD_none]
            exact ⟨_, _, _, rfl⟩
          | u d x => simp [Ty.ps] at hps
          | w d x y => simp [Ty.ps] at hps
        · have hj0n : j0 ≠ h0.length := by rcases ha j0 rfl with hh | hh <;> omega
          have hS4 := ha j0 rfl
          have := SRep.make (S := fun j => S j ∨ h.length ≤ j) (h := h'.set h0.length (AObj.cells t_spec_l1Node [.int .u8 (t.hd : Int), .slice (some (j0, 0)) t.ps.length cp e] false)) (t := subst (bget m) t) (j := j0) (n := t.ps.length) (c := cp) (e := e) (vs := vs)
            (by rw [hsp, List.length_map]) (.inr (by rcases hS4 with hh | hh <;> omega)) (by rw [hget j0 hj0n]; exact hj0) hvl (fun k w x hw hx => by
              rw [hsp, List.getElem?_map] at hx
              obtain ⟨y, hy, rfl⟩ := Option.map_eq_some_iff.1 hx
              have hr := hp k w y hw hy
              refine SRep.mono (S := fun j => (S j ∨ h4.length ≤ j) ∧ ∀ j1, (some (j0, 0) : Pt) = some (j1, 0) → j ≠ j1) (fun j hj => hj.1.imp id (fun h => by omega)) (hr.agree fun j hj => hget j ?_)
              rcases hj.1 with h8 | h8
              · have := (hSi j h8).1; omega
              · omega)
          rw [hsh] at this
          exact this
    cases hv : isVarN t.hd with
    | true =>
      obtain ⟨k, hk6, hkv, hix⟩ := l2idx_var hv
      rw [hix]
      obtain ⟨x, hx1, hx2, hx3⟩ := rm1.get (k := k) (by omega)
      rw [hkv, Option.bind_some] at hx3
      have hge : decide ((k : Int) ≥ 0) = true := by simp
      simp only [hge, bcase_true, Int.toNat_natCast, hx1, hx2, xRow_some, xCons_cons, xNil_nil]
      refine ⟨by omega, ?_⟩
      cases hg : bget m t.hd with
      | none =>
        rw [hg] at hx3
        simp only at hx3
        subst hx3
        simp only [xInt_some, show ((0 : Int) == 0) = true from rfl, Bool.not_true, bcase_false]
        exact main hg
      | some u =>
        rw [hg] at hx3
        simp only at hx3
        have hu := hmo _ _ hg
        obtain ⟨ux, uc, ue, hux⟩ := hx3.shape
        simp only [List.cons.injEq, and_true] at hux
        obtain ⟨hux1, hux2⟩ := hux
        rw [hux1, hux2] at hx3
        rw [hux1, hux2]
        have hu0 : (((u.hd : Nat) : Int) == 0) = false := by
          have := ok_letter hu
          have hne : u.hd ≠ 0 := fun e => by rw [e] at this; simp at this
          simp; omega
        simp only [xInt_some, xSl_some, hu0, Bool.not_false, bcase_true]
        rw [hStore_of oz (by simp)]
        simp only [xHeap_some]
        rw [hRow_of (set_get oz) (by simp [putRow])]
        simp only [putRow, List.take_zero, List.nil_append, List.length_cons, List.length_nil, List.cons_append, List.drop_succ_cons, List.drop_zero, List.drop_nil, List.append_nil, List.take_succ_cons, xRow_some, xCons_cons, xInt_some, xSl_some, xNil_nil]
        refine ⟨by omega, ⟨by simp; omega, fun j hj => by rw [set_ne (by omega)]; exact S1.eq j hj⟩, _, rfl, ?_⟩
        have hsub : subst (bget m) t = u := by rw [ok_hd_var ht hv]; simp [subst, hg]
        rw [hsub]
        refine SRep.mono (S := S) (fun j hj => .inl hj) (hx3.agree fun j hj => set_ne (by have := (hSi j hj).1; omega))
    | false =>
      rw [l2idx_not ht hv]
      have hge : decide ((-1 : Int) ≥ 0) = false := by decide
      simp only [hge, bcase_false]
      exact main (hmn _ hv)
end Go.Sim

set_option linter.unusedVariables false
set_option linter.unusedSimpArgs false
set_option maxRecDepth 20000
namespace Go.Sim
open Go Go.RowKit

/-- What is known of a pair that came in. -/
def PBig (p : Nd) : Prop := NBig p.1.length ∧ NBig p.2.length ∧ (∀ b ∈ p.1, b < 256) ∧ ∀ b ∈ p.2, b < 256
theorem rd_pair {P : Program} {h : AHeap} {f : Nat} {e : TypeId} {f0 f1 : Field} {v : List AVal} {d : Dt} (he : P.underlying e = some (.struct #[f0, f1])) (h0 : P.underlying f0.type = some .string) (h1 : P.underlying f1.type = some .string) (hr : rd P h (f + 2) e v d) :
    ∃ p : Nd, v = eP p ∧ PBig p := by
  unfold rd at hr
  rw [he] at hr
  obtain ⟨ds', vs', rfl, hd1, hd2, rfl, hall'⟩ := hr
  match vs', ds', hd2, hd1 with
  | [u, w], [x, y], _, _ =>
    have g0 := (hall' 0 f0 u x rfl rfl rfl).2
    have g1 := (hall' 1 f1 w y rfl rfl rfl).2
    simp only [rd, h0] at g0
    simp only [rd, h1] at g1
    obtain ⟨s, rfl, _, hs1, hs2⟩ := g0
    obtain ⟨t, rfl, _, ht1, ht2⟩ := g1
    exact ⟨(s, t), rfl, hs1, ht1, hs2, ht2⟩
theorem list_of {P : Program} {h : AHeap} {f : Nat} {e : TypeId} {α : Type} {enc : α → List AVal} {G : α → Prop} (el : ∀ v d, rd P h f e v d → ∃ x : α, v = enc x ∧ G x) :
    ∀ (vs : List (List AVal)) (ds : List Dt), ds.length = vs.length → (∀ (i : Nat) (v : List AVal) (x : Dt), vs[i]? = some v → ds[i]? = some x → v.length = P.cellsOf e ∧ rd P h f e v x) →
    ∃ l : List α, l.length = vs.length ∧ vs.flatten = flat enc l ∧ ∀ x ∈ l, G x
  | [], _, _, _ => ⟨[], rfl, rfl, by simp⟩
  | v :: vs, [], h, _ => by simp at h
  | v :: vs, d :: ds, hl, hall => by
    obtain ⟨l, hll, hfl, hs⟩ := list_of el vs ds (by simpa using hl) fun i v x hv hx => hall (i + 1) v x (by simpa using hv) (by simpa using hx)
    obtain ⟨x, rfl, hx⟩ := el v d (hall 0 v d rfl rfl).2
    exact ⟨x :: l, by simp [hll], by simp [hfl], fun y hy => (List.mem_cons.1 hy).elim (fun e => e ▸ hx) (hs y)⟩
theorem rd_list {P : Program} {h : AHeap} {f : Nat} {t e : TypeId} {α : Type} {enc : α → List AVal} {G : α → Prop} {cs : List AVal} {d : Dt} (ht : P.underlying t = some (.slice e)) (el : ∀ v d, rd P h f e v d → ∃ x : α, v = enc x ∧ G x) (hr : rd P h (f + 1) t cs d) :
    ∃ a n c ex, ∃ l : List α, cs = [.slice a n c ex] ∧ Row h.length h a (n * P.cellsOf e) (flat enc l) ∧ NBig n ∧ l.length = n ∧ ∀ x ∈ l, G x := by
  unfold rd at hr
  rw [ht] at hr
  obtain ⟨a, n, c, ex, ds, vs, rfl, rfl, hdl, hn, hvl, hrow, hall⟩ := hr
  obtain ⟨l, hll, hfl, hs⟩ := list_of el vs ds (by omega) hall
  rw [hfl] at hrow
  exact ⟨a, n, c, ex, l, rfl, hrow, hn, by omega, hs⟩
theorem rd_pairs {P : Program} {h : AHeap} {f : Nat} {t e : TypeId} {f0 f1 : Field} {cs : List AVal} {d : Dt} (ht : P.underlying t = some (.slice e)) (he : P.underlying e = some (.struct #[f0, f1])) (h0 : P.underlying f0.type = some .string) (h1 : P.underlying f1.type = some .string) (hc : P.cellsOf e = 2)
    (hr : rd P h (f + 3) t cs d) : ∃ a n c ex, ∃ l : List Nd, cs = [.slice a n c ex] ∧ Row h.length h a (n * 2) (flat eP l) ∧ NBig n ∧ l.length = n ∧ ∀ p ∈ l, PBig p := by
  have := rd_list (enc := eP) (G := PBig) ht (fun v d hr => rd_pair he h0 h1 hr) hr
  rwa [hc] at this
/-- An instance that came in. -/
def IBig (h : AHeap) (x : EI) : Prop := ∃ i : Ins, IRep h x i ∧ PBig i.1 ∧ NBig i.2.length ∧ ∀ p ∈ i.2, PBig p
theorem rd_inst {P : Program} {h : AHeap} {f : Nat} {ti tn ts : TypeId} {g0 g1 f0 f1 : Field} {v : List AVal} {d : Dt} (hi : P.underlying ti = some (.struct #[g0, g1])) (hg0 : g0.type = tn) (hg1 : g1.type = ts)
    (he : P.underlying tn = some (.struct #[f0, f1])) (h0 : P.underlying f0.type = some .string) (h1 : P.underlying f1.type = some .string) (hc : P.cellsOf tn = 2) (ht : P.underlying ts = some (.slice tn)) (hr : rd P h (f + 4) ti v d) :
    ∃ x : EI, v = eN x ∧ IBig h x := by
  unfold rd at hr
  rw [hi] at hr
  obtain ⟨ds', vs', rfl, hd1, hd2, rfl, hall'⟩ := hr
  match vs', ds', hd2, hd1 with
  | [u, w], [x, y], _, _ =>
    have k0 := (hall' 0 g0 u x rfl rfl rfl).2
    have k1 := (hall' 1 g1 w y rfl rfl rfl).2
    rw [hg0] at k0
    rw [hg1] at k1
    obtain ⟨p, rfl, hp⟩ := rd_pair (f := f + 1) he h0 h1 k0
    obtain ⟨a, n, c, ex, l, rfl, hrow, hn, hll, hl⟩ := rd_pairs (f := f) ht he h0 h1 hc k1
    exact ⟨⟨p.1, p.2, a, n, c, ex⟩, rfl, (p, l), ⟨rfl, rfl, hrow⟩, hp, by rw [hll]; exact hn, hl⟩
theorem ints_of_big {h : AHeap} : ∀ {xs : List EI}, (∀ x ∈ xs, IBig h x) → ∃ is : List Ins, IsRep h xs is ∧ ∀ i ∈ is, PBig i.1 ∧ NBig i.2.length ∧ ∀ p ∈ i.2, PBig p
  | [], _ => ⟨[], ⟨rfl, by simp⟩, by simp⟩
  | x :: xs, hx => by
    obtain ⟨is, ⟨hl, hr⟩, hb⟩ := ints_of_big (xs := xs) fun y hy => hx y (by simp [hy])
    obtain ⟨i, hi, hib⟩ := hx x (by simp)
    refine ⟨i :: is, ⟨by simp [hl], fun k y j hy hj => ?_⟩, fun j hj => (List.mem_cons.1 hj).elim (fun e => e ▸ hib) (hb j)⟩
    cases k with
    | zero => simp at hy hj; subst hy; subst hj; exact hi
    | succ k => simp at hy hj; exact hr k y j hy hj
/-- A world that came in. -/
theorem rd_world {P : Program} {h : AHeap} {f : Nat} {tw tc tcs ti tis tn ts : TypeId} {w0 w1 q0 q1 g0 g1 f0 f1 : Field} {cs : List AVal} {d : Dt} (hw : P.underlying tw = some (.struct #[w0, w1])) (hw0 : w0.type = tcs) (hw1 : w1.type = tis)
    (hcs : P.underlying tcs = some (.slice tc)) (hct : P.underlying tc = some (.struct #[q0, q1])) (hq0 : P.underlying q0.type = some .string) (hq1 : P.underlying q1.type = some .string) (hcc : P.cellsOf tc = 2)
    (his : P.underlying tis = some (.slice ti)) (hic : P.cellsOf ti = 3) (hi : P.underlying ti = some (.struct #[g0, g1])) (hg0 : g0.type = tn) (hg1 : g1.type = ts)
    (he : P.underlying tn = some (.struct #[f0, f1])) (h0 : P.underlying f0.type = some .string) (h1 : P.underlying f1.type = some .string) (hc : P.cellsOf tn = 2) (ht : P.underlying ts = some (.slice tn)) (hr : rd P h (f + 6) tw cs d) :
    ∃ a0 n0 c0 e0 a1 n1 c1 e1, ∃ w : Wd, cs = [.slice a0 n0 c0 e0, .slice a1 n1 c1 e1] ∧ (n0 ≤ c0 → n1 ≤ c1 → WRep h a0 n0 c0 a1 n1 c1 w) ∧ WBig w := by
  unfold rd at hr
  rw [hw] at hr
  obtain ⟨ds', vs', rfl, hd1, hd2, rfl, hall'⟩ := hr
  match vs', ds', hd2, hd1 with
  | [u, v], [x, y], _, _ =>
    have k0 := (hall' 0 w0 u x rfl rfl rfl).2
    have k1 := (hall' 1 w1 v y rfl rfl rfl).2
    rw [hw0] at k0
    rw [hw1] at k1
    obtain ⟨a0, n0, c0, e0, l0, rfl, hrow0, hn0, hl0, hb0⟩ := rd_pairs (f := f + 2) hcs hct hq0 hq1 hcc k0
    obtain ⟨a1, n1, c1, e1, l1, rfl, hrow1, hn1, hl1, hb1⟩ := rd_list (f := f + 4) (enc := eN) (G := IBig h) his (fun v d hr => rd_inst hi hg0 hg1 he h0 h1 hc ht hr) k1
    rw [hic] at hrow1
    obtain ⟨is, hrep, hib⟩ := ints_of_big hb1
    refine ⟨a0, n0, c0, e0, a1, n1, c1, e1, ⟨l0, is⟩, rfl, fun k0 k1 => ⟨hrow0, ⟨l1, hrow1, hrep⟩, k0, k1⟩, ?_⟩
    refine ⟨by rw [show (Wd.mk l0 is).cs.length = n0 from hl0]; exact hn0, ?_, fun p hp => ⟨(hb0 p hp).1, (hb0 p hp).2.1, (hb0 p hp).2.2.1⟩, fun i hi => ?_⟩
    · have : is.length = n1 := by have := hrep.1; omega
      show NBig is.length
      rw [this]; exact hn1
    · obtain ⟨p1, p2, p3⟩ := hib i hi
      exact ⟨p1.1, p1.2.1, p2, fun p hp => ⟨(p3 p hp).1, (p3 p hp).2.1⟩⟩

end Go.Sim

/- What matching finds: plain Lean. -/
set_option linter.unusedSimpArgs false
set_option linter.unusedVariables false
namespace Go.Sim

/-- Variables of a type. -/
def tvars : Ty → List Nat
  | .k c => if isVarN c then [c] else []
  | .u c a => tvars a
  | .w c a b => tvars a ++ tvars b
/-- What is noted stays, what is matched is the type, and what is noted beyond are the pattern's variables. -/
structure MOut (m m' : Bd) (a t : Ty) : Prop where
  keep : ∀ v u, bget m v = some u → bget m' v = some u
  sub : subst (bget m') a = t
  vars : ∀ v, (bget m' v).isSome = true ↔ ((bget m v).isSome = true ∨ v ∈ tvars a)
end Go.Sim

/- Which pattern fits which type; candidates; the most special: plain Lean. -/
set_option linter.unusedSimpArgs false
set_option linter.unusedVariables false
namespace Go.Sim

/-- A substitution speaks of variables alone, and of types. -/
structure SubOk (f : Nat → Option Ty) : Prop where
  nv : ∀ v, isVarN v = false → f v = none
  ok : ∀ v t, f v = some t → t.ok = true
/-- One substitution behind another one. -/
noncomputable def after (f g : Nat → Option Ty) (v : Nat) : Option Ty := if isVarN v then some (subst g ((f v).getD (.k v))) else none
/-- One instance is special to another one. -/
noncomputable def specI (a b : Ins) : Bool := decide (a.1.1 = b.1.1) && instS b.1.2 a.1.2
end Go.Sim

set_option linter.unusedVariables false
set_option linter.unusedSimpArgs false
set_option maxRecDepth 20000
namespace Go.Sim
open Go Go.RowKit

theorem inst_get {h : AHeap} {a0 a1 : Pt} {n0 c0 n1 c1 : Nat} {w : Wd} (r : WRep h a0 n0 c0 a1 n1 c1 w) {k : Nat} (hk : k < w.is.length) :
    ∃ i o a n cp e, a1 = some (i, o) ∧ i < h.length ∧ hRow h (.ptr (some (i, o + k * 3))) 3 = some [.str w.is[k].1.1, .str w.is[k].1.2, .slice a n cp e] ∧ hCell h (.ptr (some (i, o + k * 3))) = some (.str w.is[k].1.1) ∧ hCell h (.ptr (some (i, o + k * 3 + 1))) = some (.str w.is[k].1.2) ∧ Row h.length h a (n * 2) (flat eP w.is[k].2) ∧ w.is[k].2.length = n := by
  have hl := r.len1
  obtain ⟨i, o, hk', a, n, cp, e, h1, h2, h3, h4, h5, h6, h7, h8⟩ := r.inst (k := k) (by omega)
  exact ⟨i, o, a, n, cp, e, h1, h2, h3, h4, h5, h7, h8⟩
end Go.Sim

set_option linter.unusedVariables false
set_option linter.unusedSimpArgs false
set_option maxRecDepth 20000
namespace Go.Sim
open Go Go.RowKit

theorem u_L_int : pg.underlying t_L_int = some (.slice t_int) := by kernel_rfl
theorem c_int : pg.cellsOf t_int = 1 := by kernel_rfl
theorem k_int : pg.okElem t_int = true := by kernel_rfl
theorem b_int : pg.bytesOf t_int ≤ 127 := Nat.le_of_ble_eq_true (by kernel_rfl)
/-- The indices of the elements for which something holds. -/
def ixs {α : Type} (f : α → Bool) (l : List α) : List Int := (l.zipIdx.filter fun p => f p.1).map fun p => (p.2 : Int)
theorem ixs_take {α : Type} (f : α → Bool) {l : List α} {g : Nat} (h : g < l.length) : ixs f (l.take (g + 1)) = ixs f (l.take g) ++ if f l[g] then [(g : Int)] else [] := by
  unfold ixs
  rw [List.take_succ_eq_append_getElem h, List.zipIdx_append, List.filter_append, List.map_append]
  congr 1
  simp only [List.length_take, Nat.min_eq_left (by omega : g ≤ l.length), Nat.zero_add, List.zipIdx_singleton, List.filter_cons, List.filter_nil]
  split <;> simp
theorem ixs_len {α : Type} (f : α → Bool) (l : List α) : (ixs f l).length ≤ l.length := by
  unfold ixs; rw [List.length_map]; exact Nat.le_trans (List.length_filter_le _ _) (by simp)
theorem fa1 {j o : Nat} {K : AVal → Prop} : fieldAddrA pg t_impl_Need (.ptr (some (j, o))) 1 K = K (.ptr (some (j, o + 1))) := by kernel_rfl
end Go.Sim

set_option linter.unusedVariables false
set_option linter.unusedSimpArgs false
set_option maxRecDepth 20000
namespace Go.Sim
open Go Go.RowKit

/-- An instance is a candidate for a need. -/
noncomputable def candF (n : Nd) (i : Ins) : Bool := decide (i.1.1 = n.1) && instS i.1.2 n.2
noncomputable def candW (w : Wd) (n : Nd) : List Int := ixs (candF n) w.is
theorem ixs_mem {α : Type} {f : α → Bool} {l : List α} {x : Int} (h : x ∈ ixs f l) : ∃ k : Nat, ∃ hk : k < l.length, x = k ∧ f l[k] = true := by
  unfold ixs at h
  obtain ⟨p, hp, rfl⟩ := List.mem_map.1 h
  obtain ⟨h1, h2⟩ := List.mem_filter.1 hp
  obtain ⟨a, k⟩ := p
  have h3 := List.mem_zipIdx h1
  simp only [Nat.zero_add, Nat.zero_le, Nat.sub_zero, true_and] at h3
  exact ⟨k, h3.1, rfl, by simp only at h2; rw [← h3.2]; exact h2⟩
theorem iNeedValid_ok {h : AHeap} {a0 a1 : Pt} {n0 c0 n1 c1 : Nat} {e0 e1 : Bool} {w : Wd} {ct tt : List Nat} (r : WRep h a0 n0 c0 a1 n1 c1 w) (b : WB w) :
    SCall pg n_impl_NeedValid [.agg [.slice a0 n0 c0 e0, .slice a1 n1 c1 e1], .agg [.str ct, .str tt]] h fun v h' => v = .bool (worldOk w && needOkW w (ct, tt)) ∧ Same h.length h h' := by
  apply F_impl_NeedValid.call
  simp only [letH_def]
  generalize hh0 : h ++ [AObj.cells t_impl_World [.slice a0 n0 c0 e0, .slice a1 n1 c1 e1] false] = h0
  generalize hh1 : h0 ++ [AObj.cells t_impl_Need [.str ct, .str tt] false] = h1
  have s0 : Same h.length h h0 := by rw [← hh0]; exact same_last
  have s1 : Same h0.length h0 h1 := by rw [← hh1]; exact same_last
  have w0 : h0[h.length]? = some (wObj a0 n0 c0 e0 a1 n1 c1 e1) := by rw [← hh0]; simp [wObj]
  have w1 := s1.get w0 (Own.lt w0)
  have i1 : h1[h0.length]? = some (.cells t_impl_Need [.str ct, .str tt] false) := by rw [← hh1]; simp
  rw [wRow w1]
  simp only [xRow_some, xCons_cons, xNil_nil, xSl_some]
  refine (worldValid_ok (r.same (s0.cat s1)) b).mono ?_
  rintro v h2 ⟨rfl, s2⟩
  simp only [xBool_some]
  have i2 := s2.get i1 (Own.lt i1)
  have w2 := s2.get w1 (Own.lt w1)
  refine bcase_intro (fun b1 => ?_) (fun b1 => ⟨by rw [b1]; rfl, (s0.cat s1).cat s2⟩)
  rw [wRow w2, hRow_of i2 (by simp)]
  simp only [List.drop_zero, List.take_succ_cons, List.take_zero, xRow_some, xCons_cons, xNil_nil, xSl_some, xStr_some]
  refine (needOk_ok (r.same ((s0.cat s1).cat s2)) b).mono ?_
  rintro v h3 ⟨rfl, s3⟩
  simp only [xBool_some]
  exact ⟨by rw [b1]; rfl, ((s0.cat s1).cat s2).cat s3⟩
theorem candLit_ok {h : AHeap} {a : Pt} {n c j : Nat} {e : Bool} {ct tt nc nt : List Nat} (hj : h[j]? = some (.cells t_impl_Need [.str nc, .str nt] false)) :
    SCall pg n_impl_candidates_lit1 [.agg [.str ct, .str tt, .slice a n c e], .ptr (some (j, 0))] h fun v h' => v = .bool (instS tt nt) ∧ Same h.length h h' := by
  apply F_impl_candidates_lit1.call
  have s1 : Same h.length h (h ++ [.cells t_impl_Instance [.str ct, .str tt, .slice a n c e] false]) := same_last
  simp only [letH_def, hCell_last, Nat.zero_add, List.getElem?_cons_succ, List.getElem?_cons_zero, xStr_some, fa1, hCell_of (s1.get hj (Own.lt hj))]
  refine (isInstance_ok tt nt _).mono ?_
  rintro v h2 ⟨rfl, s2⟩
  simp only [xBool_some]
  exact ⟨by trivial, s1.cat s2⟩
theorem store3' {h : AHeap} {t : TypeId} {x y z a b c : AVal} : hStore (h ++ [.cells t [x, y, z] false]) (.ptr (some (h.length, 0))) [a, b, c] = some (h ++ [.cells t [a, b, c] false]) := store_last rfl
theorem among_cand {h : AHeap} {a0 a1 : Pt} {n0 c0 n1 c1 j : Nat} {e0 e1 : Bool} {w : Wd} {nd : Nd} (r : WRep h a0 n0 c0 a1 n1 c1 w) (b : WB w) (hj : h[j]? = some (.cells t_impl_Need [.str nd.1, .str nd.2] false)) :
    SCall pg n_impl_among [.agg [.slice a0 n0 c0 e0, .slice a1 n1 c1 e1], .str nd.1, .fn n_impl_candidates_lit1 [.ptr (some (j, 0))]] h fun v h' => Same h.length h h' ∧ ∃ a n c e, v = .slice a n c e ∧ FreshR t_int eI h.length h' a n (candW w nd) := by
  have hl1 := r.len1
  have hli := b.li
  apply F_impl_among__impl_candidates_lit1.call
  simp only [letH_def]
  generalize hh0 : h ++ [AObj.cells t_impl_World [.slice a0 n0 c0 e0, .slice a1 n1 c1 e1] false] = h0
  generalize hh1 : h0 ++ [AObj.cells t_int [] false] = h1
  have s0 : Same h.length h h0 := by rw [← hh0]; exact same_last
  have s1 : Same h0.length h0 h1 := by rw [← hh1]; exact same_last
  have w0 : h0[h.length]? = some (wObj a0 n0 c0 e0 a1 n1 c1 e1) := by rw [← hh0]; simp [wObj]
  have w1 := s1.get w0 (Own.lt w0)
  have o1 : h1[h0.length]? = some (.cells t_int [] false) := by rw [← hh1]; simp
  have l0 : h0.length = h.length + 1 := by rw [← hh0]; simp
  have S1 := s0.cat s1
  simp only [wCell w1, Nat.zero_add, List.getElem?_cons_succ, List.getElem?_cons_zero, xSl_some]
  refine F_impl_among__impl_candidates_lit1.L3ind _ _ _ _ _ _ _ _ (J := fun (g : Nat) a4 n4 c4 e4 x14 h' => x14 = (g : Int) ∧ g ≤ n1 ∧ Same h.length h h' ∧ n4 = (ixs (candF nd) (w.is.take g)).length ∧ Vec t_int h' a4 n4 c4 (flat eI (ixs (candF nd) (w.is.take g))) ∧ (∀ i, a4 = some (i, 0) → h.length ≤ i)) (fun g => n1 - g) ?_ 0 _ _ _ _ _ _
    ⟨rfl, by omega, S1, rfl, Vec.mk1 (by simpa [ixs] using o1), fun i hi => by cases hi; omega⟩
  rintro g a4 n4 c4 e4 x14 h' ⟨rfl, hg, hS, rfl, hv, ha⟩ R hR
  unfold F_impl_among__impl_candidates_lit1.L3t
  refine bcase_dec (fun hlt => ?_) (fun hge => ?_)
  · have hgl : g < w.is.length := by omega
    obtain ⟨i, o, a2, n2, c2, e2, rfl, _, hr, _, _, hrow, hn⟩ := inst_get (r.same hS) hgl
    simp only [xSome_some, Int.toNat_natCast, hr, xRow_some, xCons_cons, xNil_nil, xStr_some, xSl_some, letH_def]
    rw [store3']
    simp only [xHeap_some, hCell_last, Nat.zero_add, List.getElem?_cons_succ, List.getElem?_cons_zero, xStr_some]
    have hil := ixs_len (candF nd) (w.is.take g)
    rw [List.length_take] at hil
    have htk := ixs_take (candF nd) hgl
    generalize hq : h' ++ [AObj.cells t_impl_Instance [.str w.is[g].1.1, .str w.is[g].1.2, .slice a2 n2 c2 e2] false] = hq'
    have sq : Same h'.length h' hq' := by rw [← hq]; exact same_last
    have skip : ∀ hz, Same hq'.length hq' hz → candF nd w.is[g] = false → F_impl_among__impl_candidates_lit1.J7 (fun v h' => Same h.length h h' ∧ ∃ a n c e, v = .slice a n c e ∧ FreshR t_int eI h.length h' a n (candW w nd)) R (g : Int) (((n1 : Nat) : Int)) (some (i, o)) n1 c1 e1 nd.1 (.ptr (some (j, 0))) a4 (ixs (candF nd) (w.is.take g)).length c4 e4 hz := by
      intro hz sz hno
      apply F_impl_among__impl_candidates_lit1.J7i
      rw [hno] at htk
      simp only [Bool.false_eq_true, if_false, List.append_nil] at htk
      rw [wrap_nat (by omega)]
      exact hR (g + 1) _ _ _ _ _ _ (by omega) ⟨rfl, by omega, (hS.cat sq).cat sz, by rw [htk], by rw [htk]; exact (hv.same sq).same sz, ha⟩
    refine ⟨by omega, bcase_dec (fun hc => ?_) (fun hc => skip _ (Same.refl _ _) (by unfold candF; simp [hc]))⟩
    rw [← hq, rowL3, hq]
    simp only [xRow_some, xCons_cons, xNil_nil, xStr_some, xSl_some]
    refine (candLit_ok (sq.get (hS.get hj (Own.lt hj)) (by have := Own.lt hj; have := hS.le; omega))).mono ?_
    rintro v h3 ⟨rfl, s3⟩
    simp only [xBool_some]
    refine bcase_intro (fun hi => ?_) (fun hi => skip _ s3 (by unfold candF; simp [hi]))
    have hyes : candF nd w.is[g] = true := by unfold candF; simp [hc, hi]
    rw [hyes, if_pos rfl] at htk
    have S3 := (hS.cat sq).cat s3
    refine ((hv.same sq).same s3).push u_L_int c_int k_int b_int (by rw [flat_length eI_len]; omega) rfl (by omega) (fun h6 hl6 hi6 hk6 => ?_)
    simp only [xSl_some]
    apply F_impl_among__impl_candidates_lit1.J7i
    rw [wrap_nat (by omega)]
    have hle := S3.le
    refine hR (g + 1) _ _ _ _ _ _ (by omega) ⟨rfl, by omega, ⟨by omega, fun j hj => ?_⟩, by rw [htk]; simp, Vec.mk1 ?_, fun i hi => by cases hi; omega⟩
    · rw [hk6 j (by omega) fun i hi => by have := ha i hi; omega]; exact S3.eq j hj
    · rw [hi6, htk, flat_append]; rfl
  · apply F_impl_among__impl_candidates_lit1.A3x0i
    have : g = n1 := by omega
    subst this
    rw [List.take_of_length_le (by omega)] at hv ⊢
    exact ⟨hS, _, _, _, _, rfl, hv.fresh (b := h.length) rfl fun i hi => ha i hi⟩
/-- Candidates: a list of one's own. -/
def CandR (w : Wd) (n : Nd) (h : AHeap) (v : AVal) (h' : AHeap) : Prop := Same h.length h h' ∧ ∃ a m c e, v = .slice a m c e ∧ FreshR t_int eI h.length h' a m (candW w n)
theorem FreshR.low {α : Type} {ty : TypeId} {enc : α → List AVal} {b b' : Nat} {h : AHeap} {a : Pt} {n : Nat} {l : List α} (f : FreshR ty enc b h a n l) (hb : b' ≤ b) : FreshR ty enc b' h a n l :=
  ⟨f.1, f.2.imp id fun ⟨i, ha, hbi, hi⟩ => ⟨i, ha, by omega, hi⟩⟩
theorem candidates_ok {h : AHeap} {a0 a1 : Pt} {n0 c0 n1 c1 : Nat} {e0 e1 : Bool} {w : Wd} {nd : Nd} (r : WRep h a0 n0 c0 a1 n1 c1 w) (b : WB w) :
    SCall pg n_impl_candidates [.agg [.slice a0 n0 c0 e0, .slice a1 n1 c1 e1], .agg [.str nd.1, .str nd.2]] h (CandR w nd h) := by
  apply F_impl_candidates.call
  simp only [letH_def]
  generalize hh0 : h ++ [AObj.cells t_impl_World [.slice a0 n0 c0 e0, .slice a1 n1 c1 e1] false] = h0
  generalize hh1 : h0 ++ [AObj.cells t_impl_Need [.str nd.1, .str nd.2] false] = h1
  have s0 : Same h.length h h0 := by rw [← hh0]; exact same_last
  have s1 : Same h0.length h0 h1 := by rw [← hh1]; exact same_last
  have w0 : h0[h.length]? = some (wObj a0 n0 c0 e0 a1 n1 c1 e1) := by rw [← hh0]; simp [wObj]
  have w1 := s1.get w0 (Own.lt w0)
  have i1 : h1[h0.length]? = some (.cells t_impl_Need [.str nd.1, .str nd.2] false) := by rw [← hh1]; simp
  have S1 := s0.cat s1
  rw [wRow w1]
  simp only [xRow_some, xCons_cons, xNil_nil, xSl_some, hCell_of i1, Nat.zero_add, List.getElem?_cons_zero, xStr_some]
  refine (among_cand (r.same S1) b i1).mono ?_
  rintro v h2 ⟨s2, a, n, c, e, rfl, f⟩
  simp only [xSl_some]
  exact ⟨S1.cat s2, a, n, c, e, rfl, f.low S1.le⟩
theorem sCandidates_ok {h : AHeap} {a0 a1 : Pt} {n0 c0 n1 c1 : Nat} {e0 e1 : Bool} {w : Wd} {nd : Nd} (r : WRep h a0 n0 c0 a1 n1 c1 w) (b : WB w) (hnt : nd.2.length ≤ 1048576) :
    SCall pg n_spec_l4Candidates [.agg [.slice a0 n0 c0 e0, .slice a1 n1 c1 e1], .agg [.str nd.1, .str nd.2]] h (CandR w nd h) := by
  have hl1 := r.len1
  have hli := b.li
  apply F_spec_l4Candidates.call
  simp only [letH_def]
  generalize hh0 : h ++ [AObj.cells t_impl_World [.slice a0 n0 c0 e0, .slice a1 n1 c1 e1] false] = h0
  generalize hh1 : h0 ++ [AObj.cells t_impl_Need [.str nd.1, .str nd.2] false] = h1
  generalize hh2 : h1 ++ [AObj.cells t_int [] false] = h2
  have s0 : Same h.length h h0 := by rw [← hh0]; exact same_last
  have s1 : Same h0.length h0 h1 := by rw [← hh1]; exact same_last
  have s2 : Same h1.length h1 h2 := by rw [← hh2]; exact same_last
  have w0 : h0[h.length]? = some (wObj a0 n0 c0 e0 a1 n1 c1 e1) := by rw [← hh0]; simp [wObj]
  have w2 := s2.get (s1.get w0 (Own.lt w0)) (by have := Own.lt w0; have := s1.le; omega)
  have i1 : h1[h0.length]? = some (.cells t_impl_Need [.str nd.1, .str nd.2] false) := by rw [← hh1]; simp
  have i2 := s2.get i1 (Own.lt i1)
  have o2 : h2[h1.length]? = some (.cells t_int [] false) := by rw [← hh2]; simp
  have S2 := (s0.cat s1).cat s2
  have hle1 := (s0.cat s1).le
  have l1' : h1.length = h0.length + 1 := by rw [← hh1]; simp
  simp only [wCell w2, Nat.zero_add, List.getElem?_cons_succ, List.getElem?_cons_zero, xSl_some]
  refine F_spec_l4Candidates.L3ind _ _ _ _ _ _ _ _ (J := fun (g : Nat) a4 n4 c4 e4 x12 h' => x12 = (g : Int) ∧ g ≤ n1 ∧ Same h.length h h' ∧ h'[h0.length]? = some (.cells t_impl_Need [.str nd.1, .str nd.2] false) ∧ n4 = (ixs (candF nd) (w.is.take g)).length ∧ Vec t_int h' a4 n4 c4 (flat eI (ixs (candF nd) (w.is.take g))) ∧ (∀ i, a4 = some (i, 0) → h1.length ≤ i)) (fun g => n1 - g) ?_ 0 _ _ _ _ _ _
    ⟨rfl, by omega, S2, i2, rfl, Vec.mk1 (by simpa [ixs] using o2), fun i hi => by cases hi; omega⟩
  rintro g a4 n4 c4 e4 x12 h' ⟨rfl, hg, hS, hi0, rfl, hv, ha⟩ R hR
  have hlt1 := Own.lt i1
  unfold F_spec_l4Candidates.L3t
  refine bcase_dec (fun hlt => ?_) (fun hge => ?_)
  · have hgl : g < w.is.length := by omega
    obtain ⟨i, o, a2, n2, c2, e2, rfl, _, hr, _, _, hrow, hn⟩ := inst_get (r.same hS) hgl
    simp only [xSome_some, Int.toNat_natCast, hr, xRow_some, xCons_cons, xNil_nil, xStr_some, xSl_some, letH_def]
    rw [store3']
    have hil := ixs_len (candF nd) (w.is.take g)
    rw [List.length_take] at hil
    have htk := ixs_take (candF nd) hgl
    have hb := b.is _ (List.getElem_mem hgl)
    generalize hq : h' ++ [AObj.cells t_impl_Instance [.str w.is[g].1.1, .str w.is[g].1.2, .slice a2 n2 c2 e2] false] = hq'
    have sq : Same h'.length h' hq' := by rw [← hq]; exact same_last
    have oq : hq'[h'.length]? = some (.cells t_impl_Instance [.str w.is[g].1.1, .str w.is[g].1.2, .slice a2 n2 c2 e2] false) := by rw [← hq]; simp
    have iq := sq.get hi0 (Own.lt hi0)
    simp only [xHeap_some, hCell_of oq, hCell_of iq, Nat.zero_add, List.getElem?_cons_succ, List.getElem?_cons_zero, xStr_some]
    have skip : ∀ hz, Same hq'.length hq' hz → candF nd w.is[g] = false → F_spec_l4Candidates.J7 (CandR w nd h) R (g : Int) (((n1 : Nat) : Int)) (some (i, o)) n1 c1 e1 h0.length 0 a4 (ixs (candF nd) (w.is.take g)).length c4 e4 hz := by
      intro hz sz hno
      apply F_spec_l4Candidates.J7i
      rw [hno] at htk
      simp only [Bool.false_eq_true, if_false, List.append_nil] at htk
      rw [wrap_nat (by omega)]
      exact hR (g + 1) _ _ _ _ _ _ (by omega) ⟨rfl, by omega, (hS.cat sq).cat sz, sz.get iq (Own.lt iq), by rw [htk], by rw [htk]; exact (hv.same sq).same sz, ha⟩
    refine ⟨by omega, bcase_dec (fun hc => ?_) (fun hc => skip _ (Same.refl _ _) (by unfold candF; simp [hc]))⟩
    refine (sIsInstance_ok _ _ hb.2.1 hnt _).mono ?_
    rintro v h3 ⟨rfl, s3⟩
    simp only [xBool_some]
    refine bcase_intro (fun hi => ?_) (fun hi => skip _ s3 (by unfold candF; simp [hi]))
    have hyes : candF nd w.is[g] = true := by unfold candF; simp [hc, hi]
    rw [hyes, if_pos rfl] at htk
    have S3 := (hS.cat sq).cat s3
    have i3 := s3.get iq (Own.lt iq)
    refine ((hv.same sq).same s3).push u_L_int c_int k_int b_int (by rw [flat_length eI_len]; omega) rfl (by omega) (fun h6 hl6 hi6 hk6 => ?_)
    simp only [xSl_some]
    apply F_spec_l4Candidates.J7i
    rw [wrap_nat (by omega)]
    have hle := S3.le
    have hle3 := Own.lt i3
    refine hR (g + 1) _ _ _ _ _ _ (by omega) ⟨rfl, by omega, ⟨by omega, fun j hj => ?_⟩, ?_, by rw [htk]; simp, Vec.mk1 ?_, fun i hi => by cases hi; have := s3.le; have := sq.le; have := Own.lt hi0; omega⟩
    · rw [hk6 j (by omega) fun i hi => by have := ha i hi; omega]; exact S3.eq j hj
    · rw [hk6 _ hle3 fun i hi => by have := ha i hi; omega]; exact i3
    · rw [hi6, htk, flat_append]; rfl
  · apply F_spec_l4Candidates.A3x0i
    have : g = n1 := by omega
    subst this
    rw [List.take_of_length_le (by omega)] at hv ⊢
    exact ⟨hS, _, _, _, _, rfl, hv.fresh (b := h.length) rfl fun i hi => by have := ha i hi; omega⟩
end Go.Sim

set_option linter.unusedVariables false
set_option linter.unusedSimpArgs false
set_option maxRecDepth 20000
namespace Go.Sim
open Go Go.RowKit

def insAt (w : Wd) (x : Int) : Ins := w.is.getD x.toNat (([], []), [])
theorem insAt_of {w : Wd} {k : Nat} (h : k < w.is.length) : insAt w (k : Int) = w.is[k] := by unfold insAt; rw [Int.toNat_natCast, getD_at h]
/-- Special to all of some. -/
noncomputable def topOf (w : Wd) (l : List Int) (x : Int) : Bool := l.all fun k => specI (insAt w x) (insAt w k)
noncomputable def mostI (w : Wd) (l : List Int) : Int := match l.find? (topOf w l) with | some x => x | none => -1
theorem Row.i64 {b : Nat} {h : AHeap} {a : Pt} {n : Nat} {l : List Int} (r : Row b h a n (flat eI l)) {k : Nat} (hk : k < n) : ∃ i o, ∃ hk' : k < l.length, a = some (i, o) ∧ i < b ∧ hCell h (.ptr (some (i, o + k * 1))) = some (.int .i64 l[k]) := by
  obtain ⟨i, o, hk', ha, hi, hc⟩ := Row.el1 eI_len r hk
  exact ⟨i, o, hk', ha, hi, hc⟩
end Go.Sim

/- The search for dictionaries, and the reduction of needs: plain Lean. -/
set_option linter.unusedSimpArgs false
set_option linter.unusedVariables false
namespace Go.Sim

/-- Valid instances have needs whose type is one. -/
theorem applyS_ok {l : List Nd} {t u : List Nat} (h : applyS l t = some u) : tyOk u = true := by
  unfold applyS at h
  split at h
  · rename_i hc
    cases h
    simp only [Bool.and_eq_true, decide_eq_true_eq] at hc
    obtain ⟨a, ha⟩ := tyOk_some hc.1.2
    obtain ⟨h1, h2, h3⟩ := ofTxt_some.1 ha
    have := applyT_txt hc.1.1 h1
    rw [← h2] at this
    exact tyOk_iff.2 ⟨_, this.2, this.1, hc.2⟩
  · cases h
theorem needsW_mem {i : Ins} {t : List Nat} {ms : List Nd} (h : needsW i t = some ms) : ms.length = i.2.length ∧ ∀ m ∈ ms, tyOk m.2 = true ∧ ∃ n ∈ i.2, m.1 = n.1 := by
  unfold needsW at h
  split at h
  · cases h
  · rename_i b hb
    split at h
    · rename_i hall
      cases h
      refine ⟨by simp, fun m hm => ?_⟩
      obtain ⟨n, hn, rfl⟩ := List.mem_map.1 hm
      have := List.all_eq_true.1 hall n hn
      obtain ⟨u, hu⟩ := Option.isSome_iff_exists.1 this
      have h2 := applyS_ok hu
      unfold applyS at hu
      split at hu
      · cases hu; exact ⟨h2, n, hn, rfl⟩
      · cases hu
    · cases h
/-- In a valid world the needs of an instance are valid, and there are at most three. -/
theorem needsW_ok {w : Wd} (hw : worldOk w = true) {i : Ins} (hi : i ∈ w.is) {t : List Nat} {ms : List Nd} (h : needsW i t = some ms) : ms.length ≤ 3 ∧ ∀ m ∈ ms, needOkW w m = true := by
  obtain ⟨h1, h2⟩ := needsW_mem h
  unfold worldOk at hw
  simp only [Bool.and_eq_true, List.all_eq_true] at hw
  have h3 := hw.2 i hi
  unfold insOk at h3
  simp only [Bool.and_eq_true, List.all_eq_true, decide_eq_true_eq] at h3
  refine ⟨by omega, fun m hm => ?_⟩
  obtain ⟨h4, n, hn, he⟩ := h2 m hm
  have h5 := h3.2 n hn
  unfold needIn at h5
  simp only [Bool.and_eq_true] at h5
  unfold needOkW
  rw [h4, he, h5.1.1.1]; rfl
end Go.Sim
