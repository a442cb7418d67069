/- A part of the proof of a statement of this seat: see the text that holds the theorem. No condition. -/
import Derived.Test.YtcdpjjhnhiaapaaGreatPTCSMatch2
import Derived.Test.YtcdpjjhnhiaapaaGreatCSMatch
import Derived.Test.YtcdpjjhnhiaapaaGreatCGrow
import Derived.Test.YtcdpjjhnhiaapaaGreatNm
import Derived.Test.YtcdpjjhnhiaapaaGreatPTy2
set_option linter.unusedVariables false
set_option linter.unusedSimpArgs false
set_option linter.all false
set_option linter.unusedVariables false
set_option linter.unusedSimpArgs false
set_option maxRecDepth 20000
namespace Go.Sim
open Go Go.RowKit

theorem l2Length_ok : ∀ (N : Nat) {S : Nat → Prop} {h : AHeap} {t : Ty} {v : List AVal}, t.size ≤ N → t.txt.length ≤ 1048576 → SRep S h t v → SCall pg n_spec_l2Length [.agg v] h fun x h' => x = .int .i64 (t.txt.length : Nat) ∧ Same h.length h h'
  | 0, S, h, t, v, hN, _, _ => by have := t.size_ps; omega
  | N + 1, S, h, t, v, hN, hB, r => by
    obtain ⟨a, c, e, vs, rfl, hrow, hS, hvl, hp⟩ := r.parts
    have hps2 : t.ps.length ≤ 2 := by cases t <;> simp [Ty.ps]
    have htx := t.txt_mids
    have hln := congrArg List.length htx
    rw [List.length_append, List.length_cons] at hln
    apply F_spec_l2Length.call
    simp only [letH_def, hCell_last, Nat.zero_add, List.getElem?_cons_succ, List.getElem?_cons_zero, xSl_some]
    generalize hh0 : h ++ [AObj.cells t_spec_l1Node [.int .u8 (t.hd : Int), .slice a t.ps.length c e] false] = h0
    have s0 : Same h.length h h0 := by rw [← hh0]; exact same_last
    have o0 : h0[h.length]? = some (.cells t_spec_l1Node [.int .u8 (t.hd : Int), .slice a t.ps.length c e] false) := by rw [← hh0]; simp
    refine F_spec_l2Length.L3ind _ _ _ _ _ _ _ _ (J := fun (g : Nat) x3 x9 h' => x9 = (g : Int) ∧ g ≤ t.ps.length ∧ Same h.length h h' ∧ Same h0.length h0 h' ∧ x3 = ((1 + (midsL 0 (t.ps.take g)).length : Nat) : Int)) (fun g => t.ps.length - g) ?_ 0 _ _ _ ⟨rfl, by omega, s0, Same.refl _ _, by simp [midsL]⟩
    rintro g x3 x9 h' ⟨rfl, hg, hSm, hS1, rfl⟩ R hR
    unfold F_spec_l2Length.L3t
    have o2 := hS1.get o0 (Own.lt o0)
    refine bcase_dec (fun hlt => ?_) (fun hge => ?_)
    · have hg' : g < t.ps.length := by omega
      obtain ⟨i, o, a2, c2, e2, rfl, hr, hk⟩ := SRep.get (hrow.same' hSm) hvl (fun k w x h1 h2 => (hp k w x h1 h2).same hSm) hg'
      simp only [xSome_some, Int.toNat_natCast, hr, xRow_some, xCons_cons, xNil_nil, xInt_some, xSl_some, letH_def]
      rw [store2]
      simp only [xHeap_some]
      rw [rowL2]
      simp only [xRow_some, xCons_cons, xNil_nil, xInt_some, xSl_some]
      have hm := List.getElem_mem hg'
      have h1 := Ty.size_part hm
      have h2 := Ty.len_part hm
      have hmt := midsL_take t.ps 0 g hg'
      have hml : (midsL 0 (t.ps.take (g + 1))).length ≤ (midsL 0 t.ps).length := midsL_len _ _ _
      have hmtl := congrArg List.length hmt
      simp only [List.length_append, List.length_cons, Nat.zero_add] at hmtl
      have s2 : Same h'.length h' (h' ++ [.cells t_spec_l1Node [.int .u8 (t.ps[g].hd : Int), .slice a2 t.ps[g].ps.length c2 e2] false]) := same_last
      refine ⟨by omega, (l2Length_ok N (by omega) (by omega) (hk.same s2)).mono ?_⟩
      rintro x h3 ⟨rfl, s3⟩
      simp only [xInt_some]
      rw [wrap_nat (by omega), wrap_nat (by omega), IntWalk.i64_in _ (by omega)]
      exact hR (g + 1) _ _ _ (by omega) ⟨rfl, by omega, (hSm.cat s2).cat s3, (hS1.cat s2).cat s3, by omega⟩
    · apply F_spec_l2Length.A3x0i
      have : g = t.ps.length := by omega
      subst this
      simp only [hCell_of o2, Nat.zero_add, List.getElem?_cons_succ, List.getElem?_cons_zero, xSl_some]
      rw [List.take_length]
      refine bcase_dec (fun hpos => ?_) (fun hneg => ?_)
      · have hne : t.ps ≠ [] := fun e => by rw [e] at hpos; simp at hpos
        rw [if_neg hne] at hln
        apply F_spec_l2Length.J9i
        simp only [List.length_cons, List.length_nil] at hln
        rw [wrap_nat (by omega)]
        exact ⟨by congr 1; omega, hSm⟩
      · have hne : t.ps = [] := List.eq_nil_of_length_eq_zero (by omega)
        rw [if_pos hne] at hln
        simp only [List.length_nil] at hln
        apply F_spec_l2Length.J9i
        exact ⟨by congr 1; omega, hSm⟩
/-- The bindings of the first variables. -/
def bdTo (m : Bd) (g : Nat) : List Nd := (varsN.take g).filterMap fun v => (bget m v).map fun t => ([v], t.txt)
theorem bdTo_succ (m : Bd) (g : Nat) : bdTo m (g + 1) = bdTo m g ++ (match varsN[g]? with | some v => (match bget m v with | some t => [([v], t.txt)] | none => []) | none => []) := by
  unfold bdTo
  rw [List.take_succ, List.filterMap_append]
  cases varsN[g]? with
  | none => simp
  | some v => cases hb : bget m v <;> simp [hb]
theorem bdTo_len (m : Bd) (g : Nat) : (bdTo m g).length ≤ 6 := by
  unfold bdTo
  refine Nat.le_trans (List.length_filterMap_le _ _) ?_
  rw [List.length_take]; exact Nat.le_trans (Nat.min_le_right _ _) (by decide)
theorem sub_vars {g v : Nat} (hv : varsN[g]? = some v) : sub [88, 89, 90, 120, 121, 122, 49, 50, 51, 52, 53, 54] (g : Int) ((g : Int) + 1) = [v] := by
  have hg : g < 6 := (List.getElem?_eq_some_iff.1 hv).1
  match g, hg with
  | 0, _ | 1, _ | 2, _ | 3, _ | 4, _ | 5, _ => simp [varsN] at hv; subst hv; rfl
theorem l2Told_ok {S : Nat → Prop} {h : AHeap} {i : Nat} {m : Bd} (rm : MapR S h i m) (bo : BOk 60 m) :
    SCall pg n_spec_l2Told [.ptr (some (i, 0))] h fun v h' => Same h.length h h' ∧ ∃ a n c e, v = .tup [.slice a n c e, .bool true] ∧ n ≤ c ∧ FreshR t_impl_Binding eP h.length h' a n (bdL m) := by
  apply F_spec_l2Told.call
  simp only [letH_def, xSome_some]
  generalize hh0 : h ++ [AObj.cells t_impl_Binding [] false] = h0
  have s0 : Same h.length h h0 := by rw [← hh0]; exact same_last
  have l0 : h0.length = h.length + 1 := by rw [← hh0]; simp
  have o0 : h0[h.length]? = some (.cells t_impl_Binding [] false) := by rw [← hh0]; simp
  refine F_spec_l2Told.L3ind _ _ (J := fun (g : Nat) a4 n4 c4 e4 x10 h' => x10 = (g : Int) ∧ g ≤ 12 ∧ Same h.length h h' ∧ n4 = (bdTo m g).length ∧ n4 ≤ c4 ∧ Vec t_impl_Binding h' a4 n4 c4 (flat eP (bdTo m g)) ∧ (∀ i, a4 = some (i, 0) → h.length ≤ i)) (fun g => 12 - g) ?_ 0 _ _ _ _ _ _
    ⟨rfl, by omega, s0, by simp [bdTo], Nat.le_refl _, Vec.mk1 (by simpa [bdTo] using o0), fun i hi => by cases hi; omega⟩
  rintro g a4 n4 c4 e4 x10 h' ⟨rfl, hg, hSm, rfl, hnc, hv, ha⟩ R hR
  unfold F_spec_l2Told.L3t
  have hbl := bdTo_len m g
  refine bcase_dec (fun hlt => ?_) (fun hge => ?_)
  · have hg' : g < 12 := by omega
    obtain ⟨x, hx1, hx2, hx3⟩ := (rm.same hSm).get hg'
    have il := (rm.same hSm).lt
    have hx : ∃ (d : Nat) (a : Pt) (n c : Nat) (e : Bool), x = (.int .u8 (d : Int), .slice a n c e) ∧ (match (varsN[g]?).bind (bget m) with | some t => d = t.hd | none => d = 0) := by
      split at hx3
      · rename_i t ht
        obtain ⟨ua, uc, ue, hu⟩ := hx3.shape
        simp only [List.cons.injEq, and_true] at hu
        exact ⟨t.hd, ua, t.ps.length, uc, ue, by rw [← hu.1, ← hu.2], by rw [ht]⟩
      · rename_i hn; exact ⟨0, none, 0, 0, true, hx3, by rw [hn]⟩
    obtain ⟨d, ua, un, uc, ue, rfl, hd⟩ := hx
    simp only [Int.toNat_natCast, hx2, xSome_some, xRow_some, xCons_cons, xNil_nil, xInt_some, xSl_some, letH_def]
    generalize hq : h' ++ [AObj.cells t_spec_l1Node [.int .u8 0, .slice none 0 0 true] false] = hq'
    have sq : Same h'.length h' hq' := by rw [← hq]; exact same_last
    have hrq : hRow hq' (.ptr (some (i, 0 + g * 2))) 2 = some [.int .u8 (d : Int), .slice ua un uc ue] := by
      rw [← hx2]; simp only [hRow, sq.eq i il]
    rw [hrq, ← hq, store2]
    generalize hw : h' ++ [AObj.cells t_spec_l1Node [.int .u8 (d : Int), .slice ua un uc ue] false] = hw'
    have sw : Same h'.length h' hw' := by rw [← hw]; exact same_last
    have ow : hw'[h'.length]? = some (.cells t_spec_l1Node [.int .u8 (d : Int), .slice ua un uc ue] false) := by rw [← hw]; simp
    simp only [xHeap_some, hCell_of ow, Nat.zero_add, List.getElem?_cons_zero, xInt_some, true_and]
    have SW := hSm.cat sw
    have hsuc := bdTo_succ m g
    have skip : (varsN[g]?).bind (bget m) = none → F_spec_l2Told.J9 (fun v h' => Same h.length h h' ∧ ∃ a n c e, v = .tup [.slice a n c e, .bool true] ∧ n ≤ c ∧ FreshR t_impl_Binding eP h.length h' a n (bdL m)) R (g : Int) (some (i, 0)) a4 (bdTo m g).length c4 e4 hw' := by
      intro hn
      have hsame : bdTo m (g + 1) = bdTo m g := by
        rw [hsuc]
        cases hvg : varsN[g]? with
        | none => simp
        | some v => rw [hvg, Option.bind_some] at hn; simp [hn]
      apply F_spec_l2Told.J9i
      rw [wrap_nat (by omega)]
      exact hR (g + 1) _ _ _ _ _ _ (by omega) ⟨rfl, by omega, SW, by rw [hsame], hnc, by rw [hsame]; exact hv.same sw, ha⟩
    refine ⟨by omega, ?_⟩
    cases hb : (varsN[g]?).bind (bget m) with
    | none =>
      rw [hb] at hd
      simp only at hd
      subst hd
      simp only [show (((0 : Nat) : Int) == 0) = true from rfl, bcase_true]
      exact skip hb
    | some t =>
      rw [hb] at hd hx3
      simp only at hd hx3
      obtain ⟨v, hvg, hbv⟩ := Option.bind_eq_some_iff.1 hb
      have hu := bo.var _ (bget_mem hbv)
      have hg6 : g < 6 := (List.getElem?_eq_some_iff.1 hvg).1
      have hd0 : ((d : Int) == 0) = false := by
        have := ok_letter hu.2.1
        have hne : t.hd ≠ 0 := fun e => by rw [e] at this; simp at this
        simp; omega
      rw [show decide ((g : Int) ≥ 6) = false by simp; omega]
      simp only [hd0, bcase_false]
      apply F_spec_l2Told.J6i
      rw [← hw, rowL2, hw]
      simp only [xRow_some, xCons_cons, xNil_nil, xInt_some, xSl_some]
      have hu2 : t.txt.length ≤ 60 := hu.2.2
      refine (l2Length_ok _ (Nat.le_refl _) (by omega) (hx3.same sw)).mono ?_
      rintro v' h3 ⟨rfl, s3⟩
      have o3 := s3.get ow (Own.lt ow)
      simp only [xInt_some]
      rw [show decide (((t.txt.length : Nat) : Int) > 60) = false by simp; omega]
      simp only [bcase_false, hRow_of o3 (show 0 + 2 ≤ _ by simp), List.drop_zero, List.take_succ_cons, List.take_zero, xRow_some, xCons_cons, xNil_nil, xInt_some, xSl_some]
      rw [wrap_nat (by omega), show (((g + 1 : Nat) : Int)) = (g : Int) + 1 by omega, sub_vars hvg]
      refine ⟨⟨by omega, by omega, by simp; omega⟩, (l1Text_ok _ (Nat.le_refl _) (by omega) hu.2.1 ((hx3.same sw).same s3)).mono ?_⟩
      rintro v' h4 ⟨rfl, s4⟩
      simp only [xStr_some, letH_def]
      have S4 := (SW.cat s3).cat s4
      refine (((hv.same sw).same s3).same s4).pushN u_L_Binding c_Binding k_Binding b_Binding (by rw [flat_length eP_len]) rfl (by omega) rfl (by omega) (fun h6 hl6 hi6 hk6 => ?_)
      simp only [xSl_some]
      apply F_spec_l2Told.J9i
      rw [wrap_nat (by omega)]
      have hle := S4.le
      have hs' : bdTo m (g + 1) = bdTo m g ++ [([v], t.txt)] := by rw [hsuc, hvg]; simp [hbv]
      refine hR (g + 1) _ _ _ _ _ _ (by omega) ⟨rfl, by omega, ⟨by omega, fun j hj => ?_⟩, by rw [hs']; simp, Nat.le_refl _, Vec.mk1 ?_, fun i hi => by cases hi; omega⟩
      · rw [hk6 j (by omega) fun i hi => by have := ha i hi; omega]; exact S4.eq j hj
      · rw [hi6, hs', flat_append]; rfl
  · apply F_spec_l2Told.A3x0i
    have : g = 12 := by omega
    subst this
    have hb12 : bdTo m 12 = bdL m := by unfold bdTo bdL; rw [List.take_of_length_le (by decide)]
    rw [hb12] at hv hnc ⊢
    exact ⟨hSm, _, _, _, _, rfl, hnc, hv.fresh (b := h.length) rfl fun i hi => ha i hi⟩
theorem zeros12 : flat eR (List.replicate 12 (AVal.int .u8 0, AVal.slice none 0 0 true)) = [.int .u8 0, .slice none 0 0 true, .int .u8 0, .slice none 0 0 true, .int .u8 0, .slice none 0 0 true, .int .u8 0, .slice none 0 0 true, .int .u8 0, .slice none 0 0 true, .int .u8 0, .slice none 0 0 true, .int .u8 0, .slice none 0 0 true, .int .u8 0, .slice none 0 0 true, .int .u8 0, .slice none 0 0 true, .int .u8 0, .slice none 0 0 true, .int .u8 0, .slice none 0 0 true, .int .u8 0, .slice none 0 0 true] := rfl
/-- A node that was read: its cells, whether it is one or not. -/
theorem read_shape {h h' : AHeap} {s : List Nat} {vs : List AVal} (hm : match ofTxt s with | some t => SRep (Btw h.length h'.length) h' t vs | none => vs = [.int .u8 0, .slice none 0 0 true]) : ∃ (d : Int) (a : Pt) (n c : Nat) (e : Bool), vs = [.int .u8 d, .slice a n c e] := by
  split at hm
  · obtain ⟨a, c, e, rfl⟩ := hm.shape; exact ⟨_, _, _, _, _, rfl⟩
  · exact ⟨_, _, _, _, _, hm⟩
theorem sMatchType_ok (p s : List Nat) (hp0 : p.length ≤ 1048576) (hs0 : s.length ≤ 1048576) (h : AHeap) : SCall pg n_spec_MatchType [.str p, .str s] h (MatchQ p s h) := by
  apply F_spec_MatchType.call
  refine (l1Read_ok p (by omega) h).mono ?_
  rintro v h1 ⟨s1, vs1, rfl, r1⟩
  obtain ⟨d1, a1, n1, c1, e1, rfl⟩ := read_shape r1
  simp only [xTup_tup, xCons_cons, xAgg_agg, xInt_some, xSl_some, xNil_nil, xBool_some, letH_def]
  rw [store2]
  generalize hh2 : h1 ++ [AObj.cells t_spec_l1Node [.int .u8 d1, .slice a1 n1 c1 e1] false] = h2
  have s2 : Same h1.length h1 h2 := by rw [← hh2]; exact same_last
  have o2 : h2[h1.length]? = some (.cells t_spec_l1Node [.int .u8 d1, .slice a1 n1 c1 e1] false) := by rw [← hh2]; simp
  simp only [xHeap_some]
  refine (l1Read_ok s (by omega) h2).mono ?_
  rintro v h3 ⟨s3, vs3, rfl, r3⟩
  obtain ⟨d3, a3, n3, c3, e3, rfl⟩ := read_shape r3
  simp only [xTup_tup, xCons_cons, xAgg_agg, xInt_some, xSl_some, xNil_nil, xBool_some]
  rw [store2]
  generalize hh4 : h3 ++ [AObj.cells t_spec_l1Node [.int .u8 d3, .slice a3 n3 c3 e3] false] = h4
  have s4 : Same h3.length h3 h4 := by rw [← hh4]; exact same_last
  have o4 : h4[h3.length]? = some (.cells t_spec_l1Node [.int .u8 d3, .slice a3 n3 c3 e3] false) := by rw [← hh4]; simp
  simp only [xHeap_some]
  rw [← zeros12]
  generalize hh5 : h4 ++ [AObj.cells t_spec_l2Map (flat eR (List.replicate 12 (AVal.int .u8 0, AVal.slice none 0 0 true))) false] = h5
  have s5 : Same h4.length h4 h5 := by rw [← hh5]; exact same_last
  have o5 : h5[h4.length]? = some (.cells t_spec_l2Map (flat eR (List.replicate 12 (AVal.int .u8 0, AVal.slice none 0 0 true))) false) := by rw [← hh5]; simp
  have x2 : h5[h1.length]? = some (.cells t_spec_l1Node [.int .u8 d1, .slice a1 n1 c1 e1] false) := s5.get (s4.get (s3.get o2 (Own.lt o2)) (by have := Own.lt o2; have := s3.le; omega)) (by have := Own.lt o2; have := s3.le; have := s4.le; omega)
  have x4 := s5.get o4 (Own.lt o4)
  have S2 := s1.cat s2
  have S5 := (((S2.cat s3).cat s4).cat s5)
  have no : matchS p s = none → ∀ hz, Same h.length h hz → MatchQ p s h (.tup [.slice (some (hz.length, 0)) 0 0 true, .bool false]) (hz ++ [AObj.cells t_impl_Binding [] false]) := fun hn hz sz =>
    ⟨sz.cat same_last, _, 0, 0, true, by unfold instS; rw [hn]; rfl, Nat.le_refl _, by unfold matchR; rw [hn]; exact ⟨rfl, .inl rfl⟩⟩
  cases hp : ofTxt p with
  | none =>
    have : tyOk p = false := by unfold tyOk; rw [hp]; rfl
    rw [this]
    simp only [Bool.not_false, bcase_true]
    exact no (by unfold matchS; rw [hp]) _ S5
  | some a =>
    rw [tyOk_of hp]
    simp only [Bool.not_true, bcase_false]
    cases ht : ofTxt s with
    | none =>
      have : tyOk s = false := by unfold tyOk; rw [ht]; rfl
      rw [this]
      simp only [Bool.not_false, bcase_true]
      exact no (by unfold matchS; rw [hp, ht]) _ S5
    | some t =>
      rw [tyOk_of ht]
      rw [hp] at r1
      rw [ht] at r3
      simp only at r1 r3
      simp only [Bool.not_true, bcase_false, hRow_of x2 (show 0 + 2 ≤ _ by simp), hRow_of x4 (show 0 + 2 ≤ _ by simp), List.drop_zero, List.take_succ_cons, List.take_zero, xRow_some, xCons_cons, xNil_nil, xInt_some, xSl_some]
      obtain ⟨ha1, ha2, ha3⟩ := ofTxt_some.1 hp
      obtain ⟨ht1, ht2, ht3⟩ := ofTxt_some.1 ht
      have hms : matchS p s = matchT [] a t := by unfold matchS; rw [hp, ht]
      have l3 := s3.le; have l4 := s4.le; have l2 := s2.le
      have R1 := ((((r1.same s2).same s3).same s4).same s5).mono (S' := fun j => j ≠ h4.length) (fun j hj => by have := hj.2; omega)
      have R3 := ((r3.same s4).same s5).mono (S' := fun j => j ≠ h4.length) (fun j hj => by have := hj.2; omega)
      refine (l2Match_ok _ (Nat.le_refl _) ha1 ht1 (n := 60) (by omega) (by rw [← ht2]; exact ht3) BOk.nil (fun j hj => hj) R1 R3 (MapR.nil o5)).mono ?_
      rintro v h6 ⟨K6, hres⟩
      have l5 := S5.le
      have lh4 : h.length ≤ h4.length := (((S2.cat s3).cat s4)).le
      have S6 : Same h.length h h6 := ⟨by have := K6.le; omega, fun j hj => by rw [K6.eq j (by omega) (by omega)]; exact S5.eq j hj⟩
      cases hm : matchT [] a t with
      | none =>
        rw [hm] at hres hms
        subst hres
        simp only [xBool_some, Bool.not_false, bcase_true]
        exact no hms _ S6
      | some m =>
        rw [hm] at hres hms
        obtain ⟨rfl, rm6⟩ := hres
        simp only [xBool_some, Bool.not_true, bcase_false]
        apply F_spec_MatchType.J6i
        refine (l2Told_ok rm6 (matchS_ok hms)).mono ?_
        rintro v h7 ⟨s7, a7, n7, c7, e7, rfl, hc7, f7⟩
        simp only [xTup_tup, xCons_cons, xSl_some, xBool_some, xNil_nil]
        refine ⟨S6.cat s7, a7, n7, c7, e7, by unfold instS; rw [hms]; rfl, hc7, ?_⟩
        unfold matchR; rw [hms]
        exact ⟨f7.1, f7.2.imp id fun ⟨i, ha, hb, hi⟩ => ⟨i, ha, by have := S6.le; omega, hi⟩⟩
theorem sIsInstance_ok (p s : List Nat) (hp0 : p.length ≤ 1048576) (hs0 : s.length ≤ 1048576) (h : AHeap) : SCall pg n_spec_IsInstance [.str p, .str s] h fun v h' => v = .bool (instS p s) ∧ Same h.length h h' := by
  apply F_spec_IsInstance.call
  refine (sMatchType_ok p s hp0 hs0 h).mono ?_
  rintro v h1 ⟨s1, a, n, c, e, rfl, _⟩
  simp only [xTup_tup, xCons_cons, xSl_some, xBool_some, xNil_nil]
  exact ⟨by trivial, s1⟩
end Go.Sim

set_option linter.unusedVariables false
set_option linter.unusedSimpArgs false
set_option maxRecDepth 20000
namespace Go.Sim
open Go Go.RowKit

/-- What is known of a pair that came in. -/
def PBig (p : Nd) : Prop := NBig p.1.length ∧ NBig p.2.length ∧ (∀ b ∈ p.1, b < 256) ∧ ∀ b ∈ p.2, b < 256
theorem rd_pair {P : Program} {h : AHeap} {f : Nat} {e : TypeId} {f0 f1 : Field} {v : List AVal} {d : Dt} (he : P.underlying e = some (.struct #[f0, f1])) (h0 : P.underlying f0.type = some .string) (h1 : P.underlying f1.type = some .string) (hr : rd P h (f + 2) e v d) :
    ∃ p : Nd, v = eP p ∧ PBig p := by
  unfold rd at hr
  rw [he] at hr
  obtain ⟨ds', vs', rfl, hd1, hd2, rfl, hall'⟩ := hr
  match vs', ds', hd2, hd1 with
  | [u, w], [x, y], _, _ =>
    have g0 := (hall' 0 f0 u x rfl rfl rfl).2
    have g1 := (hall' 1 f1 w y rfl rfl rfl).2
    simp only [rd, h0] at g0
    simp only [rd, h1] at g1
    obtain ⟨s, rfl, _, hs1, hs2⟩ := g0
    obtain ⟨t, rfl, _, ht1, ht2⟩ := g1
    exact ⟨(s, t), rfl, hs1, ht1, hs2, ht2⟩
theorem list_of {P : Program} {h : AHeap} {f : Nat} {e : TypeId} {α : Type} {enc : α → List AVal} {G : α → Prop} (el : ∀ v d, rd P h f e v d → ∃ x : α, v = enc x ∧ G x) :
    ∀ (vs : List (List AVal)) (ds : List Dt), ds.length = vs.length → (∀ (i : Nat) (v : List AVal) (x : Dt), vs[i]? = some v → ds[i]? = some x → v.length = P.cellsOf e ∧ rd P h f e v x) →
    ∃ l : List α, l.length = vs.length ∧ vs.flatten = flat enc l ∧ ∀ x ∈ l, G x
  | [], _, _, _ => ⟨[], rfl, rfl, by simp⟩
  | v :: vs, [], h, _ => by simp at h
  | v :: vs, d :: ds, hl, hall => by
    obtain ⟨l, hll, hfl, hs⟩ := list_of el vs ds (by simpa using hl) fun i v x hv hx => hall (i + 1) v x (by simpa using hv) (by simpa using hx)
    obtain ⟨x, rfl, hx⟩ := el v d (hall 0 v d rfl rfl).2
    exact ⟨x :: l, by simp [hll], by simp [hfl], fun y hy => (List.mem_cons.1 hy).elim (fun e => e ▸ hx) (hs y)⟩
theorem rd_list {P : Program} {h : AHeap} {f : Nat} {t e : TypeId} {α : Type} {enc : α → List AVal} {G : α → Prop} {cs : List AVal} {d : Dt} (ht : P.underlying t = some (.slice e)) (el : ∀ v d, rd P h f e v d → ∃ x : α, v = enc x ∧ G x) (hr : rd P h (f + 1) t cs d) :
    ∃ a n c ex, ∃ l : List α, cs = [.slice a n c ex] ∧ Row h.length h a (n * P.cellsOf e) (flat enc l) ∧ NBig n ∧ l.length = n ∧ ∀ x ∈ l, G x := by
  unfold rd at hr
  rw [ht] at hr
  obtain ⟨a, n, c, ex, ds, vs, rfl, rfl, hdl, hn, hvl, hrow, hall⟩ := hr
  obtain ⟨l, hll, hfl, hs⟩ := list_of el vs ds (by omega) hall
  rw [hfl] at hrow
  exact ⟨a, n, c, ex, l, rfl, hrow, hn, by omega, hs⟩
theorem rd_pairs {P : Program} {h : AHeap} {f : Nat} {t e : TypeId} {f0 f1 : Field} {cs : List AVal} {d : Dt} (ht : P.underlying t = some (.slice e)) (he : P.underlying e = some (.struct #[f0, f1])) (h0 : P.underlying f0.type = some .string) (h1 : P.underlying f1.type = some .string) (hc : P.cellsOf e = 2)
    (hr : rd P h (f + 3) t cs d) : ∃ a n c ex, ∃ l : List Nd, cs = [.slice a n c ex] ∧ Row h.length h a (n * 2) (flat eP l) ∧ NBig n ∧ l.length = n ∧ ∀ p ∈ l, PBig p := by
  have := rd_list (enc := eP) (G := PBig) ht (fun v d hr => rd_pair he h0 h1 hr) hr
  rwa [hc] at this
/-- An instance that came in. -/
def IBig (h : AHeap) (x : EI) : Prop := ∃ i : Ins, IRep h x i ∧ PBig i.1 ∧ NBig i.2.length ∧ ∀ p ∈ i.2, PBig p
theorem rd_inst {P : Program} {h : AHeap} {f : Nat} {ti tn ts : TypeId} {g0 g1 f0 f1 : Field} {v : List AVal} {d : Dt} (hi : P.underlying ti = some (.struct #[g0, g1])) (hg0 : g0.type = tn) (hg1 : g1.type = ts)
    (he : P.underlying tn = some (.struct #[f0, f1])) (h0 : P.underlying f0.type = some .string) (h1 : P.underlying f1.type = some .string) (hc : P.cellsOf tn = 2) (ht : P.underlying ts = some (.slice tn)) (hr : rd P h (f + 4) ti v d) :
    ∃ x : EI, v = eN x ∧ IBig h x := by
  unfold rd at hr
  rw [hi] at hr
  obtain ⟨ds', vs', rfl, hd1, hd2, rfl, hall'⟩ := hr
  match vs', ds', hd2, hd1 with
  | [u, w], [x, y], _, _ =>
    have k0 := (hall' 0 g0 u x rfl rfl rfl).2
    have k1 := (hall' 1 g1 w y rfl rfl rfl).2
    rw [hg0] at k0
    rw [hg1] at k1
    obtain ⟨p, rfl, hp⟩ := rd_pair (f := f + 1) he h0 h1 k0
    obtain ⟨a, n, c, ex, l, rfl, hrow, hn, hll, hl⟩ := rd_pairs (f := f) ht he h0 h1 hc k1
    exact ⟨⟨p.1, p.2, a, n, c, ex⟩, rfl, (p, l), ⟨rfl, rfl, hrow⟩, hp, by rw [hll]; exact hn, hl⟩
theorem ints_of_big {h : AHeap} : ∀ {xs : List EI}, (∀ x ∈ xs, IBig h x) → ∃ is : List Ins, IsRep h xs is ∧ ∀ i ∈ is, PBig i.1 ∧ NBig i.2.length ∧ ∀ p ∈ i.2, PBig p
  | [], _ => ⟨[], ⟨rfl, by simp⟩, by simp⟩
  | x :: xs, hx => by
    obtain ⟨is, ⟨hl, hr⟩, hb⟩ := ints_of_big (xs := xs) fun y hy => hx y (by simp [hy])
    obtain ⟨i, hi, hib⟩ := hx x (by simp)
    refine ⟨i :: is, ⟨by simp [hl], fun k y j hy hj => ?_⟩, fun j hj => (List.mem_cons.1 hj).elim (fun e => e ▸ hib) (hb j)⟩
    cases k with
    | zero => simp at hy hj; subst hy; subst hj; exact hi
    | succ k => simp at hy hj; exact hr k y j hy hj
/-- A world that came in. -/
theorem rd_world {P : Program} {h : AHeap} {f : Nat} {tw tc tcs ti tis tn ts : TypeId} {w0 w1 q0 q1 g0 g1 f0 f1 : Field} {cs : List AVal} {d : Dt} (hw : P.underlying tw = some (.struct #[w0, w1])) (hw0 : w0.type = tcs) (hw1 : w1.type = tis)
    (hcs : P.underlying tcs = some (.slice tc)) (hct : P.underlying tc = some (.struct #[q0, q1])) (hq0 : P.underlying q0.type = some .string) (hq1 : P.underlying q1.type = some .string) (hcc : P.cellsOf tc = 2)
    (his : P.underlying tis = some (.slice ti)) (hic : P.cellsOf ti = 3) (hi : P.underlying ti = some (.struct #[g0, g1])) (hg0 : g0.type = tn) (hg1 : g1.type = ts)
    (he : P.underlying tn = some (.struct #[f0, f1])) (h0 : P.underlying f0.type = some .string) (h1 : P.underlying f1.type = some .string) (hc : P.cellsOf tn = 2) (ht : P.underlying ts = some (.slice tn)) (hr : rd P h (f + 6) tw cs d) :
    ∃ a0 n0 c0 e0 a1 n1 c1 e1, ∃ w : Wd, cs = [.slice a0 n0 c0 e0, .slice a1 n1 c1 e1] ∧ (n0 ≤ c0 → n1 ≤ c1 → WRep h a0 n0 c0 a1 n1 c1 w) ∧ WBig w := by
  unfold rd at hr
  rw [hw] at hr
  obtain ⟨ds', vs', rfl, hd1, hd2, rfl, hall'⟩ := hr
  match vs', ds', hd2, hd1 with
  | [u, v], [x, y], _, _ =>
    have k0 := (hall' 0 w0 u x rfl rfl rfl).2
    have k1 := (hall' 1 w1 v y rfl rfl rfl).2
    rw [hw0] at k0
    rw [hw1] at k1
    obtain ⟨a0, n0, c0, e0, l0, rfl, hrow0, hn0, hl0, hb0⟩ := rd_pairs (f := f + 2) hcs hct hq0 hq1 hcc k0
    obtain ⟨a1, n1, c1, e1, l1, rfl, hrow1, hn1, hl1, hb1⟩ := rd_list (f := f + 4) (enc := eN) (G := IBig h) his (fun v d hr => rd_inst hi hg0 hg1 he h0 h1 hc ht hr) k1
    rw [hic] at hrow1
    obtain ⟨is, hrep, hib⟩ := ints_of_big hb1
    refine ⟨a0, n0, c0, e0, a1, n1, c1, e1, ⟨l0, is⟩, rfl, fun k0 k1 => ⟨hrow0, ⟨l1, hrow1, hrep⟩, k0, k1⟩, ?_⟩
    refine ⟨by rw [show (Wd.mk l0 is).cs.length = n0 from hl0]; exact hn0, ?_, fun p hp => ⟨(hb0 p hp).1, (hb0 p hp).2.1, (hb0 p hp).2.2.1⟩, fun i hi => ?_⟩
    · have : is.length = n1 := by have := hrep.1; omega
      show NBig is.length
      rw [this]; exact hn1
    · obtain ⟨p1, p2, p3⟩ := hib i hi
      exact ⟨p1.1, p1.2.1, p2, fun p hp => ⟨(p3 p hp).1, (p3 p hp).2.1⟩⟩

theorem bigPow : (1048576 : Int) = 1048576 := rfl
end Go.Sim

/- Bindings put into a type: plain Lean. -/
set_option linter.unusedSimpArgs false
set_option linter.unusedVariables false
namespace Go.Sim

/-- Bindings are valid: variables with types, in order. -/
noncomputable def bindOk (l : List Nd) : Bool := (List.range l.length).all fun i => isVarS (l.getD i ([], [])).1 && tyOk (l.getD i ([], [])).2 && (i == 0 || natLess (l.getD (i - 1) ([], [])).1 (l.getD i ([], [])).1)
/-- What a letter becomes. -/
def bfind (l : List Nd) (c : Nat) : List Nat := match l.find? fun p => decide (p.1 = [c]) with | some p => p.2 | none => [c]
def applyT (l : List Nd) (t : List Nat) : List Nat := t.flatMap (bfind l)
/-- What a letter stands for. -/
noncomputable def btree (l : List Nd) (c : Nat) : Option Ty := match l.find? fun p => decide (p.1 = [c]) with | some p => ofTxt p.2 | none => none
noncomputable def subst (f : Nat → Option Ty) : Ty → Ty
  | .k c => (f c).getD (.k c)
  | .u c a => .u c (subst f a)
  | .w c a b => .w c (subst f a) (subst f b)
noncomputable def applyS (l : List Nd) (t : List Nat) : Option (List Nat) := if bindOk l && tyOk t && decide ((applyT l t).length ≤ 60) then some (applyT l t) else none
theorem bindOk_at {l : List Nd} (h : bindOk l = true) {i : Nat} (hi : i < l.length) : isVarS l[i].1 = true ∧ tyOk l[i].2 = true ∧ (i = 0 ∨ natLess (l.getD (i - 1) ([], [])).1 l[i].1 = true) := by
  unfold bindOk at h
  rw [List.all_eq_true] at h
  have := h i (List.mem_range.2 hi)
  rw [getD_at hi] at this
  simp only [Bool.and_eq_true, Bool.or_eq_true, beq_iff_eq] at this
  exact ⟨this.1.1, this.1.2, this.2⟩
theorem bindOk_mem {l : List Nd} (h : bindOk l = true) {p : Nd} (hp : p ∈ l) : isVarS p.1 = true ∧ tyOk p.2 = true := by
  obtain ⟨i, hi, rfl⟩ := List.getElem_of_mem hp
  exact ⟨(bindOk_at h hi).1, (bindOk_at h hi).2.1⟩
theorem bfind_not {l : List Nd} (h : bindOk l = true) {c : Nat} (hc : isVarN c = false) : bfind l c = [c] ∧ btree l c = none := by
  have : l.find? (fun p => decide (p.1 = [c])) = none := by
    rw [List.find?_eq_none]
    intro p hp e
    have := (bindOk_mem h hp).1
    rw [of_decide_eq_true e] at this
    simp [isVarS, hc] at this
  unfold bfind btree
  rw [this]; exact ⟨rfl, rfl⟩
theorem bfind_tree {l : List Nd} (h : bindOk l = true) (c : Nat) : bfind l c = ((btree l c).getD (.k c)).txt ∧ ∀ t, btree l c = some t → t.ok = true ∧ t.txt.length ≤ 60 := by
  unfold bfind btree
  cases hf : l.find? (fun p => decide (p.1 = [c])) with
  | none => exact ⟨rfl, fun t ht => by cases ht⟩
  | some p =>
    have hp := List.mem_of_find?_eq_some hf
    obtain ⟨t, ht⟩ := tyOk_some (bindOk_mem h hp).2
    obtain ⟨h1, h2, h3⟩ := ofTxt_some.1 ht
    simp only [ht]
    refine ⟨by simpa using h2, fun u hu => ?_⟩
    cases hu
    exact ⟨h1, by rw [← h2]; exact h3⟩
theorem applyT_mark {l : List Nd} (h : bindOk l = true) {c : Nat} (hc : isMark c = true) : bfind l c = [c] := by
  refine (bfind_not h ?_).1
  simp only [isMark, Bool.or_eq_true, beq_iff_eq] at hc
  rcases hc with (rfl | rfl) | rfl <;> rfl
theorem isVar_u {c : Nat} {a : Ty} (h : (Ty.u c a).ok = true) : isVarN c = false := by
  cases hv : isVarN c with
  | false => rfl
  | true => have := ok_hd_var h hv; cases this
theorem isVar_w {c : Nat} {a b : Ty} (h : (Ty.w c a b).ok = true) : isVarN c = false := by
  cases hv : isVarN c with
  | false => rfl
  | true => have := ok_hd_var h hv; cases this
theorem applyT_txt {l : List Nd} (h : bindOk l = true) : ∀ {t : Ty}, t.ok = true → applyT l t.txt = (subst (btree l) t).txt ∧ (subst (btree l) t).ok = true
  | .k c, ht => by
    have := bfind_tree h c
    simp only [applyT, Ty.txt, List.flatMap_cons, List.flatMap_nil, List.append_nil, subst]
    refine ⟨this.1, ?_⟩
    cases hb : btree l c with
    | none => exact ht
    | some t => exact (this.2 t hb).1
  | .u c a, ht => by
    have hv := isVar_u ht
    have hh := ht
    simp only [Ty.ok, Bool.and_eq_true] at ht
    have ih := applyT_txt h ht.2
    simp only [applyT] at ih
    simp only [applyT, Ty.txt, List.flatMap_cons, List.flatMap_append, List.flatMap_nil, List.append_nil, subst, (bfind_not h hv).1, applyT_mark h Ty.m40, applyT_mark h Ty.m41, ih.1, List.cons_append, List.nil_append]
    refine ⟨by trivial, ?_⟩
    simp only [Ty.ok, Bool.and_eq_true]; exact ⟨ht.1, ih.2⟩
  | .w c a b, ht => by
    have hv := isVar_w ht
    simp only [Ty.ok, Bool.and_eq_true] at ht
    have ih := applyT_txt h ht.1.2
    have ih2 := applyT_txt h ht.2
    simp only [applyT] at ih ih2
    simp only [applyT, Ty.txt, List.flatMap_cons, List.flatMap_append, List.flatMap_nil, List.append_nil, subst, (bfind_not h hv).1, applyT_mark h Ty.m40, applyT_mark h Ty.m41, applyT_mark h Ty.m44, ih.1, ih2.1, List.cons_append, List.nil_append]
    refine ⟨by trivial, ?_⟩
    simp only [Ty.ok, Bool.and_eq_true]; exact ⟨⟨ht.1.1, ih.2⟩, ih2.2⟩
theorem natLess_one (a b : Nat) : natLess [a] [b] = decide (a < b) := by
  simp [natLess]
theorem bindOk_nil : bindOk [] = true := rfl
/-- What matching gives is valid. -/
theorem bindOk_bdL {m : Bd} (b : BOk 60 m) : bindOk (bdL m) = true := by
  rw [bdL_eq]
  generalize hvs : (varsN.filter fun v => (bget m v).isSome) = vs
  have hs : vs.Pairwise (· < ·) := by rw [← hvs]; exact varsN_sorted.filter _
  have hm : ∀ v ∈ vs, isVarN v = true ∧ ∃ t, bget m v = some t := by
    intro v hv
    rw [← hvs, List.mem_filter] at hv
    exact ⟨(varsN_var v).1 hv.1, Option.isSome_iff_exists.1 hv.2⟩
  unfold bindOk
  rw [List.all_eq_true]
  intro i hi
  rw [List.mem_range, List.length_map] at hi
  rw [getD_at (by simpa using hi), List.getElem_map]
  obtain ⟨h1, t, h2⟩ := hm _ (List.getElem_mem hi)
  have h3 := b.var _ (bget_mem h2)
  simp only [h2, Option.getD_some, isVarS, h1, Bool.true_and, Bool.and_eq_true, Bool.or_eq_true, beq_iff_eq]
  refine ⟨tyOk_iff.2 ⟨t, h3.2.1, rfl, h3.2.2⟩, ?_⟩
  cases i with
  | zero => exact .inl rfl
  | succ j =>
    right
    rw [Nat.add_sub_cancel, getD_at (by simp; omega), List.getElem_map, natLess_one]
    exact decide_eq_true (List.pairwise_iff_getElem.1 hs j (j + 1) (by omega) hi (by omega))
/-- The needs of an instance for a type. -/
noncomputable def needsW (i : Ins) (t : List Nat) : Option (List Nd) :=
  match matchS i.1.2 t with
  | none => none
  | some m => if i.2.all fun n => (applyS (bdL m) n.2).isSome then some (i.2.map fun n => (n.1, applyT (bdL m) n.2)) else none
end Go.Sim

/- What matching finds: plain Lean. -/
set_option linter.unusedSimpArgs false
set_option linter.unusedVariables false
namespace Go.Sim

/-- Variables of a type. -/
def tvars : Ty → List Nat
  | .k c => if isVarN c then [c] else []
  | .u c a => tvars a
  | .w c a b => tvars a ++ tvars b
theorem ok_same {a t : Ty} (ha : a.ok = true) (ht : t.ok = true) (h : a.hd = t.hd) (hp : a.ps = t.ps) : a = t := by
  cases a <;> cases t <;> simp_all [Ty.hd, Ty.ps]
theorem subst_congr {f g : Nat → Option Ty} : ∀ {a : Ty}, (∀ v ∈ tvars a, f v = g v) → (∀ v, isVarN v = false → f v = none ∧ g v = none) → subst f a = subst g a
  | .k c, h, h0 => by
    simp only [subst]
    by_cases hv : isVarN c = true
    · rw [h c (by simp [tvars, hv])]
    · obtain ⟨h1, h2⟩ := h0 c (by simpa using hv); rw [h1, h2]
  | .u c a, h, h0 => by simp only [subst]; rw [subst_congr (a := a) h h0]
  | .w c a b, h, h0 => by
    simp only [subst]
    rw [subst_congr (a := a) (fun v hv => h v (by simp [tvars, hv])) h0, subst_congr (a := b) (fun v hv => h v (by simp [tvars, hv])) h0]
/-- What is noted stays, what is matched is the type, and what is noted beyond are the pattern's variables. -/
structure MOut (m m' : Bd) (a t : Ty) : Prop where
  keep : ∀ v u, bget m v = some u → bget m' v = some u
  sub : subst (bget m') a = t
  vars : ∀ v, (bget m' v).isSome = true ↔ ((bget m v).isSome = true ∨ v ∈ tvars a)
theorem subst_mono {m m' : Bd} (hk : ∀ v u, bget m v = some u → bget m' v = some u) (hv : ∀ v, isVarN v = false → bget m' v = none) : ∀ {a : Ty}, (∀ v ∈ tvars a, (bget m v).isSome = true) → subst (bget m') a = subst (bget m) a := by
  intro a h
  refine subst_congr (fun v hvv => ?_) (fun v hvv => ⟨hv v hvv, ?_⟩)
  · obtain ⟨u, hu⟩ := Option.isSome_iff_exists.1 (h v hvv)
    rw [hu, hk v u hu]
  · cases hb : bget m v with
    | none => rfl
    | some u => have := hk v u hb; rw [hv v hvv] at this; cases this
theorem BOk.novar {n : Nat} {m : Bd} (b : BOk n m) : ∀ v, isVarN v = false → bget m v = none := by
  intro v hv
  cases h : bget m v with
  | none => rfl
  | some t => have := (b.var _ (bget_mem h)).1; simp [hv] at this
theorem matchT_out {n : Nat} : ∀ {a t : Ty} {m m' : Bd}, a.ok = true → t.ok = true → t.txt.length ≤ n → BOk n m → matchT m a t = some m' → MOut m m' a t
  | .k c, t, m, m', ha, ht, hn, b, h => by
    simp only [matchT] at h
    split at h
    · rename_i hv
      unfold bnote at h
      split at h
      · rename_i u hu
        split at h
        · rename_i he
          cases h; subst he
          refine ⟨fun v u h => h, by simp [subst, hu], fun v => ?_⟩
          simp only [tvars, hv, if_true, List.mem_singleton]
          constructor
          · exact .inl
          · rintro (h | rfl)
            · exact h
            · rw [hu]; rfl
        · cases h
      · rename_i hu
        cases h
        refine ⟨fun v u h => by rw [bget_app, h], by simp [subst, bget_app, hu], fun v => ?_⟩
        simp only [bget_app, tvars, hv, if_true, List.mem_singleton]
        cases hb : bget m v with
        | some u => simp
        | none =>
          by_cases e : c = v
          · subst e; simp
          · have : ¬ v = c := fun e' => e e'.symm
            simp [e, this]
    · rename_i hv
      split at h
      · rename_i he
        cases h
        have hc : bget m c = none := b.novar c (by simpa using hv)
        refine ⟨fun v u h => h, ?_, fun v => by simp [tvars, hv]⟩
        simp only [subst, hc, Option.getD_none]
        have hl := ok_len ha ht (by simpa [Ty.hd] using he)
        refine ok_same ha ht (by simpa [Ty.hd] using he) ?_
        simp only [Ty.ps, List.length_nil] at hl ⊢
        exact (List.eq_nil_of_length_eq_zero hl.symm).symm
      · cases h
  | .u c a, t, m, m', ha, ht, hn, b, h => by
    have ha' := ha
    simp only [Ty.ok, Bool.and_eq_true] at ha
    simp only [matchT] at h
    split at h
    · rename_i he
      split at h
      · rename_i x hx
        have hm : x ∈ t.ps := by rw [hx]; simp
        have o := matchT_out ha.2 (Ty.ok_ps ht x hm) (Nat.le_trans (txt_part hm) hn) b h
        refine ⟨o.keep, ?_, o.vars⟩
        simp only [subst, o.sub]
        cases t <;> simp_all [Ty.hd, Ty.ps]
      · cases h
    · cases h
  | .w c a a2, t, m, m', ha, ht, hn, b, h => by
    simp only [Ty.ok, Bool.and_eq_true] at ha
    simp only [matchT] at h
    split at h
    · rename_i he
      split at h
      · rename_i x y hx
        have hm : x ∈ t.ps := by rw [hx]; simp
        have hm2 : y ∈ t.ps := by rw [hx]; simp
        split at h
        · rename_i m1 h1
          have b1 := BOk.matchT ha.1.2 (Ty.ok_ps ht x hm) (Nat.le_trans (txt_part hm) hn) b h1
          have b2 := BOk.matchT ha.2 (Ty.ok_ps ht y hm2) (Nat.le_trans (txt_part hm2) hn) b1 h
          have o1 := matchT_out ha.1.2 (Ty.ok_ps ht x hm) (Nat.le_trans (txt_part hm) hn) b h1
          have o2 := matchT_out ha.2 (Ty.ok_ps ht y hm2) (Nat.le_trans (txt_part hm2) hn) b1 h
          refine ⟨fun v u hv => o2.keep v u (o1.keep v u hv), ?_, fun v => ?_⟩
          · have hs : subst (bget m') a = x := by
              rw [subst_mono o2.keep b2.novar (fun v hv => (o1.vars v).2 (.inr hv)), o1.sub]
            simp only [subst, hs, o2.sub]
            cases t <;> simp_all [Ty.hd, Ty.ps]
          · rw [o2.vars, o1.vars]; simp [tvars, or_assoc]
        · cases h
      · cases h
    · cases h
theorem subst_size {f : Nat → Option Ty} (a : Ty) : a.size ≤ (subst f a).size := by
  induction a with
  | k c =>
    simp only [subst, Ty.size]
    cases h : (f c).getD (.k c) <;> simp [Ty.size] <;> omega
  | u c a ih => simp only [subst, Ty.size]; omega
  | w c a b iha ihb => simp only [subst, Ty.size]; omega
theorem find_bdL {m : Bd} (v : Nat) : (bdL m).find? (fun p => decide (p.1 = [v])) = if v ∈ varsN then (bget m v).map (fun t => ([v], t.txt)) else none := by
  unfold bdL
  have hnd := varsN_nodup
  revert hnd
  induction varsN with
  | nil => intro _; rfl
  | cons w l ih =>
    intro hnd
    rw [List.nodup_cons] at hnd
    simp only [List.filterMap_cons, List.mem_cons]
    by_cases e : v = w
    · subst e
      simp only [true_or, if_true]
      cases hb : bget m v with
      | none =>
        simp only [Option.map_none]
        rw [ih hnd.2, if_neg hnd.1]
      | some t => simp
    · simp only [e, false_or]
      cases hb : bget m w with
      | none => simp only [Option.map_none]; exact ih hnd.2
      | some t =>
        have : ¬ w = v := fun e' => e e'.symm
        simp only [Option.map_some, List.find?_cons, List.cons.injEq, this, and_true, decide_false]
        exact ih hnd.2
theorem btree_bdL {m : Bd} (b : BOk 60 m) (v : Nat) : btree (bdL m) v = bget m v := by
  unfold btree
  rw [find_bdL]
  by_cases hv : v ∈ varsN
  · rw [if_pos hv]
    cases hb : bget m v with
    | none => rfl
    | some t =>
      have := b.var _ (bget_mem hb)
      exact ofTxt_txt this.2.1 this.2.2
  · rw [if_neg hv]
    have : isVarN v = false := by cases h : isVarN v with | false => rfl | true => exact absurd ((varsN_var v).2 h) hv
    rw [b.novar v this]
theorem tvars_txt {a : Ty} (h : a.ok = true) (v : Nat) (hv : isVarN v = true) : v ∈ a.txt ↔ v ∈ tvars a := by
  have h40 : ¬ v = 40 := fun e => by subst e; simp [isVarN] at hv
  have h41 : ¬ v = 41 := fun e => by subst e; simp [isVarN] at hv
  have h44 : ¬ v = 44 := fun e => by subst e; simp [isVarN] at hv
  induction a with
  | k c =>
    simp only [Ty.txt, tvars, List.mem_singleton]
    constructor
    · rintro rfl; simp [hv]
    · intro h; split at h
      · simpa using h
      · cases h
  | u c a ih =>
    have hc := isVar_u h
    have : ¬ v = c := fun e => by subst e; simp [hv] at hc
    simp only [Ty.ok, Bool.and_eq_true] at h
    simp only [Ty.txt, tvars, List.mem_cons, List.mem_append, this, h40, h41, false_or, List.not_mem_nil, or_false]
    exact ih h.2
  | w c a b iha ihb =>
    have hc := isVar_w h
    have : ¬ v = c := fun e => by subst e; simp [hv] at hc
    simp only [Ty.ok, Bool.and_eq_true] at h
    simp only [Ty.txt, tvars, List.mem_cons, List.mem_append, this, h40, h41, h44, false_or, List.not_mem_nil, or_false]
    exact or_congr (iha h.1.2) (ihb h.2)
/-- The law's own facts on matching. -/
theorem match_law {p s : List Nat} {m : Bd} (h : matchS p s = some m) : applyS (bdL m) p = some s ∧ bindOk (bdL m) = true ∧ (bdL m).flatMap (·.1) = varsL p ∧ sizeS p ≤ sizeS s := by
  have b := matchS_ok h
  unfold matchS at h
  split at h
  · rename_i a t ha ht
    obtain ⟨h1, h2, h3⟩ := ofTxt_some.1 ha
    obtain ⟨h4, h5, h6⟩ := ofTxt_some.1 ht
    have o := matchT_out h1 h4 (by rw [← h5]; exact h6) BOk.nil h
    have bo := bindOk_bdL b
    have hsub : subst (btree (bdL m)) a = t := by rw [funext (btree_bdL b)]; exact o.sub
    have hap : applyT (bdL m) p = s := by rw [h2, (applyT_txt bo h1).1, hsub, h5]
    refine ⟨?_, bo, ?_, ?_⟩
    · unfold applyS
      rw [hap, bo, tyOk_of ha]; simp [h6]
    · rw [bdL_eq]
      unfold varsL
      have : (varsN.filter fun v => (bget m v).isSome) = varsN.filter fun v => decide (v ∈ p) := by
        apply List.filter_congr
        intro v hv
        have hv' := (varsN_var v).1 hv
        rw [Bool.eq_iff_iff, o.vars v]
        simp only [bget, Option.isSome_none, Bool.false_eq_true, false_or, decide_eq_true_eq]
        rw [h2, tvars_txt h1 v hv']
      rw [this]
      induction (varsN.filter fun v => decide (v ∈ p)) with
      | nil => rfl
      | cons v l ih => simp [ih]
    · rw [sizeS_some ha, sizeS_some ht, ← hsub]
      exact_mod_cast subst_size a
  · cases h
end Go.Sim

/- Which pattern fits which type; candidates; the most special: plain Lean. -/
set_option linter.unusedSimpArgs false
set_option linter.unusedVariables false
namespace Go.Sim

/-- A substitution speaks of variables alone, and of types. -/
structure SubOk (f : Nat → Option Ty) : Prop where
  nv : ∀ v, isVarN v = false → f v = none
  ok : ∀ v t, f v = some t → t.ok = true
theorem subst_ok {f : Nat → Option Ty} (hf : SubOk f) : ∀ {a : Ty}, a.ok = true → (subst f a).ok = true
  | .k c, h => by
    simp only [subst]
    cases hb : f c with
    | none => exact h
    | some t => exact hf.ok c t hb
  | .u c a, h => by
    simp only [Ty.ok, Bool.and_eq_true] at h
    simp only [subst, Ty.ok, Bool.and_eq_true]; exact ⟨h.1, subst_ok hf h.2⟩
  | .w c a b, h => by
    simp only [Ty.ok, Bool.and_eq_true] at h
    simp only [subst, Ty.ok, Bool.and_eq_true]; exact ⟨⟨h.1.1, subst_ok hf h.1.2⟩, subst_ok hf h.2⟩
/-- What fits is found. -/
theorem matchT_fits {f : Nat → Option Ty} (hf : SubOk f) (hall : ∀ v, isVarN v = true → (f v).isSome = true) : ∀ {a : Ty} {m : Bd}, a.ok = true → (∀ v u, bget m v = some u → f v = some u) → ∃ m', matchT m a (subst f a) = some m' ∧ ∀ v u, bget m' v = some u → f v = some u
  | .k c, m, ha, hm => by
    simp only [matchT, subst]
    by_cases hv : isVarN c = true
    · obtain ⟨t, ht⟩ := Option.isSome_iff_exists.1 (hall c hv)
      rw [if_pos hv, ht, Option.getD_some]
      unfold bnote
      cases hb : bget m c with
      | some u =>
        have := hm c u hb
        rw [ht] at this; cases this
        exact ⟨m, by simp, hm⟩
      | none =>
        refine ⟨_, rfl, fun v u h => ?_⟩
        rw [bget_app] at h
        cases hb2 : bget m v with
        | some x => rw [hb2] at h; cases h; exact hm v _ hb2
        | none =>
          rw [hb2] at h
          simp only at h
          split at h
          · rename_i e; subst e; cases h; exact ht
          · cases h
    · have hn := hf.nv c (by simpa using hv)
      refine ⟨m, ?_, hm⟩
      simp [hv, hn, Ty.hd]
  | .u c a, m, ha, hm => by
    simp only [Ty.ok, Bool.and_eq_true] at ha
    simp only [matchT, subst, Ty.hd, Ty.ps, if_true]
    exact matchT_fits hf hall ha.2 hm
  | .w c a b, m, ha, hm => by
    simp only [Ty.ok, Bool.and_eq_true] at ha
    simp only [matchT, subst, Ty.hd, Ty.ps, if_true]
    obtain ⟨m1, h1, hm1⟩ := matchT_fits hf hall ha.1.2 hm
    rw [h1]
    exact matchT_fits hf hall ha.2 hm1
/-- A total substitution. -/
def total (f : Nat → Option Ty) (v : Nat) : Option Ty := if isVarN v then some ((f v).getD (.k v)) else none
theorem total_ok {f : Nat → Option Ty} (hf : ∀ v t, f v = some t → t.ok = true) : SubOk (total f) := by
  refine ⟨fun v hv => by simp [total, hv], fun v t h => ?_⟩
  unfold total at h
  split at h
  · rename_i hv
    cases h
    cases hb : f v with
    | none => simp only [Option.getD_none, Ty.ok, isLeafN, hv, Bool.or_true]
    | some u => exact hf v u hb
  · cases h
theorem total_subst {f : Nat → Option Ty} (h0 : ∀ v, isVarN v = false → f v = none) : ∀ (a : Ty), subst (total f) a = subst f a
  | .k c => by
    simp only [subst, total]
    by_cases hv : isVarN c = true
    · rw [if_pos hv]; rfl
    · rw [if_neg hv, h0 c (by simpa using hv)]
  | .u c a => by simp only [subst, total_subst h0 a]
  | .w c a b => by simp only [subst, total_subst h0 a, total_subst h0 b]
/-- A pattern fits a type: told by a substitution. -/
theorem instS_iff {p s : List Nat} {a t : Ty} (ha : ofTxt p = some a) (ht : ofTxt s = some t) : instS p s = true ↔ ∃ f, SubOk f ∧ subst f a = t := by
  obtain ⟨h1, h2, h3⟩ := ofTxt_some.1 ha
  obtain ⟨h4, h5, h6⟩ := ofTxt_some.1 ht
  have hms : matchS p s = matchT [] a t := by unfold matchS; rw [ha, ht]
  unfold instS
  rw [hms]
  constructor
  · intro h
    obtain ⟨m, hm⟩ := Option.isSome_iff_exists.1 h
    have b := BOk.matchT h1 h4 (by rw [← h5]; exact h6) BOk.nil hm
    have o := matchT_out h1 h4 (by rw [← h5]; exact h6) BOk.nil hm
    exact ⟨bget m, ⟨b.novar, fun v t h => (b.var _ (bget_mem h)).2.1⟩, o.sub⟩
  · rintro ⟨f, hf, rfl⟩
    obtain ⟨m, hm, _⟩ := matchT_fits (total_ok hf.ok) (fun v hv => by simp [total, hv]) h1 (m := []) (fun v u h => by simp [bget] at h)
    rw [total_subst hf.nv] at hm
    rw [hm]; rfl
theorem instS_ok {p s : List Nat} (h : instS p s = true) : tyOk p = true ∧ tyOk s = true := by
  unfold instS matchS at h
  split at h
  · rename_i a t ha ht; exact ⟨tyOk_of ha, tyOk_of ht⟩
  · cases h
theorem subst_id : ∀ (a : Ty), subst (fun _ => none) a = a
  | .k c => rfl
  | .u c a => by simp only [subst, subst_id a]
  | .w c a b => by simp only [subst, subst_id a, subst_id b]
theorem instS_refl {p : List Nat} (h : tyOk p = true) : instS p p = true := by
  obtain ⟨a, ha⟩ := tyOk_some h
  exact (instS_iff ha ha).2 ⟨fun _ => none, ⟨fun _ _ => rfl, fun _ _ h => by cases h⟩, subst_id a⟩
/-- One substitution behind another one. -/
noncomputable def after (f g : Nat → Option Ty) (v : Nat) : Option Ty := if isVarN v then some (subst g ((f v).getD (.k v))) else none
theorem after_ok {f g : Nat → Option Ty} (hf : SubOk f) (hg : SubOk g) : SubOk (after f g) := by
  refine ⟨fun v hv => by simp [after, hv], fun v t h => ?_⟩
  unfold after at h
  split at h
  · rename_i hv
    cases h
    refine subst_ok hg ?_
    cases hb : f v with
    | none => simp only [Option.getD_none, Ty.ok, isLeafN, hv, Bool.or_true]
    | some u => exact hf.ok v u hb
  · cases h
theorem after_subst {f g : Nat → Option Ty} (hf : SubOk f) (hg : SubOk g) : ∀ (a : Ty), subst (after f g) a = subst g (subst f a)
  | .k c => by
    simp only [subst, after]
    by_cases hv : isVarN c = true
    · rw [if_pos hv]; rfl
    · rw [if_neg hv, hf.nv c (by simpa using hv)]
      simp [subst, hg.nv c (by simpa using hv)]
  | .u c a => by simp only [subst, after_subst hf hg a]
  | .w c a b => by simp only [subst, after_subst hf hg a, after_subst hf hg b]
theorem instS_trans {p q s : List Nat} (h : instS p q = true) (k : instS q s = true) : instS p s = true := by
  obtain ⟨a, ha⟩ := tyOk_some (instS_ok h).1
  obtain ⟨b, hb⟩ := tyOk_some (instS_ok h).2
  obtain ⟨c, hc⟩ := tyOk_some (instS_ok k).2
  obtain ⟨f, hf, h1⟩ := (instS_iff ha hb).1 h
  obtain ⟨g, hg, h2⟩ := (instS_iff hb hc).1 k
  exact (instS_iff ha hc).2 ⟨after f g, after_ok hf hg, by rw [after_subst hf hg, h1, h2]⟩

/-- One instance is special to another one. -/
noncomputable def specI (a b : Ins) : Bool := decide (a.1.1 = b.1.1) && instS b.1.2 a.1.2
theorem specI_trans {a b c : Ins} (h : specI a b = true) (k : specI b c = true) : specI a c = true := by
  unfold specI at *
  simp only [Bool.and_eq_true, decide_eq_true_eq] at *
  exact ⟨h.1.trans k.1, instS_trans k.2 h.2⟩
end Go.Sim

set_option linter.unusedVariables false
set_option linter.unusedSimpArgs false
set_option maxRecDepth 20000
namespace Go.Sim
open Go Go.RowKit

noncomputable def inIx (w : Wd) (x : Int) : Bool := decide (x ≥ 0) && decide (x < (w.is.length : Nat))
noncomputable def specW (w : Wd) (x y : Int) : Bool := worldOk w && inIx w x && inIx w y && specI (w.is.getD x.toNat (([], []), [])) (w.is.getD y.toNat (([], []), []))
theorem inIx_at {w : Wd} {k : Nat} (h : k < w.is.length) : inIx w (k : Int) = true := by unfold inIx; simp; omega
theorem inIx_iff {w : Wd} {x : Int} (h : inIx w x = true) : ∃ k : Nat, x = k ∧ k < w.is.length := by
  unfold inIx at h; simp at h; exact ⟨x.toNat, by omega, by omega⟩
theorem special_ok {h : AHeap} {a a' : Pt} {n c n' c' : Nat} {e e' : Bool} {i k : Ins} :
    SCall pg n_impl_special [.agg [.str i.1.1, .str i.1.2, .slice a n c e], .agg [.str k.1.1, .str k.1.2, .slice a' n' c' e']] h fun v h' => v = .bool (specI i k) ∧ Same h.length h h' := by
  apply F_impl_special.call
  simp only [letH_def]
  generalize hh0 : h ++ [AObj.cells t_impl_Instance [.str i.1.1, .str i.1.2, .slice a n c e] false] = h0
  generalize hh1 : h0 ++ [AObj.cells t_impl_Instance [.str k.1.1, .str k.1.2, .slice a' n' c' e'] false] = h1
  have s0 : Same h.length h h0 := by rw [← hh0]; exact same_last
  have s1 : Same h0.length h0 h1 := by rw [← hh1]; exact same_last
  have o0 : h0[h.length]? = some (.cells t_impl_Instance [.str i.1.1, .str i.1.2, .slice a n c e] false) := by rw [← hh0]; simp
  have o1 := s1.get o0 (Own.lt o0)
  have k1 : h1[h0.length]? = some (.cells t_impl_Instance [.str k.1.1, .str k.1.2, .slice a' n' c' e'] false) := by rw [← hh1]; simp
  have S1 := s0.cat s1
  simp only [hCell_of o1, hCell_of k1, Nat.zero_add, List.getElem?_cons_succ, List.getElem?_cons_zero, xStr_some]
  refine bcase_dec (fun he => ?_) (fun he => ⟨by unfold specI; simp [he], S1⟩)
  refine (isInstance_ok k.1.2 i.1.2 h1).mono ?_
  rintro v h2 ⟨rfl, s2⟩
  simp only [xBool_some]
  exact ⟨by unfold specI; simp [he], S1.cat s2⟩
theorem inst_get {h : AHeap} {a0 a1 : Pt} {n0 c0 n1 c1 : Nat} {w : Wd} (r : WRep h a0 n0 c0 a1 n1 c1 w) {k : Nat} (hk : k < w.is.length) :
    ∃ i o a n cp e, a1 = some (i, o) ∧ i < h.length ∧ hRow h (.ptr (some (i, o + k * 3))) 3 = some [.str w.is[k].1.1, .str w.is[k].1.2, .slice a n cp e] ∧ hCell h (.ptr (some (i, o + k * 3))) = some (.str w.is[k].1.1) ∧ hCell h (.ptr (some (i, o + k * 3 + 1))) = some (.str w.is[k].1.2) ∧ Row h.length h a (n * 2) (flat eP w.is[k].2) ∧ w.is[k].2.length = n := by
  have hl := r.len1
  obtain ⟨i, o, hk', a, n, cp, e, h1, h2, h3, h4, h5, h6, h7, h8⟩ := r.inst (k := k) (by omega)
  exact ⟨i, o, a, n, cp, e, h1, h2, h3, h4, h5, h7, h8⟩
theorem isSpecial_ok {h : AHeap} {a0 a1 : Pt} {n0 c0 n1 c1 : Nat} {e0 e1 : Bool} {w : Wd} {x y : Int} (r : WRep h a0 n0 c0 a1 n1 c1 w) (b : WB w) :
    SCall pg n_impl_IsSpecial [.agg [.slice a0 n0 c0 e0, .slice a1 n1 c1 e1], .int .i64 x, .int .i64 y] h fun v h' => v = .bool (specW w x y) ∧ Same h.length h h' := by
  have hl1 := r.len1
  apply F_impl_IsSpecial.call
  simp only [letH_def]
  generalize hh0 : h ++ [AObj.cells t_impl_World [.slice a0 n0 c0 e0, .slice a1 n1 c1 e1] false] = h0
  have s0 : Same h.length h h0 := by rw [← hh0]; exact same_last
  have w0 : h0[h.length]? = some (wObj a0 n0 c0 e0 a1 n1 c1 e1) := by rw [← hh0]; simp [wObj]
  rw [wRow w0]
  simp only [wCell w0, Nat.zero_add, List.getElem?_cons_succ, List.getElem?_cons_zero, xRow_some, xCons_cons, xNil_nil, xSl_some]
  refine (worldValid_ok (r.same s0) b).mono ?_
  rintro v h2 ⟨rfl, s2⟩
  have S2 := s0.cat s2
  have w2 := s2.get w0 (Own.lt w0)
  simp only [xBool_some, true_and]
  refine bcase_intro (fun b1 => ?_) (fun b1 => ⟨by unfold specW; rw [b1]; rfl, S2⟩)
  refine bcase_dec (fun b2 => ?_) (fun b2 => ⟨by unfold specW inIx; simp [b2], S2⟩)
  refine bcase_dec (fun b3 => ?_) (fun b3 => ⟨by unfold specW inIx; simp [show ¬ x < (w.is.length : Int) by omega], S2⟩)
  refine bcase_dec (fun b4 => ?_) (fun b4 => ⟨by unfold specW inIx; simp [b4], S2⟩)
  refine bcase_dec (fun b5 => ?_) (fun b5 => ⟨by unfold specW inIx; simp [show ¬ y < (w.is.length : Int) by omega], S2⟩)
  obtain ⟨k, rfl⟩ : ∃ k : Nat, x = k := ⟨x.toNat, by omega⟩
  obtain ⟨l, rfl⟩ : ∃ k : Nat, y = k := ⟨y.toNat, by omega⟩
  have hk : k < w.is.length := by omega
  have hl : l < w.is.length := by omega
  obtain ⟨i, o, ka, kn, kc, ke, rfl, hi, hr1, _⟩ := inst_get (r.same S2) hk
  obtain ⟨i', o', la, ln, lc, le, he, hi', hr2, _⟩ := inst_get (r.same S2) hl
  cases he
  simp only [wCell w2, Nat.zero_add, List.getElem?_cons_succ, List.getElem?_cons_zero, xSl_some, xSome_some, Int.toNat_natCast, hr1, hr2, xRow_some, xCons_cons, xNil_nil, xStr_some, true_and]
  refine ⟨by omega, by omega, special_ok.mono ?_⟩
  rintro v h3 ⟨rfl, s3⟩
  simp only [xBool_some]
  refine ⟨by rw [wCell (s3.get w2 (Own.lt w2))]; rfl, ?_, S2.cat s3⟩
  unfold specW
  rw [b1, inIx_at hk, inIx_at hl, Int.toNat_natCast, Int.toNat_natCast, getD_at hk, getD_at hl]; rfl
theorem sIsSpecial_ok {h : AHeap} {a0 a1 : Pt} {n0 c0 n1 c1 : Nat} {e0 e1 : Bool} {w : Wd} {x y : Int} (r : WRep h a0 n0 c0 a1 n1 c1 w) (b : WB w) :
    SCall pg n_spec_IsSpecial [.agg [.slice a0 n0 c0 e0, .slice a1 n1 c1 e1], .int .i64 x, .int .i64 y] h fun v h' => v = .bool (specW w x y) ∧ Same h.length h h' := by
  have hl1 := r.len1
  have hli := b.li
  apply F_spec_IsSpecial.call
  simp only [letH_def]
  generalize hh0 : h ++ [AObj.cells t_impl_World [.slice a0 n0 c0 e0, .slice a1 n1 c1 e1] false] = h0
  have s0 : Same h.length h h0 := by rw [← hh0]; exact same_last
  have w0 : h0[h.length]? = some (wObj a0 n0 c0 e0 a1 n1 c1 e1) := by rw [← hh0]; simp [wObj]
  rw [wRow w0]
  simp only [xRow_some, xCons_cons, xNil_nil, xSl_some]
  refine (sWorldValid_ok (r.same s0) b).mono ?_
  rintro v h2 ⟨rfl, s2⟩
  have S2 := s0.cat s2
  have w2 := s2.get w0 (Own.lt w0)
  simp only [xBool_some]
  refine bcase_not (fun b1 => ⟨by unfold specW; rw [b1]; rfl, S2⟩) (fun b1 => ?_)
  simp only [wCell w2, Nat.zero_add, List.getElem?_cons_succ, List.getElem?_cons_zero, xSl_some]
  rw [IntWalk.i64_in _ (by omega)]
  have hin : ∀ z : Int, decide (0 ≤ z ∧ z ≤ ((n1 : Nat) : Int) - 1) = inIx w z := fun z => by
    unfold inIx; rw [hl1, Bool.eq_iff_iff]; simp; omega
  refine l1In_ok.mono ?_
  rintro v h3 ⟨rfl, rfl⟩
  simp only [xBool_some, hin]
  refine bcase_not (fun b2 => ⟨by unfold specW; rw [b2]; simp, S2⟩) (fun b2 => ?_)
  simp only [wCell w2, List.getElem?_cons_succ, List.getElem?_cons_zero, xSl_some]
  rw [IntWalk.i64_in _ (by omega)]
  refine l1In_ok.mono ?_
  rintro v h3 ⟨rfl, rfl⟩
  simp only [xBool_some, hin]
  refine bcase_not (fun b3 => ⟨by unfold specW; rw [b3]; simp, S2⟩) (fun b3 => ?_)
  obtain ⟨k, rfl, hk⟩ := inIx_iff b2
  obtain ⟨l, rfl, hl⟩ := inIx_iff b3
  apply F_spec_IsSpecial.J3i
  obtain ⟨i, o, ka, kn, kc, ke, rfl, hi, _, hc1, hd1, _⟩ := inst_get (r.same S2) hk
  obtain ⟨i', o', la, ln, lc, le, he, hi', _, hc2, hd2, _⟩ := inst_get (r.same S2) hl
  cases he
  simp only [wCell w2, Nat.zero_add, Nat.add_zero, List.getElem?_cons_succ, List.getElem?_cons_zero, xSl_some, xSome_some, Int.toNat_natCast, hc1, hc2, hd1, hd2, xStr_some, true_and]
  have hval : specW w (k : Int) (l : Int) = specI w.is[k] w.is[l] := by
    unfold specW
    rw [b1, inIx_at hk, inIx_at hl, Int.toNat_natCast, Int.toNat_natCast, getD_at hk, getD_at hl]; rfl
  refine ⟨by omega, by omega, bcase_dec (fun he => ?_) (fun he => ⟨by rw [hval]; unfold specI; simp [he], S2⟩)⟩
  have hbk := b.is _ (List.getElem_mem hk)
  have hbl := b.is _ (List.getElem_mem hl)
  refine ⟨by omega, by omega, (sIsInstance_ok _ _ hbl.2.1 hbk.2.1 _).mono ?_⟩
  rintro v h4 ⟨rfl, s4⟩
  have hce : ∀ z, hCell h4 (.ptr (some (i, z))) = hCell h3 (.ptr (some (i, z))) := fun z => by simp only [hCell, s4.eq i hi]
  simp only [xBool_some, wCell (s4.get w2 (Own.lt w2)), hce, hc1, List.getElem?_cons_succ, List.getElem?_cons_zero, true_and]
  exact ⟨by rw [hval]; unfold specI; simp [he], S2.cat s4⟩
end Go.Sim

set_option linter.unusedVariables false
set_option linter.unusedSimpArgs false
set_option maxRecDepth 20000
namespace Go.Sim
open Go Go.RowKit

theorem u_L_int : pg.underlying t_L_int = some (.slice t_int) := by kernel_rfl
theorem c_int : pg.cellsOf t_int = 1 := by kernel_rfl
theorem k_int : pg.okElem t_int = true := by kernel_rfl
theorem b_int : pg.bytesOf t_int ≤ 127 := Nat.le_of_ble_eq_true (by kernel_rfl)
/-- An instance with a need that is no smaller. -/
noncomputable def growI (i : Ins) : Bool := i.2.any fun n => !smallN n.2 i.1.2
/-- The indices of the elements for which something holds. -/
def ixs {α : Type} (f : α → Bool) (l : List α) : List Int := (l.zipIdx.filter fun p => f p.1).map fun p => (p.2 : Int)
theorem ixs_take {α : Type} (f : α → Bool) {l : List α} {g : Nat} (h : g < l.length) : ixs f (l.take (g + 1)) = ixs f (l.take g) ++ if f l[g] then [(g : Int)] else [] := by
  unfold ixs
  rw [List.take_succ_eq_append_getElem h, List.zipIdx_append, List.filter_append, List.map_append]
  congr 1
  simp only [List.length_take, Nat.min_eq_left (by omega : g ≤ l.length), Nat.zero_add, List.zipIdx_singleton, List.filter_cons, List.filter_nil]
  split <;> simp
theorem ixs_len {α : Type} (f : α → Bool) (l : List α) : (ixs f l).length ≤ l.length := by
  unfold ixs; rw [List.length_map]; exact Nat.le_trans (List.length_filter_le _ _) (by simp)
noncomputable def growL (w : Wd) : List Int := if worldOk w then ixs growI w.is else []
theorem worldOk_parts {w : Wd} (h : worldOk w = true) {i : Ins} (hi : i ∈ w.is) : tyOk i.1.2 = true ∧ ∀ n ∈ i.2, tyOk n.2 = true := by
  unfold worldOk at h
  simp only [Bool.and_eq_true, List.all_eq_true] at h
  have := h.2 i hi
  unfold insOk at this
  simp only [Bool.and_eq_true, List.all_eq_true] at this
  refine ⟨this.1.1.1.1.2, fun n hn => ?_⟩
  have := this.2 n hn
  unfold needIn at this
  simp only [Bool.and_eq_true] at this
  exact this.1.1.2
theorem fa0 {j o : Nat} {K : AVal → Prop} : fieldAddrA pg t_impl_Instance (.ptr (some (j, o))) 0 K = K (.ptr (some (j, o + 0))) := by kernel_rfl
theorem fa1 {j o : Nat} {K : AVal → Prop} : fieldAddrA pg t_impl_Need (.ptr (some (j, o))) 1 K = K (.ptr (some (j, o + 1))) := by kernel_rfl
theorem any_take {l : List Nd} {f : Nd → Bool} {g : Nat} (hg : g < l.length) : (l.take (g + 1)).any f = ((l.take g).any f || f l[g]) := by
  rw [List.take_succ_eq_append_getElem hg, List.any_append]; simp
/-- What GrowingOf answers. -/
def GrowQ (w : Wd) (h : AHeap) (v : AVal) (h' : AHeap) : Prop := Same h.length h h' ∧ ∃ a n c e, v = .tup [.slice a n c e, .bool (worldOk w)] ∧ FreshR t_int eI h.length h' a n (growL w)
end Go.Sim

set_option linter.unusedVariables false
set_option linter.unusedSimpArgs false
set_option maxRecDepth 20000
namespace Go.Sim
open Go Go.RowKit

/-- An instance is a candidate for a need. -/
noncomputable def candF (n : Nd) (i : Ins) : Bool := decide (i.1.1 = n.1) && instS i.1.2 n.2
noncomputable def candW (w : Wd) (n : Nd) : List Int := ixs (candF n) w.is
noncomputable def candL (w : Wd) (n : Nd) : List Int := if worldOk w && needOkW w n then candW w n else []
theorem ixs_mem {α : Type} {f : α → Bool} {l : List α} {x : Int} (h : x ∈ ixs f l) : ∃ k : Nat, ∃ hk : k < l.length, x = k ∧ f l[k] = true := by
  unfold ixs at h
  obtain ⟨p, hp, rfl⟩ := List.mem_map.1 h
  obtain ⟨h1, h2⟩ := List.mem_filter.1 hp
  obtain ⟨a, k⟩ := p
  have h3 := List.mem_zipIdx h1
  simp only [Nat.zero_add, Nat.zero_le, Nat.sub_zero, true_and] at h3
  exact ⟨k, h3.1, rfl, by simp only at h2; rw [← h3.2]; exact h2⟩
theorem iNeedValid_ok {h : AHeap} {a0 a1 : Pt} {n0 c0 n1 c1 : Nat} {e0 e1 : Bool} {w : Wd} {ct tt : List Nat} (r : WRep h a0 n0 c0 a1 n1 c1 w) (b : WB w) :
    SCall pg n_impl_NeedValid [.agg [.slice a0 n0 c0 e0, .slice a1 n1 c1 e1], .agg [.str ct, .str tt]] h fun v h' => v = .bool (worldOk w && needOkW w (ct, tt)) ∧ Same h.length h h' := by
  apply F_impl_NeedValid.call
  simp only [letH_def]
  generalize hh0 : h ++ [AObj.cells t_impl_World [.slice a0 n0 c0 e0, .slice a1 n1 c1 e1] false] = h0
  generalize hh1 : h0 ++ [AObj.cells t_impl_Need [.str ct, .str tt] false] = h1
  have s0 : Same h.length h h0 := by rw [← hh0]; exact same_last
  have s1 : Same h0.length h0 h1 := by rw [← hh1]; exact same_last
  have w0 : h0[h.length]? = some (wObj a0 n0 c0 e0 a1 n1 c1 e1) := by rw [← hh0]; simp [wObj]
  have w1 := s1.get w0 (Own.lt w0)
  have i1 : h1[h0.length]? = some (.cells t_impl_Need [.str ct, .str tt] false) := by rw [← hh1]; simp
  rw [wRow w1]
  simp only [xRow_some, xCons_cons, xNil_nil, xSl_some]
  refine (worldValid_ok (r.same (s0.cat s1)) b).mono ?_
  rintro v h2 ⟨rfl, s2⟩
  simp only [xBool_some]
  have i2 := s2.get i1 (Own.lt i1)
  have w2 := s2.get w1 (Own.lt w1)
  refine bcase_intro (fun b1 => ?_) (fun b1 => ⟨by rw [b1]; rfl, (s0.cat s1).cat s2⟩)
  rw [wRow w2, hRow_of i2 (by simp)]
  simp only [List.drop_zero, List.take_succ_cons, List.take_zero, xRow_some, xCons_cons, xNil_nil, xSl_some, xStr_some]
  refine (needOk_ok (r.same ((s0.cat s1).cat s2)) b).mono ?_
  rintro v h3 ⟨rfl, s3⟩
  simp only [xBool_some]
  exact ⟨by rw [b1]; rfl, ((s0.cat s1).cat s2).cat s3⟩
theorem candLit_ok {h : AHeap} {a : Pt} {n c j : Nat} {e : Bool} {ct tt nc nt : List Nat} (hj : h[j]? = some (.cells t_impl_Need [.str nc, .str nt] false)) :
    SCall pg n_impl_candidates_lit1 [.agg [.str ct, .str tt, .slice a n c e], .ptr (some (j, 0))] h fun v h' => v = .bool (instS tt nt) ∧ Same h.length h h' := by
  apply F_impl_candidates_lit1.call
  have s1 : Same h.length h (h ++ [.cells t_impl_Instance [.str ct, .str tt, .slice a n c e] false]) := same_last
  simp only [letH_def, hCell_last, Nat.zero_add, List.getElem?_cons_succ, List.getElem?_cons_zero, xStr_some, fa1, hCell_of (s1.get hj (Own.lt hj))]
  refine (isInstance_ok tt nt _).mono ?_
  rintro v h2 ⟨rfl, s2⟩
  simp only [xBool_some]
  exact ⟨by trivial, s1.cat s2⟩
theorem store3' {h : AHeap} {t : TypeId} {x y z a b c : AVal} : hStore (h ++ [.cells t [x, y, z] false]) (.ptr (some (h.length, 0))) [a, b, c] = some (h ++ [.cells t [a, b, c] false]) := store_last rfl
theorem among_cand {h : AHeap} {a0 a1 : Pt} {n0 c0 n1 c1 j : Nat} {e0 e1 : Bool} {w : Wd} {nd : Nd} (r : WRep h a0 n0 c0 a1 n1 c1 w) (b : WB w) (hj : h[j]? = some (.cells t_impl_Need [.str nd.1, .str nd.2] false)) :
    SCall pg n_impl_among [.agg [.slice a0 n0 c0 e0, .slice a1 n1 c1 e1], .str nd.1, .fn n_impl_candidates_lit1 [.ptr (some (j, 0))]] h fun v h' => Same h.length h h' ∧ ∃ a n c e, v = .slice a n c e ∧ FreshR t_int eI h.length h' a n (candW w nd) := by
  have hl1 := r.len1
  have hli := b.li
  apply F_impl_among__impl_candidates_lit1.call
  simp only [letH_def]
  generalize hh0 : h ++ [AObj.cells t_impl_World [.slice a0 n0 c0 e0, .slice a1 n1 c1 e1] false] = h0
  generalize hh1 : h0 ++ [AObj.cells t_int [] false] = h1
  have s0 : Same h.length h h0 := by rw [← hh0]; exact same_last
  have s1 : Same h0.length h0 h1 := by rw [← hh1]; exact same_last
  have w0 : h0[h.length]? = some (wObj a0 n0 c0 e0 a1 n1 c1 e1) := by rw [← hh0]; simp [wObj]
  have w1 := s1.get w0 (Own.lt w0)
  have o1 : h1[h0.length]? = some (.cells t_int [] false) := by rw [← hh1]; simp
  have l0 : h0.length = h.length + 1 := by rw [← hh0]; simp
  have S1 := s0.cat s1
  simp only [wCell w1, Nat.zero_add, List.getElem?_cons_succ, List.getElem?_cons_zero, xSl_some]
  refine F_impl_among__impl_candidates_lit1.L3ind _ _ _ _ _ _ _ _ (J := fun (g : Nat) a4 n4 c4 e4 x14 h' => x14 = (g : Int) ∧ g ≤ n1 ∧ Same h.length h h' ∧ n4 = (ixs (candF nd) (w.is.take g)).length ∧ Vec t_int h' a4 n4 c4 (flat eI (ixs (candF nd) (w.is.take g))) ∧ (∀ i, a4 = some (i, 0) → h.length ≤ i)) (fun g => n1 - g) ?_ 0 _ _ _ _ _ _
    ⟨rfl, by omega, S1, rfl, Vec.mk1 (by simpa [ixs] using o1), fun i hi => by cases hi; omega⟩
  rintro g a4 n4 c4 e4 x14 h' ⟨rfl, hg, hS, rfl, hv, ha⟩ R hR
  unfold F_impl_among__impl_candidates_lit1.L3t
  refine bcase_dec (fun hlt => ?_) (fun hge => ?_)
  · have hgl : g < w.is.length := by omega
    obtain ⟨i, o, a2, n2, c2, e2, rfl, _, hr, _, _, hrow, hn⟩ := inst_get (r.same hS) hgl
    simp only [xSome_some, Int.toNat_natCast, hr, xRow_some, xCons_cons, xNil_nil, xStr_some, xSl_some, letH_def]
    rw [store3']
    simp only [xHeap_some, hCell_last, Nat.zero_add, List.getElem?_cons_succ, List.getElem?_cons_zero, xStr_some]
    have hil := ixs_len (candF nd) (w.is.take g)
    rw [List.length_take] at hil
    have htk := ixs_take (candF nd) hgl
    generalize hq : h' ++ [AObj.cells t_impl_Instance [.str w.is[g].1.1, .str w.is[g].1.2, .slice a2 n2 c2 e2] false] = hq'
    have sq : Same h'.length h' hq' := by rw [← hq]; exact same_last
    have skip : ∀ hz, Same hq'.length hq' hz → candF nd w.is[g] = false → F_impl_among__impl_candidates_lit1.J7 (fun v h' => Same h.length h h' ∧ ∃ a n c e, v = .slice a n c e ∧ FreshR t_int eI h.length h' a n (candW w nd)) R (g : Int) (((n1 : Nat) : Int)) (some (i, o)) n1 c1 e1 nd.1 (.ptr (some (j, 0))) a4 (ixs (candF nd) (w.is.take g)).length c4 e4 hz := by
      intro hz sz hno
      apply F_impl_among__impl_candidates_lit1.J7i
      rw [hno] at htk
      simp only [Bool.false_eq_true, if_false, List.append_nil] at htk
      rw [wrap_nat (by omega)]
      exact hR (g + 1) _ _ _ _ _ _ (by omega) ⟨rfl, by omega, (hS.cat sq).cat sz, by rw [htk], by rw [htk]; exact (hv.same sq).same sz, ha⟩
    refine ⟨by omega, bcase_dec (fun hc => ?_) (fun hc => skip _ (Same.refl _ _) (by unfold candF; simp [hc]))⟩
    rw [← hq, rowL3, hq]
    simp only [xRow_some, xCons_cons, xNil_nil, xStr_some, xSl_some]
    refine (candLit_ok (sq.get (hS.get hj (Own.lt hj)) (by have := Own.lt hj; have := hS.le; omega))).mono ?_
    rintro v h3 ⟨rfl, s3⟩
    simp only [xBool_some]
    refine bcase_intro (fun hi => ?_) (fun hi => skip _ s3 (by unfold candF; simp [hi]))
    have hyes : candF nd w.is[g] = true := by unfold candF; simp [hc, hi]
    rw [hyes, if_pos rfl] at htk
    have S3 := (hS.cat sq).cat s3
    refine ((hv.same sq).same s3).push u_L_int c_int k_int b_int (by rw [flat_length eI_len]; omega) rfl (by omega) (fun h6 hl6 hi6 hk6 => ?_)
    simp only [xSl_some]
    apply F_impl_among__impl_candidates_lit1.J7i
    rw [wrap_nat (by omega)]
    have hle := S3.le
    refine hR (g + 1) _ _ _ _ _ _ (by omega) ⟨rfl, by omega, ⟨by omega, fun j hj => ?_⟩, by rw [htk]; simp, Vec.mk1 ?_, fun i hi => by cases hi; omega⟩
    · rw [hk6 j (by omega) fun i hi => by have := ha i hi; omega]; exact S3.eq j hj
    · rw [hi6, htk, flat_append]; rfl
  · apply F_impl_among__impl_candidates_lit1.A3x0i
    have : g = n1 := by omega
    subst this
    rw [List.take_of_length_le (by omega)] at hv ⊢
    exact ⟨hS, _, _, _, _, rfl, hv.fresh (b := h.length) rfl fun i hi => ha i hi⟩
/-- Candidates: a list of one's own. -/
def CandR (w : Wd) (n : Nd) (h : AHeap) (v : AVal) (h' : AHeap) : Prop := Same h.length h h' ∧ ∃ a m c e, v = .slice a m c e ∧ FreshR t_int eI h.length h' a m (candW w n)
theorem FreshR.low {α : Type} {ty : TypeId} {enc : α → List AVal} {b b' : Nat} {h : AHeap} {a : Pt} {n : Nat} {l : List α} (f : FreshR ty enc b h a n l) (hb : b' ≤ b) : FreshR ty enc b' h a n l :=
  ⟨f.1, f.2.imp id fun ⟨i, ha, hbi, hi⟩ => ⟨i, ha, by omega, hi⟩⟩
theorem candidates_ok {h : AHeap} {a0 a1 : Pt} {n0 c0 n1 c1 : Nat} {e0 e1 : Bool} {w : Wd} {nd : Nd} (r : WRep h a0 n0 c0 a1 n1 c1 w) (b : WB w) :
    SCall pg n_impl_candidates [.agg [.slice a0 n0 c0 e0, .slice a1 n1 c1 e1], .agg [.str nd.1, .str nd.2]] h (CandR w nd h) := by
  apply F_impl_candidates.call
  simp only [letH_def]
  generalize hh0 : h ++ [AObj.cells t_impl_World [.slice a0 n0 c0 e0, .slice a1 n1 c1 e1] false] = h0
  generalize hh1 : h0 ++ [AObj.cells t_impl_Need [.str nd.1, .str nd.2] false] = h1
  have s0 : Same h.length h h0 := by rw [← hh0]; exact same_last
  have s1 : Same h0.length h0 h1 := by rw [← hh1]; exact same_last
  have w0 : h0[h.length]? = some (wObj a0 n0 c0 e0 a1 n1 c1 e1) := by rw [← hh0]; simp [wObj]
  have w1 := s1.get w0 (Own.lt w0)
  have i1 : h1[h0.length]? = some (.cells t_impl_Need [.str nd.1, .str nd.2] false) := by rw [← hh1]; simp
  have S1 := s0.cat s1
  rw [wRow w1]
  simp only [xRow_some, xCons_cons, xNil_nil, xSl_some, hCell_of i1, Nat.zero_add, List.getElem?_cons_zero, xStr_some]
  refine (among_cand (r.same S1) b i1).mono ?_
  rintro v h2 ⟨s2, a, n, c, e, rfl, f⟩
  simp only [xSl_some]
  exact ⟨S1.cat s2, a, n, c, e, rfl, f.low S1.le⟩
/-- What CandidatesOf answers. -/
def CandQ (w : Wd) (n : Nd) (h : AHeap) (v : AVal) (h' : AHeap) : Prop := Same h.length h h' ∧ ∃ a m c e, v = .tup [.slice a m c e, .bool (worldOk w && needOkW w n)] ∧ FreshR t_int eI h.length h' a m (candL w n)
theorem candidatesOf_ok {h : AHeap} {a0 a1 : Pt} {n0 c0 n1 c1 : Nat} {e0 e1 : Bool} {w : Wd} {nd : Nd} (r : WRep h a0 n0 c0 a1 n1 c1 w) (b : WB w) :
    SCall pg n_impl_CandidatesOf [.agg [.slice a0 n0 c0 e0, .slice a1 n1 c1 e1], .agg [.str nd.1, .str nd.2]] h (CandQ w nd h) := by
  apply F_impl_CandidatesOf.call
  simp only [letH_def]
  generalize hh0 : h ++ [AObj.cells t_impl_World [.slice a0 n0 c0 e0, .slice a1 n1 c1 e1] false] = h0
  generalize hh1 : h0 ++ [AObj.cells t_impl_Need [.str nd.1, .str nd.2] false] = h1
  have s0 : Same h.length h h0 := by rw [← hh0]; exact same_last
  have s1 : Same h0.length h0 h1 := by rw [← hh1]; exact same_last
  have w0 : h0[h.length]? = some (wObj a0 n0 c0 e0 a1 n1 c1 e1) := by rw [← hh0]; simp [wObj]
  have w1 := s1.get w0 (Own.lt w0)
  have i1 : h1[h0.length]? = some (.cells t_impl_Need [.str nd.1, .str nd.2] false) := by rw [← hh1]; simp
  have S1 := s0.cat s1
  rw [wRow w1, hRow_of i1 (by simp)]
  simp only [List.drop_zero, List.take_succ_cons, List.take_zero, xRow_some, xCons_cons, xNil_nil, xSl_some, xStr_some]
  refine (iNeedValid_ok (r.same S1) b).mono ?_
  rintro v h2 ⟨rfl, s2⟩
  have i2 := s2.get i1 (Own.lt i1)
  have w2 := s2.get w1 (Own.lt w1)
  have S2 := S1.cat s2
  simp only [xBool_some]
  refine bcase_not (fun b1 => ⟨S2, none, 0, 0, true, by rw [b1], by unfold candL; rw [b1]; exact ⟨rfl, .inl rfl⟩⟩) (fun b1 => ?_)
  rw [wRow w2, hRow_of i2 (by simp)]
  simp only [List.drop_zero, List.take_succ_cons, List.take_zero, xRow_some, xCons_cons, xNil_nil, xSl_some, xStr_some]
  refine (candidates_ok (r.same S2) b).mono ?_
  rintro v h3 ⟨s3, a, n, c, e, rfl, f⟩
  simp only [xSl_some]
  exact ⟨S2.cat s3, a, n, c, e, by rw [b1], by unfold candL; rw [if_pos b1]; exact f.low S2.le⟩
theorem sCandidates_ok {h : AHeap} {a0 a1 : Pt} {n0 c0 n1 c1 : Nat} {e0 e1 : Bool} {w : Wd} {nd : Nd} (r : WRep h a0 n0 c0 a1 n1 c1 w) (b : WB w) (hnt : nd.2.length ≤ 1048576) :
    SCall pg n_spec_l4Candidates [.agg [.slice a0 n0 c0 e0, .slice a1 n1 c1 e1], .agg [.str nd.1, .str nd.2]] h (CandR w nd h) := by
  have hl1 := r.len1
  have hli := b.li
  apply F_spec_l4Candidates.call
  simp only [letH_def]
  generalize hh0 : h ++ [AObj.cells t_impl_World [.slice a0 n0 c0 e0, .slice a1 n1 c1 e1] false] = h0
  generalize hh1 : h0 ++ [AObj.cells t_impl_Need [.str nd.1, .str nd.2] false] = h1
  generalize hh2 : h1 ++ [AObj.cells t_int [] false] = h2
  have s0 : Same h.length h h0 := by rw [← hh0]; exact same_last
  have s1 : Same h0.length h0 h1 := by rw [← hh1]; exact same_last
  have s2 : Same h1.length h1 h2 := by rw [← hh2]; exact same_last
  have w0 : h0[h.length]? = some (wObj a0 n0 c0 e0 a1 n1 c1 e1) := by rw [← hh0]; simp [wObj]
  have w2 := s2.get (s1.get w0 (Own.lt w0)) (by have := Own.lt w0; have := s1.le; omega)
  have i1 : h1[h0.length]? = some (.cells t_impl_Need [.str nd.1, .str nd.2] false) := by rw [← hh1]; simp
  have i2 := s2.get i1 (Own.lt i1)
  have o2 : h2[h1.length]? = some (.cells t_int [] false) := by rw [← hh2]; simp
  have S2 := (s0.cat s1).cat s2
  have hle1 := (s0.cat s1).le
  have l1' : h1.length = h0.length + 1 := by rw [← hh1]; simp
  simp only [wCell w2, Nat.zero_add, List.getElem?_cons_succ, List.getElem?_cons_zero, xSl_some]
  refine F_spec_l4Candidates.L3ind _ _ _ _ _ _ _ _ (J := fun (g : Nat) a4 n4 c4 e4 x12 h' => x12 = (g : Int) ∧ g ≤ n1 ∧ Same h.length h h' ∧ h'[h0.length]? = some (.cells t_impl_Need [.str nd.1, .str nd.2] false) ∧ n4 = (ixs (candF nd) (w.is.take g)).length ∧ Vec t_int h' a4 n4 c4 (flat eI (ixs (candF nd) (w.is.take g))) ∧ (∀ i, a4 = some (i, 0) → h1.length ≤ i)) (fun g => n1 - g) ?_ 0 _ _ _ _ _ _
    ⟨rfl, by omega, S2, i2, rfl, Vec.mk1 (by simpa [ixs] using o2), fun i hi => by cases hi; omega⟩
  rintro g a4 n4 c4 e4 x12 h' ⟨rfl, hg, hS, hi0, rfl, hv, ha⟩ R hR
  have hlt1 := Own.lt i1
  unfold F_spec_l4Candidates.L3t
  refine bcase_dec (fun hlt => ?_) (fun hge => ?_)
  · have hgl : g < w.is.length := by omega
    obtain ⟨i, o, a2, n2, c2, e2, rfl, _, hr, _, _, hrow, hn⟩ := inst_get (r.same hS) hgl
    simp only [xSome_some, Int.toNat_natCast, hr, xRow_some, xCons_cons, xNil_nil, xStr_some, xSl_some, letH_def]
    rw [store3']
    have hil := ixs_len (candF nd) (w.is.take g)
    rw [List.length_take] at hil
    have htk := ixs_take (candF nd) hgl
    have hb := b.is _ (List.getElem_mem hgl)
    generalize hq : h' ++ [AObj.cells t_impl_Instance [.str w.is[g].1.1, .str w.is[g].1.2, .slice a2 n2 c2 e2] false] = hq'
    have sq : Same h'.length h' hq' := by rw [← hq]; exact same_last
    have oq : hq'[h'.length]? = some (.cells t_impl_Instance [.str w.is[g].1.1, .str w.is[g].1.2, .slice a2 n2 c2 e2] false) := by rw [← hq]; simp
    have iq := sq.get hi0 (Own.lt hi0)
    simp only [xHeap_some, hCell_of oq, hCell_of iq, Nat.zero_add, List.getElem?_cons_succ, List.getElem?_cons_zero, xStr_some]
    have skip : ∀ hz, Same hq'.length hq' hz → candF nd w.is[g] = false → F_spec_l4Candidates.J7 (CandR w nd h) R (g : Int) (((n1 : Nat) : Int)) (some (i, o)) n1 c1 e1 h0.length 0 a4 (ixs (candF nd) (w.is.take g)).length c4 e4 hz := by
      intro hz sz hno
      apply F_spec_l4Candidates.J7i
      rw [hno] at htk
      simp only [Bool.false_eq_true, if_false, List.append_nil] at htk
      rw [wrap_nat (by omega)]
      exact hR (g + 1) _ _ _ _ _ _ (by omega) ⟨rfl, by omega, (hS.cat sq).cat sz, sz.get iq (Own.lt iq), by rw [htk], by rw [htk]; exact (hv.same sq).same sz, ha⟩
    refine ⟨by omega, bcase_dec (fun hc => ?_) (fun hc => skip _ (Same.refl _ _) (by unfold candF; simp [hc]))⟩
    refine (sIsInstance_ok _ _ hb.2.1 hnt _).mono ?_
    rintro v h3 ⟨rfl, s3⟩
    simp only [xBool_some]
    refine bcase_intro (fun hi => ?_) (fun hi => skip _ s3 (by unfold candF; simp [hi]))
    have hyes : candF nd w.is[g] = true := by unfold candF; simp [hc, hi]
    rw [hyes, if_pos rfl] at htk
    have S3 := (hS.cat sq).cat s3
    have i3 := s3.get iq (Own.lt iq)
    refine ((hv.same sq).same s3).push u_L_int c_int k_int b_int (by rw [flat_length eI_len]; omega) rfl (by omega) (fun h6 hl6 hi6 hk6 => ?_)
    simp only [xSl_some]
    apply F_spec_l4Candidates.J7i
    rw [wrap_nat (by omega)]
    have hle := S3.le
    have hle3 := Own.lt i3
    refine hR (g + 1) _ _ _ _ _ _ (by omega) ⟨rfl, by omega, ⟨by omega, fun j hj => ?_⟩, ?_, by rw [htk]; simp, Vec.mk1 ?_, fun i hi => by cases hi; have := s3.le; have := sq.le; have := Own.lt hi0; omega⟩
    · rw [hk6 j (by omega) fun i hi => by have := ha i hi; omega]; exact S3.eq j hj
    · rw [hk6 _ hle3 fun i hi => by have := ha i hi; omega]; exact i3
    · rw [hi6, htk, flat_append]; rfl
  · apply F_spec_l4Candidates.A3x0i
    have : g = n1 := by omega
    subst this
    rw [List.take_of_length_le (by omega)] at hv ⊢
    exact ⟨hS, _, _, _, _, rfl, hv.fresh (b := h.length) rfl fun i hi => by have := ha i hi; omega⟩
theorem sCandidatesOf_ok {h : AHeap} {a0 a1 : Pt} {n0 c0 n1 c1 : Nat} {e0 e1 : Bool} {w : Wd} {nd : Nd} (r : WRep h a0 n0 c0 a1 n1 c1 w) (b : WB w) (hnt : nd.2.length ≤ 1048576) :
    SCall pg n_spec_CandidatesOf [.agg [.slice a0 n0 c0 e0, .slice a1 n1 c1 e1], .agg [.str nd.1, .str nd.2]] h (CandQ w nd h) := by
  apply F_spec_CandidatesOf.call
  simp only [letH_def]
  generalize hh0 : h ++ [AObj.cells t_impl_World [.slice a0 n0 c0 e0, .slice a1 n1 c1 e1] false] = h0
  generalize hh1 : h0 ++ [AObj.cells t_impl_Need [.str nd.1, .str nd.2] false] = h1
  have s0 : Same h.length h h0 := by rw [← hh0]; exact same_last
  have s1 : Same h0.length h0 h1 := by rw [← hh1]; exact same_last
  have w0 : h0[h.length]? = some (wObj a0 n0 c0 e0 a1 n1 c1 e1) := by rw [← hh0]; simp [wObj]
  have w1 := s1.get w0 (Own.lt w0)
  have i1 : h1[h0.length]? = some (.cells t_impl_Need [.str nd.1, .str nd.2] false) := by rw [← hh1]; simp
  have S1 := s0.cat s1
  rw [wRow w1, hRow_of i1 (by simp)]
  simp only [List.drop_zero, List.take_succ_cons, List.take_zero, xRow_some, xCons_cons, xNil_nil, xSl_some, xStr_some]
  refine (needValid_ok (r.same S1) b hnt).mono ?_
  rintro v h2 ⟨rfl, s2⟩
  have i2 := s2.get i1 (Own.lt i1)
  have w2 := s2.get w1 (Own.lt w1)
  have S2 := S1.cat s2
  simp only [xBool_some]
  refine bcase_not (fun b1 => ⟨S2.cat same_last, _, 0, 0, true, by rw [b1], by unfold candL; rw [b1]; exact ⟨rfl, .inl rfl⟩⟩) (fun b1 => ?_)
  rw [wRow w2, hRow_of i2 (by simp)]
  simp only [List.drop_zero, List.take_succ_cons, List.take_zero, xRow_some, xCons_cons, xNil_nil, xSl_some, xStr_some]
  refine (sCandidates_ok (r.same S2) b hnt).mono ?_
  rintro v h3 ⟨s3, a, n, c, e, rfl, f⟩
  simp only [xSl_some]
  exact ⟨S2.cat s3, a, n, c, e, by rw [b1], by unfold candL; rw [if_pos b1]; exact f.low S2.le⟩
theorem candL_len {w : Wd} (b : WB w) (n : Nd) : (candL w n).length ≤ 1048576 := by
  unfold candL candW
  have := ixs_len (candF n) w.is; have := b.li
  split
  · omega
  · simp
end Go.Sim

set_option linter.unusedVariables false
set_option linter.unusedSimpArgs false
set_option maxRecDepth 20000
namespace Go.Sim
open Go Go.RowKit

end Go.Sim
