/- A part of the proof of a statement of this seat: see the text that holds the theorem. No condition. -/
import Derived.Test.YtcdpjjhnhiaapaaGreatPTCCand
import Derived.Test.YtcdpjjhnhiaapaaGreatCCand
set_option linter.unusedVariables false
set_option linter.unusedSimpArgs false
set_option linter.all false
set_option linter.unusedVariables false
set_option linter.unusedSimpArgs false
set_option maxRecDepth 20000
namespace Go.Sim
open Go Go.RowKit

def insAt (w : Wd) (x : Int) : Ins := w.is.getD x.toNat (([], []), [])
theorem insAt_of {w : Wd} {k : Nat} (h : k < w.is.length) : insAt w (k : Int) = w.is[k] := by unfold insAt; rw [Int.toNat_natCast, getD_at h]
/-- Special to all of some. -/
noncomputable def topOf (w : Wd) (l : List Int) (x : Int) : Bool := l.all fun k => specI (insAt w x) (insAt w k)
noncomputable def mostI (w : Wd) (l : List Int) : Int := match l.find? (topOf w l) with | some x => x | none => -1
noncomputable def mostW (w : Wd) (n : Nd) : Int := mostI w (candL w n)
theorem find_take {α : Type} {f : α → Bool} {l : List α} {g : Nat} (hg : g < l.length) (h : (l.take g).find? f = none) (k : f l[g] = true) : l.find? f = some l[g] := by
  have h1 : l = l.take g ++ l[g] :: l.drop (g + 1) := by rw [← List.drop_eq_getElem_cons hg, List.take_append_drop]
  conv => lhs; rw [h1]
  rw [List.find?_append, h, List.find?_cons, k]; rfl
theorem find_take_succ {α : Type} {f : α → Bool} {l : List α} {g : Nat} (hg : g < l.length) (h : (l.take g).find? f = none) (k : f l[g] = false) : (l.take (g + 1)).find? f = none := by
  rw [List.take_succ_eq_append_getElem hg, List.find?_append, h]; simp [k]
def InW (w : Wd) (l : List Int) : Prop := ∀ x ∈ l, ∃ k : Nat, x = k ∧ k < w.is.length
theorem candW_in (w : Wd) (n : Nd) : InW w (candW w n) := fun x hx => by obtain ⟨k, hk, e, _⟩ := ixs_mem hx; exact ⟨k, e, hk⟩
theorem candL_in (w : Wd) (n : Nd) : InW w (candL w n) := fun x hx => by
  unfold candL at hx
  split at hx
  · exact candW_in w n x hx
  · cases hx
theorem faW1 {j o : Nat} {K : AVal → Prop} : fieldAddrA pg t_impl_World (.ptr (some (j, o))) 1 K = K (.ptr (some (j, o + 1))) := by kernel_rfl
theorem Row.i64 {b : Nat} {h : AHeap} {a : Pt} {n : Nat} {l : List Int} (r : Row b h a n (flat eI l)) {k : Nat} (hk : k < n) : ∃ i o, ∃ hk' : k < l.length, a = some (i, o) ∧ i < b ∧ hCell h (.ptr (some (i, o + k * 1))) = some (.int .i64 l[k]) := by
  obtain ⟨i, o, hk', ha, hi, hc⟩ := Row.el1 eI_len r hk
  exact ⟨i, o, hk', ha, hi, hc⟩
theorem mostLit_ok {h : AHeap} {a0 a1 : Pt} {n0 c0 n1 c1 j j2 : Nat} {e0 e1 : Bool} {w : Wd} {x y : Int} (r : WRep h a0 n0 c0 a1 n1 c1 w) (hj : h[j]? = some (wObj a0 n0 c0 e0 a1 n1 c1 e1)) (hj2 : h[j2]? = some (.cells t_int [.int .i64 x] false))
    (hx : ∃ k : Nat, x = k ∧ k < w.is.length) (hy : ∃ k : Nat, y = k ∧ k < w.is.length) :
    SCall pg n_impl_mostSpecial_lit1 [.int .i64 y, .ptr (some (j, 0)), .ptr (some (j2, 0))] h fun v h' => v = .bool (!specI (insAt w x) (insAt w y)) ∧ Same h.length h h' := by
  obtain ⟨k, rfl, hk⟩ := hx
  obtain ⟨l, rfl, hl⟩ := hy
  have hl1 := r.len1
  apply F_impl_mostSpecial_lit1.call
  obtain ⟨i, o, ka, kn, kc, ke, rfl, hi, hr1, _⟩ := inst_get r hk
  obtain ⟨i', o', la, ln, lc, le, he, hi', hr2, _⟩ := inst_get r hl
  cases he
  simp only [faW1, wCell hj, hCell_of hj2, Nat.zero_add, List.getElem?_cons_succ, List.getElem?_cons_zero, xSl_some, xSome_some, Int.toNat_natCast, hr1, hr2, xRow_some, xCons_cons, xNil_nil, xStr_some, xInt_some, true_and]
  refine ⟨by omega, by omega, special_ok.mono ?_⟩
  rintro v h3 ⟨rfl, s3⟩
  simp only [xBool_some]
  refine ⟨by rw [hCell_of (s3.get hj2 (Own.lt hj2))]; rfl, by rw [wCell (s3.get hj (Own.lt hj))]; rfl, ?_, s3⟩
  rw [insAt_of hk, insAt_of hl]
theorem index_most {h : AHeap} {a0 a1 : Pt} {n0 c0 n1 c1 j j2 : Nat} {e0 e1 : Bool} {w : Wd} {x : Int} {a : Pt} {n c : Nat} {e : Bool} {l : List Int} (r : WRep h a0 n0 c0 a1 n1 c1 w) (hj : h[j]? = some (wObj a0 n0 c0 e0 a1 n1 c1 e1)) (hj2 : h[j2]? = some (.cells t_int [.int .i64 x] false))
    (rl : Row h.length h a n (flat eI l)) (hn : n ≤ 1048576) (hx : ∃ k : Nat, x = k ∧ k < w.is.length) (hin : InW w l) :
    SCall pg n_slices_IndexFunc_L_int_int [.slice a n c e, .fn n_impl_mostSpecial_lit1 [.ptr (some (j, 0)), .ptr (some (j2, 0))]] h fun v h' => (∃ z : Int, v = .int .i64 z ∧ decide (z ≥ 0) = !topOf w l x) ∧ Same h.length h h' := by
  have hll : l.length = n := by have := rl.1; rw [flat_length eI_len] at this; omega
  apply F_slices_IndexFunc_L_int_int__impl_mostSpecial_lit1.call
  refine F_slices_IndexFunc_L_int_int__impl_mostSpecial_lit1.L2ind _ _ _ _ _ _ _ _ (J := fun (g : Nat) x8 h' => x8 = (g : Int) ∧ g ≤ n ∧ Same h.length h h' ∧ (l.take g).all (fun k => specI (insAt w x) (insAt w k)) = true) (fun g => n - g) ?_ 0 _ _ ⟨rfl, by omega, Same.refl _ _, rfl⟩
  rintro g x8 h' ⟨rfl, hg, hS, hk⟩ R hR
  unfold F_slices_IndexFunc_L_int_int__impl_mostSpecial_lit1.L2t
  refine bcase_dec (fun hlt => ?_) (fun hge => ?_)
  · obtain ⟨i, o, hgl, rfl, _, hr⟩ := (rl.same hS).i64 (k := g) (by omega)
    simp only [xSome_some, Int.toNat_natCast, hr, xInt_some]
    refine ⟨by omega, (mostLit_ok (r.same hS) (hS.get hj (Own.lt hj)) (hS.get hj2 (Own.lt hj2)) hx (hin _ (List.getElem_mem hgl))).mono ?_⟩
    rintro v h2 ⟨rfl, s2⟩
    simp only [xBool_some]
    have hS2 := hS.cat s2
    refine bcase_not (fun he => ?_) (fun he => ?_)
    · exact ⟨⟨_, rfl, by unfold topOf; rw [not_all hgl he]; simp⟩, hS2⟩
    · rw [wrap_nat (by omega)]
      exact hR (g + 1) _ _ (by omega) ⟨rfl, by omega, hS2, take_succ_all hgl hk he⟩
  · apply F_slices_IndexFunc_L_int_int__impl_mostSpecial_lit1.A2x0i
    have : g = n := by omega
    subst this
    rw [List.take_of_length_le (by omega)] at hk
    exact ⟨⟨_, rfl, by unfold topOf; rw [hk]; rfl⟩, hS⟩
theorem store1 {h : AHeap} {t : TypeId} {x a : AVal} : hStore (h ++ [.cells t [x] false]) (.ptr (some (h.length, 0))) [a] = some (h ++ [.cells t [a] false]) := store_last rfl
theorem iMost_ok {h : AHeap} {a0 a1 : Pt} {n0 c0 n1 c1 : Nat} {e0 e1 : Bool} {w : Wd} {a : Pt} {n c : Nat} {e : Bool} {l : List Int} (r : WRep h a0 n0 c0 a1 n1 c1 w) (rl : Row h.length h a n (flat eI l)) (hn : n ≤ 1048576) (hin : InW w l) :
    SCall pg n_impl_mostSpecial [.agg [.slice a0 n0 c0 e0, .slice a1 n1 c1 e1], .slice a n c e] h fun v h' => v = .int .i64 (mostI w l) ∧ Same h.length h h' := by
  have hll : l.length = n := by have := rl.1; rw [flat_length eI_len] at this; omega
  apply F_impl_mostSpecial.call
  simp only [letH_def]
  generalize hh0 : h ++ [AObj.cells t_impl_World [.slice a0 n0 c0 e0, .slice a1 n1 c1 e1] false] = h0
  have s0 : Same h.length h h0 := by rw [← hh0]; exact same_last
  have w0 : h0[h.length]? = some (wObj a0 n0 c0 e0 a1 n1 c1 e1) := by rw [← hh0]; simp [wObj]
  have l0 : h0.length = h.length + 1 := by rw [← hh0]; simp
  refine F_impl_mostSpecial.L2ind _ _ _ _ _ _ _ _ _ _ _ _ (J := fun (g : Nat) x9 h' => x9 = (g : Int) ∧ g ≤ n ∧ Same h0.length h0 h' ∧ (l.take g).find? (topOf w l) = none) (fun g => n - g) ?_ 0 _ _ ⟨rfl, by omega, Same.refl _ _, rfl⟩
  rintro g x9 h' ⟨rfl, hg, hS, hk⟩ R hR
  have SS := s0.cat hS
  unfold F_impl_mostSpecial.L2t
  refine bcase_dec (fun hlt => ?_) (fun hge => ?_)
  · obtain ⟨i, o, hgl, rfl, _, hr⟩ := (rl.same SS).i64 (k := g) (by omega)
    simp only [xSome_some, Int.toNat_natCast, hr, xInt_some, letH_def]
    rw [store1]
    generalize hq : h' ++ [AObj.cells t_int [.int .i64 l[g]] false] = hq'
    have sq : Same h'.length h' hq' := by rw [← hq]; exact same_last
    have oq : hq'[h'.length]? = some (.cells t_int [.int .i64 l[g]] false) := by rw [← hq]; simp
    have Sq := SS.cat sq
    have wq := sq.get (hS.get w0 (Own.lt w0)) (by have := Own.lt w0; have := hS.le; omega)
    simp only [xHeap_some]
    refine ⟨by omega, ?_⟩
    apply F_slices_ContainsFunc_L_int_int__impl_mostSpecial_lit1.call
    refine (index_most (r.same Sq) wq oq (rl.same' Sq) hn (hin _ (List.getElem_mem hgl)) hin).mono ?_
    rintro v h5 ⟨⟨z, rfl, hz⟩, s5⟩
    simp only [xInt_some, xBool_some, hz, Bool.not_not]
    refine bcase_intro (fun ht => ?_) (fun ht => ?_)
    · simp only [hCell_of (s5.get oq (Own.lt oq)), List.getElem?_cons_zero, xInt_some]
      refine ⟨?_, Sq.cat s5⟩
      unfold mostI
      rw [find_take hgl hk ht]
    · rw [wrap_nat (by omega)]
      exact hR (g + 1) _ _ (by omega) ⟨rfl, by omega, (hS.cat sq).cat s5, find_take_succ hgl hk ht⟩
  · apply F_impl_mostSpecial.A2x0i
    have : g = n := by omega
    subst this
    rw [List.take_of_length_le (by omega)] at hk
    exact ⟨by unfold mostI; rw [hk], SS⟩
theorem mostSpecial_ok {h : AHeap} {a0 a1 : Pt} {n0 c0 n1 c1 : Nat} {e0 e1 : Bool} {w : Wd} {nd : Nd} (r : WRep h a0 n0 c0 a1 n1 c1 w) (b : WB w) :
    SCall pg n_impl_MostSpecial [.agg [.slice a0 n0 c0 e0, .slice a1 n1 c1 e1], .agg [.str nd.1, .str nd.2]] h fun v h' => v = .int .i64 (mostW w nd) ∧ Same h.length h h' := by
  have hl1 := r.len1
  have hli := b.li
  apply F_impl_MostSpecial.call
  simp only [letH_def]
  generalize hh0 : h ++ [AObj.cells t_impl_World [.slice a0 n0 c0 e0, .slice a1 n1 c1 e1] false] = h0
  generalize hh1 : h0 ++ [AObj.cells t_impl_Need [.str nd.1, .str nd.2] false] = h1
  have s0 : Same h.length h h0 := by rw [← hh0]; exact same_last
  have s1 : Same h0.length h0 h1 := by rw [← hh1]; exact same_last
  have w0 : h0[h.length]? = some (wObj a0 n0 c0 e0 a1 n1 c1 e1) := by rw [← hh0]; simp [wObj]
  have w1 := s1.get w0 (Own.lt w0)
  have i1 : h1[h0.length]? = some (.cells t_impl_Need [.str nd.1, .str nd.2] false) := by rw [← hh1]; simp
  have S1 := s0.cat s1
  rw [wRow w1, hRow_of i1 (by simp)]
  simp only [List.drop_zero, List.take_succ_cons, List.take_zero, xRow_some, xCons_cons, xNil_nil, xSl_some, xStr_some]
  refine (iNeedValid_ok (r.same S1) b).mono ?_
  rintro v h2 ⟨rfl, s2⟩
  have i2 := s2.get i1 (Own.lt i1)
  have w2 := s2.get w1 (Own.lt w1)
  have S2 := S1.cat s2
  simp only [xBool_some]
  refine bcase_not (fun b1 => ⟨by unfold mostW candL; rw [b1]; rfl, S2⟩) (fun b1 => ?_)
  rw [wRow w2, hRow_of i2 (by simp)]
  simp only [List.drop_zero, List.take_succ_cons, List.take_zero, xRow_some, xCons_cons, xNil_nil, xSl_some, xStr_some, true_and]
  refine (candidates_ok (r.same S2) b).mono ?_
  rintro v h3 ⟨s3, a, n, c, e, rfl, f⟩
  have w3 := s3.get w2 (Own.lt w2)
  have hcl := ixs_len (candF nd) w.is
  have hfl := f.1
  simp only [xSl_some, wRow w3, true_and]
  have S3 := S2.cat s3
  refine (iMost_ok (r.same S3) (by simpa using f.row eI_len) (by unfold candW at hfl; omega) (candW_in w nd)).mono ?_
  rintro v h4 ⟨rfl, s4⟩
  simp only [xInt_some]
  refine ⟨by rw [wRow (s4.get w3 (Own.lt w3))], ?_, S3.cat s4⟩
  unfold mostW candL
  rw [if_pos b1]
theorem specW_in {w : Wd} {x y : Int} (hw : worldOk w = true) (hx : ∃ k : Nat, x = k ∧ k < w.is.length) (hy : ∃ k : Nat, y = k ∧ k < w.is.length) : specW w x y = specI (insAt w x) (insAt w y) := by
  obtain ⟨k, rfl, hk⟩ := hx
  obtain ⟨l, rfl, hl⟩ := hy
  unfold specW
  rw [hw, inIx_at hk, inIx_at hl]; rfl
theorem sMostSpecial_ok {h : AHeap} {a0 a1 : Pt} {n0 c0 n1 c1 : Nat} {e0 e1 : Bool} {w : Wd} {nd : Nd} (r : WRep h a0 n0 c0 a1 n1 c1 w) (b : WB w) (hnt : nd.2.length ≤ 1048576) :
    SCall pg n_spec_MostSpecial [.agg [.slice a0 n0 c0 e0, .slice a1 n1 c1 e1], .agg [.str nd.1, .str nd.2]] h fun v h' => v = .int .i64 (mostW w nd) ∧ Same h.length h h' := by
  have hl1 := r.len1
  have hli := b.li
  apply F_spec_MostSpecial.call
  simp only [letH_def]
  generalize hh0 : h ++ [AObj.cells t_impl_World [.slice a0 n0 c0 e0, .slice a1 n1 c1 e1] false] = h0
  generalize hh1 : h0 ++ [AObj.cells t_impl_Need [.str nd.1, .str nd.2] false] = h1
  have s0 : Same h.length h h0 := by rw [← hh0]; exact same_last
  have s1 : Same h0.length h0 h1 := by rw [← hh1]; exact same_last
  have w0 : h0[h.length]? = some (wObj a0 n0 c0 e0 a1 n1 c1 e1) := by rw [← hh0]; simp [wObj]
  have w1 := s1.get w0 (Own.lt w0)
  have i1 : h1[h0.length]? = some (.cells t_impl_Need [.str nd.1, .str nd.2] false) := by rw [← hh1]; simp
  have S1 := s0.cat s1
  rw [wRow w1, hRow_of i1 (by simp)]
  simp only [List.drop_zero, List.take_succ_cons, List.take_zero, xRow_some, xCons_cons, xNil_nil, xSl_some, xStr_some]
  refine (sCandidatesOf_ok (r.same S1) b hnt).mono ?_
  rintro v h2 ⟨s2, a, n, c, e, rfl, f⟩
  have w2 := s2.get w1 (Own.lt w1)
  have S2 := S1.cat s2
  simp only [xTup_tup, xCons_cons, xSl_some, xBool_some, xNil_nil]
  have hcl := ixs_len (candF nd) w.is
  have hnl : n ≤ 1048576 := by
    have := f.1
    unfold candL at this
    split at this
    · unfold candW at this; omega
    · simp at this; omega
  have rl : Row h2.length h2 a n (flat eI (candL w nd)) := by simpa using f.row eI_len
  have hll : (candL w nd).length = n := f.1
  have hin := candL_in w nd
  have hwv : ∀ x ∈ candL w nd, worldOk w = true := fun x hx => by
    unfold candL at hx
    split at hx
    · rename_i h; simp only [Bool.and_eq_true] at h; exact h.1
    · cases hx
  generalize hlg : candL w nd = l at *
  refine F_spec_MostSpecial.L3ind _ _ _ _ _ _ _ _ _ _ _ _ (J := fun (g : Nat) x20 h' => x20 = (g : Int) ∧ g ≤ n ∧ Same h2.length h2 h' ∧ (l.take g).find? (topOf w l) = none) (fun g => n - g) ?_ 0 _ _ ⟨rfl, by omega, Same.refl _ _, rfl⟩
  rintro g x20 h' ⟨rfl, hg, hS, hk⟩ R hR
  unfold F_spec_MostSpecial.L3t
  refine bcase_dec (fun hlt => ?_) (fun hge => ?_)
  · obtain ⟨i, o, hgl, rfl, _, hr⟩ := (rl.same hS).i64 (k := g) (by omega)
    simp only [xSome_some, Int.toNat_natCast, hr, xInt_some]
    refine ⟨by omega, ?_⟩
    refine F_spec_MostSpecial.L7ind _ _ _ _ _ _ _ _ _ _ _ _ _ _ _ _ _ _ _ _ (J := fun (q : Nat) x9 x26 h3 => x26 = (q : Int) ∧ q ≤ n ∧ Same h'.length h' h3 ∧ x9 = (l.take q).all fun k => specI (insAt w l[g]) (insAt w k)) (fun q => n - q) ?_ 0 _ _ _ ⟨rfl, by omega, Same.refl _ _, rfl⟩
    rintro q x9 x26 h3 ⟨rfl, hq, hS3, rfl⟩ R7 hR7
    unfold F_spec_MostSpecial.L7t
    have SS := hS.cat hS3
    refine bcase_dec (fun hlt3 => ?_) (fun hge3 => ?_)
    · obtain ⟨i', o', hql, he, _, hr3⟩ := (rl.same SS).i64 (k := q) (by omega)
      cases he
      simp only [xSome_some, Int.toNat_natCast, hr3, xInt_some]
      have htk : (l.take (q + 1)).all (fun k => specI (insAt w l[g]) (insAt w k)) = ((l.take q).all (fun k => specI (insAt w l[g]) (insAt w k)) && specI (insAt w l[g]) (insAt w l[q])) := by
        rw [List.take_succ_eq_append_getElem hql, List.all_append]; simp
      have go : ∀ (h4 : AHeap) (b9 : Bool), Same h3.length h3 h4 → b9 = (l.take (q + 1)).all (fun k => specI (insAt w l[g]) (insAt w k)) → F_spec_MostSpecial.J10 (fun v h' => v = AVal.int .i64 (mostW w nd) ∧ Same h.length h h') R R7 (q : Int) (((n : Nat) : Int)) (some (i, o)) n c e b9 h.length 0 l[g] (g : Int) (((n : Nat) : Int)) (some (i, o)) n c e (some (i, o)) n c e h4 := by
        intro h4 b9 s4 hb9
        apply F_spec_MostSpecial.J10i
        rw [wrap_nat (by omega)]
        exact hR7 (q + 1) _ _ _ (by omega) ⟨rfl, by omega, hS3.cat s4, hb9⟩
      refine ⟨by omega, bcase_intro (fun hx => ?_) (fun hx => go _ _ (Same.refl _ _) (by rw [htk, hx]; rfl))⟩
      have w3 := SS.get w2 (Own.lt w2)
      rw [wRow w3]
      simp only [xRow_some, xCons_cons, xNil_nil, xSl_some]
      refine (sIsSpecial_ok (r.same (S2.cat SS)) b).mono ?_
      rintro v h4 ⟨rfl, s4⟩
      simp only [xBool_some]
      refine go _ _ s4 ?_
      rw [htk, hx, specW_in (hwv _ (List.getElem_mem hgl)) (hin _ (List.getElem_mem hgl)) (hin _ (List.getElem_mem hql))]; rfl
    · apply F_spec_MostSpecial.A7x2i
      have : q = n := by omega
      subst this
      rw [List.take_of_length_le (by omega)]
      refine bcase_intro (fun ht => ?_) (fun ht => ?_)
      · refine ⟨?_, S2.cat SS⟩
        unfold mostW mostI
        rw [hlg, find_take hgl hk ht]
      · rw [wrap_nat (by omega)]
        exact hR (g + 1) _ _ (by omega) ⟨rfl, by omega, SS, find_take_succ hgl hk ht⟩
  · apply F_spec_MostSpecial.A3x0i
    have : g = n := by omega
    subst this
    rw [List.take_of_length_le (by omega)] at hk
    exact ⟨by unfold mostW mostI; rw [hlg, hk], S2.cat hS⟩
end Go.Sim

set_option linter.unusedVariables false
set_option linter.unusedSimpArgs false
set_option maxRecDepth 20000
namespace Go.Sim
open Go Go.RowKit

theorem lawMostSpecial {h : AHeap} {a0 a1 : Pt} {n0 c0 n1 c1 : Nat} {e0 e1 : Bool} {w : Wd} {nd0 : Nd} (r : WRep h a0 n0 c0 a1 n1 c1 w) (hb : WBig w) (hb0 : PBig nd0) :
    SCall pg n_laws_FnExactMostSpecial [.agg [.slice a0 n0 c0 e0, .slice a1 n1 c1 e1], .agg [.str nd0.1, .str nd0.2]] h fun v _ => v = .bool true := by
  apply F_laws_FnExactMostSpecial.call
  simp only [letH_def]
  generalize hg0 : h ++ [AObj.cells t_laws_World [.slice a0 n0 c0 e0, .slice a1 n1 c1 e1] false] = g0
  have sg0 : Same h.length h g0 := by rw [← hg0]; exact same_last
  have xw0 : g0[h.length]? = some (.cells t_laws_World [.slice a0 n0 c0 e0, .slice a1 n1 c1 e1] false) := by rw [← hg0]; simp
  generalize hg1 : g0 ++ [AObj.cells t_laws_Need [.str nd0.1, .str nd0.2] false] = g1
  have sg1 : Same g0.length g0 g1 := by rw [← hg1]; exact same_last
  have xw_g1 := sg1.get xw0 (Own.lt xw0)
  have S_g1 := sg0.cat sg1
  have xn0_g1 : g1[g0.length]? = some (.cells t_laws_Need [.str nd0.1, .str nd0.2] false) := by rw [← hg1]; simp
  simp only [row_all2 xw_g1, row_all2 xn0_g1, xRow_some, xCons_cons, xNil_nil, xSl_some, xStr_some, xAgg_agg, xInt_some, xBool_some, xTup_tup, xHeap_some, true_and]
  refine (szWorld_ok (r.same S_g1) hb (x := 1048576) (by omega)).mono ?_
  rintro v k11 ⟨y, rfl, sk11, hy⟩
  have xw_k11 := sk11.get xw_g1 (Own.lt xw_g1)
  have xn0_k11 := sk11.get xn0_g1 (Own.lt xn0_g1)
  have S_k11 := S_g1.cat sk11
  simp only [xInt_some]
  refine bcase_dec (fun _ => by trivial) (fun hge => ?_)
  have hyy := hy (by omega)
  have b : WB w := .of hb (by omega)
  have hbl0 := hb0.1
  have hbm0 := hb0.2.1
  unfold NBig at hbl0 hbm0
  simp only [row_all2 xw_k11, row_all2 xn0_k11, row_all2 xw_g1, row_all2 xn0_g1, xRow_some, xCons_cons, xNil_nil, xSl_some, xStr_some, xAgg_agg, xInt_some, xBool_some, xTup_tup, xHeap_some, true_and]
  refine (szNeed_ok hbl0 hbm0 (x := y) (by omega)).mono ?_
  rintro v k12 ⟨z0, rfl, sk12, hz0⟩
  have xw_k12 := sk12.get xw_k11 (Own.lt xw_k11)
  have xn0_k12 := sk12.get xn0_k11 (Own.lt xn0_k11)
  have S_k12 := S_k11.cat sk12
  simp only [xInt_some]
  refine bcase_dec (fun _ => by trivial) (fun hge0 => ?_)
  have hzz0 := hz0 (by omega)
  have hnt0 : nd0.2.length ≤ 1048576 := by omega
  have hnc0 : nd0.1.length ≤ 1048576 := by omega
  simp only [row_all2 xw_k12, row_all2 xn0_k12, row_all2 xw_k11, row_all2 xn0_k11, xRow_some, xCons_cons, xNil_nil, xSl_some, xStr_some, xAgg_agg, xInt_some, xBool_some, xTup_tup, xHeap_some, true_and]
  refine (toWorld_ok (r.same S_k12) b).mono ?_
  rintro v k13 ⟨b0, d0, f0, b1, d1, f1, ys, rfl, hd0, hd1, sk13, W3⟩
  have xw_k13 := sk13.get xw_k12 (Own.lt xw_k12)
  have xn0_k13 := sk13.get xn0_k12 (Own.lt xn0_k12)
  have S_k13 := S_k12.cat sk13
  simp only [row_all2 xw_k13, row_all2 xn0_k13, row_all2 xw_k12, row_all2 xn0_k12, xRow_some, xCons_cons, xNil_nil, xSl_some, xStr_some, xAgg_agg, xInt_some, xBool_some, xTup_tup, xHeap_some, true_and]
  refine (toNeed_ok (c := nd0.1) (t := nd0.2)).mono ?_
  rintro v k14 ⟨rfl, sk14⟩
  have xw_k14 := sk14.get xw_k13 (Own.lt xw_k13)
  have xn0_k14 := sk14.get xn0_k13 (Own.lt xn0_k13)
  have S_k14 := S_k13.cat sk14
  simp only [row_all2 xw_k14, row_all2 xn0_k14, row_all2 xw_k13, row_all2 xn0_k13, xRow_some, xCons_cons, xNil_nil, xSl_some, xStr_some, xAgg_agg, xInt_some, xBool_some, xTup_tup, xHeap_some, true_and]
  refine (sMostSpecial_ok ((W3.rep hd0 hd1).same sk14) b hnt0).mono ?_
  rintro v k15 ⟨rfl, sk15⟩
  have xw_k15 := sk15.get xw_k14 (Own.lt xw_k14)
  have xn0_k15 := sk15.get xn0_k14 (Own.lt xn0_k14)
  have S_k15 := S_k14.cat sk15
  simp only [row_all2 xw_k15, row_all2 xn0_k15, row_all2 xw_k14, row_all2 xn0_k14, xRow_some, xCons_cons, xNil_nil, xSl_some, xStr_some, xAgg_agg, xInt_some, xBool_some, xTup_tup, xHeap_some, true_and]
  refine (toWorld_ok (r.same S_k15) b).mono ?_
  rintro v k16 ⟨p0, q0, g0', p1, q1, g1', zs, rfl, hq0, hq1, sk16, W6⟩
  have xw_k16 := sk16.get xw_k15 (Own.lt xw_k15)
  have xn0_k16 := sk16.get xn0_k15 (Own.lt xn0_k15)
  have S_k16 := S_k15.cat sk16
  simp only [row_all2 xw_k16, row_all2 xn0_k16, row_all2 xw_k15, row_all2 xn0_k15, xRow_some, xCons_cons, xNil_nil, xSl_some, xStr_some, xAgg_agg, xInt_some, xBool_some, xTup_tup, xHeap_some, true_and]
  rw [store2]
  generalize hg2 : k16 ++ [AObj.cells t_impl_World [.slice p0 n0 q0 g0', .slice p1 n1 q1 g1'] false] = g2
  have sg2 : Same k16.length k16 g2 := by rw [← hg2]; exact same_last
  have xw_g2 := sg2.get xw_k16 (Own.lt xw_k16)
  have xn0_g2 := sg2.get xn0_k16 (Own.lt xn0_k16)
  have S_g2 := S_k16.cat sg2
  have xi_g2 : g2[k16.length]? = some (.cells t_impl_World [.slice p0 n0 q0 g0', .slice p1 n1 q1 g1'] false) := by rw [← hg2]; simp
  simp only [row_all2 xw_g2, row_all2 xn0_g2, row_all2 xi_g2, row_all2 xw_k15, row_all2 xn0_k15, xRow_some, xCons_cons, xNil_nil, xSl_some, xStr_some, xAgg_agg, xInt_some, xBool_some, xTup_tup, xHeap_some, true_and]
  have W7 := W6.same sg2
  refine (toNeed_ok (c := nd0.1) (t := nd0.2)).mono ?_
  rintro v k17 ⟨rfl, sk17⟩
  have xw_k17 := sk17.get xw_g2 (Own.lt xw_g2)
  have xn0_k17 := sk17.get xn0_g2 (Own.lt xn0_g2)
  have xi_k17 := sk17.get xi_g2 (Own.lt xi_g2)
  have S_k17 := S_g2.cat sk17
  simp only [row_all2 xw_k17, row_all2 xn0_k17, row_all2 xi_k17, row_all2 xw_g2, row_all2 xn0_g2, row_all2 xi_g2, xRow_some, xCons_cons, xNil_nil, xSl_some, xStr_some, xAgg_agg, xInt_some, xBool_some, xTup_tup, xHeap_some, true_and]
  refine (mostSpecial_ok ((W7.rep hq0 hq1).same sk17) b).mono ?_
  rintro v k18 ⟨rfl, sk18⟩
  have xw_k18 := sk18.get xw_k17 (Own.lt xw_k17)
  have xn0_k18 := sk18.get xn0_k17 (Own.lt xn0_k17)
  have xi_k18 := sk18.get xi_k17 (Own.lt xi_k17)
  have S_k18 := S_k17.cat sk18
  simp only [xTup_tup, xCons_cons, xNil_nil, xSl_some, xStr_some, xInt_some, xBool_some, beq_self_eq_true, eq_self, decide_true, Bool.not_true, bcase_false]
  simp only [row_all2 xw_k18, row_all2 xn0_k18, row_all2 xi_k18, row_all2 xw_k17, row_all2 xn0_k17, row_all2 xi_k17, xRow_some, xCons_cons, xNil_nil, xSl_some, xStr_some, xAgg_agg, xInt_some, xBool_some, xTup_tup, xHeap_some, true_and]
  refine (toWorld_ok (r.same S_k18) b).mono ?_
  rintro v k19 ⟨u0, v0, j0, u1, v1, j1, ts, rfl, hv0, hv1, sk19, W10⟩
  have xw_k19 := sk19.get xw_k18 (Own.lt xw_k18)
  have xn0_k19 := sk19.get xn0_k18 (Own.lt xn0_k18)
  have xi_k19 := sk19.get xi_k18 (Own.lt xi_k18)
  have S_k19 := S_k18.cat sk19
  simp only [row_all2 xw_k19, row_all2 xn0_k19, row_all2 xi_k19, row_all2 xw_k18, row_all2 xn0_k18, row_all2 xi_k18, xRow_some, xCons_cons, xNil_nil, xSl_some, xStr_some, xAgg_agg, xInt_some, xBool_some, xTup_tup, xHeap_some, true_and]
  refine (eqWorld_ok ((((W7.rep hq0 hq1).same sk17).same sk18).same sk19) (W10.rep hv0 hv1) b).mono ?_
  rintro v k20 ⟨rfl, sk20⟩
  have xw_k20 := sk20.get xw_k19 (Own.lt xw_k19)
  have xn0_k20 := sk20.get xn0_k19 (Own.lt xn0_k19)
  have xi_k20 := sk20.get xi_k19 (Own.lt xi_k19)
  have S_k20 := S_k19.cat sk20
  simp only [xBool_some, Bool.not_true, bcase_false]
end Go.Sim

set_option linter.unusedVariables false
namespace Go.Sim
open Go Go.RowKit
/-- A text that came in. -/
theorem rd_strB {P : Program} {h : AHeap} {f : Nat} {t : TypeId} {cs : List AVal} {d : Dt} (ht : P.underlying t = some .string) (hr : rd P h (f + 1) t cs d) : ∃ s, cs = [.str s] ∧ NBig s.length := by
  simp only [rd, ht] at hr
  obtain ⟨s, rfl, _, h1, hb⟩ := hr
  exact ⟨s, rfl, h1⟩
end Go.Sim
