/- A part of the proof of a statement of this seat: see the text that holds the theorem. No condition. -/
import Derived.Test.YtpbfjfcildpehaaGreatDoorPTCSApply
import Derived.Test.YtpbfjfcildpehaaGreatDoorCSFind
import Derived.Test.YtpbfjfcildpehaaGreatDoorPTCMarkW
import Derived.Test.YtpbfjfcildpehaaGreatDoorPAsk
import Derived.Test.YtpbfjfcildpehaaGreatDoorNm
import Derived.Test.YtpbfjfcildpehaaGreatDoorPSearch
set_option linter.unusedVariables false
set_option linter.unusedSimpArgs false
set_option linter.all false
set_option linter.unusedVariables false
set_option linter.unusedSimpArgs false
set_option maxRecDepth 20000
namespace Go.Sim
open Go Go.RowKit

theorem find_step {hb : AHeap} {a0 a1 : Pt} {n0 c0 n1 c1 : Nat} {e0 e1 : Bool} {w : Wd} (r : WRep hb a0 n0 c0 a1 n1 c1 w) (b : WB w) (hw : worldOk w = true) (sp : Bool) (f : Nat)
    (ih : ∀ f', f = f' + 1 → FindC f' hb a0 a1 n0 c0 n1 c1 e0 e1 w sp) : FindC f hb a0 a1 n0 c0 n1 c1 e0 e1 w sp := by
  intro h i qa asked st n d rd hal hnd hf hd
  apply findCont_call
  simp only [letH_def]
  generalize hh0 : h ++ [AObj.cells t_impl_Need [.str n.1, .str n.2] false] = h0
  have s0 : Same h.length h h0 := by rw [← hh0]; exact same_last
  have p1 : h0[h.length]? = some (.cells t_impl_Need [.str n.1, .str n.2] false) := by rw [← hh0]; simp
  have l0 : h0.length = h.length + 1 := by rw [← hh0]; simp
  have rd0 := rd.step s0
  have hil := rd.lt
  have hlow := rd.low
  obtain ⟨qn, qc, qe, sa, sn, sc, se, ho, hv, hr, hsc, hdj⟩ := rd0.ob
  have hsn : st.length = sn := by have := hr.1; rw [flat_length eP_len] at this; omega
  simp only [xSome_some, hCell_of ho, Nat.zero_add, List.getElem?_cons_succ, List.getElem?_cons_zero, xSl_some]
  refine slice_to' hr (k := d) (by omega) hsc rfl fun a' c' e' hr' hc' _ => ?_
  have htl : (st.take d).length = d := by rw [List.length_take]; omega
  generalize st.take d = tk at hr' htl
  have fin : ∀ (hX : AHeap) (qs cs : Nat) (es : Bool), Same h0.length h0 hX → hX[qs]? = some (.cells t_impl_Need (flat eP tk ++ [.str n.1, .str n.2]) false) → h0.length ≤ qs → d + 1 ≤ cs →
      findCont (SchQ hb i (.slice a0 n0 c0 e0) (.slice a1 n1 c1 e1) sp d h qa (askP (wk w) sp decX f asked n)) (some (i, 0)) (d : Int) h.length hX (some (qs, 0)) (d + 1) cs es := by
    intro hX qs cs es sX hqs hle hcs
    have hrow : Row hX.length hX (some (qs, 0)) ((d + 1) * 2) (flat eP (tk ++ [n])) :=
      ⟨by rw [flat_length eP_len]; simp [htl], .inr ⟨_, _, _, _, _, rfl, Own.lt hqs, hqs, by simp [flat_length eP_len, htl]; omega, by
        rw [List.drop_zero, List.take_of_length_le (by simp [flat_length eP_len, htl]; omega)]; simp [flat, eP]⟩⟩
    exact find_cont r b hw sp f ih (rd0.step sX) (FrS.of_same (s0.cat sX)) hal hnd hf (by simp [htl]) (by simp) hrow (by omega) (fun q hq => by have := (hlow q hq).2; omega) hcs
      (sX.get p1 (Own.lt p1)) (by omega) (fun q hq => by have := (hlow q hq).2; omega)
  have hnn : (flat eP [n]).all AVal.leaf = true := flat_leaf (enc := eP) (fun _ => rfl) _
  simp only [xSl_some, row_all2 p1, xRow_some, xCons_cons, xNil_nil, xStr_some]
  refine ⟨⟨?_, ?_, ?_, ?_⟩, ?_⟩
  · rw [row_all2 (same_last.get p1 (Own.lt p1))]
  · rw [hCell_of (same_last.get ho (Own.lt ho))]; rfl
  · generalize hh1 : h0 ++ [AObj.cells t_impl_Need [] false] = h1
    have s1 : Same h0.length h0 h1 := by rw [← hh1]; exact same_last
    have o1 : h1[h0.length]? = some (.cells t_impl_Need [] false) := by rw [← hh1]; simp
    have l1 : h1.length = h0.length + 1 := by rw [← hh1]; simp
    refine Vec.app0 (n := 0) o1 u_L_Need c_Need k_Need b_Need (by simp) (hr'.same' s1).rowOf (flat_leaf (enc := eP) (fun _ => rfl) _) (by omega) (fun h2 hl2 hi2 hk2 => ?_)
    have S2 : Same h0.length h0 h2 := ⟨by omega, fun j hj => by rw [hk2 j (by omega) (by omega)]; exact s1.eq j hj⟩
    have q2 := S2.get p1 (Own.lt p1)
    have z2 := S2.get ho (Own.lt ho)
    have s3 : Same h2.length h2 (h2 ++ [AObj.cells t_impl_Need [.str n.1, .str n.2] false]) := same_last
    have q3 := s3.get q2 (Own.lt q2)
    have z3 := s3.get z2 (Own.lt z2)
    simp only [xSl_some, Nat.zero_add]
    refine ⟨by rw [row_all2 q2, row_all2 (s1.get p1 (Own.lt p1))], by rw [hCell_of z2, hCell_of (s1.get ho (Own.lt ho))], by rw [hCell_of z3, hCell_of z2], ?_⟩
    have hV : Vec t_impl_Need h2 (some (h1.length, 0)) d d (flat eP tk) := Vec.mk1 (by simpa using hi2)
    refine hV.pushN u_L_Need c_Need k_Need b_Need (by rw [flat_length eP_len, htl]) rfl (by omega) rfl (by omega) (fun h6 hl6 hi6 hk6 => ?_)
    have S6 : Same h0.length h0 h6 := ⟨by omega, fun j hj => by rw [hk6 j (by omega) fun q hq => by cases hq; omega]; exact S2.eq j hj⟩
    simp only [xSl_some]
    refine ⟨by rw [row_all2 (S6.get p1 (Own.lt p1)), row_all2 q3], by rw [hCell_of (S6.get ho (Own.lt ho)), hCell_of z3], ?_⟩
    exact fin h6 _ _ _ S6 hi6 (by omega) (by omega)
  · generalize hh1 : h0 ++ [AObj.cells t_impl_Need [] false] = h1
    have s1 : Same h0.length h0 h1 := by rw [← hh1]; exact same_last
    have o1 : h1[h0.length]? = some (.cells t_impl_Need [] false) := by rw [← hh1]; simp
    have l1 : h1.length = h0.length + 1 := by rw [← hh1]; simp
    generalize hh2 : h1 ++ [AObj.cells t_impl_Need [.str n.1, .str n.2] false] = h2
    have s2 : Same h1.length h1 h2 := by rw [← hh2]; exact same_last
    have b2 : h2[h1.length]? = some (.cells t_impl_Need [.str n.1, .str n.2] false) := by rw [← hh2]; simp
    have l2 : h2.length = h1.length + 1 := by rw [← hh2]; simp
    have S2 := s1.cat s2
    have o2 := s2.get o1 (Own.lt o1)
    have q2 := S2.get p1 (Own.lt p1)
    have z2 := S2.get ho (Own.lt ho)
    refine ⟨by rw [hCell_of z2, hCell_of (s1.get ho (Own.lt ho))], ?_⟩
    refine Vec.app0 (n := 0) o2 u_L_Need c_Need k_Need b_Need (by simp) (hr'.same' S2).rowOf (flat_leaf (enc := eP) (fun _ => rfl) _) (by omega) (fun h3 hl3 hi3 hk3 => ?_)
    have S3 : Same h0.length h0 h3 := ⟨by omega, fun j hj => by rw [hk3 j (by omega) (by omega)]; exact S2.eq j hj⟩
    have q3 := S3.get p1 (Own.lt p1)
    have z3 := S3.get ho (Own.lt ho)
    have b3 : h3[h1.length]? = some (.cells t_impl_Need [.str n.1, .str n.2] false) := by rw [hk3 _ (Own.lt b2) (by omega)]; exact b2
    simp only [xSl_some, Nat.zero_add]
    refine ⟨by rw [row_all2 q3, row_all2 q2], by rw [hCell_of z3, hCell_of z2], ?_⟩
    have hr3 : Row h3.length h3 (some (h1.length, 0)) (1 * 2) (flat eP [n]) := ⟨rfl, .inr ⟨h1.length, 0, _, _, _, rfl, Own.lt b3, b3, by simp, by simp [eP]⟩⟩
    have hi3 : h3[h2.length]? = some (.cells t_impl_Need (flat eP tk) false) := by simpa using hi3
    refine Vec.app0 (n := d) hi3 u_L_Need c_Need k_Need b_Need (by rw [flat_length eP_len, htl]) hr3.rowOf hnn (by omega) (fun h6 hl6 hi6 hk6 => ?_)
    have S6 : Same h0.length h0 h6 := ⟨by omega, fun j hj => by rw [hk6 j (by omega) (by omega)]; exact S3.eq j hj⟩
    simp only [xSl_some]
    refine ⟨by rw [row_all2 (S6.get p1 (Own.lt p1)), row_all2 q3], by rw [hCell_of (S6.get ho (Own.lt ho)), hCell_of z3], ?_⟩
    exact fin h6 _ _ _ S6 hi6 (by omega) (by omega)
  · generalize hh1 : h0 ++ [AObj.cells t_impl_Need [.str n.1, .str n.2] false] = h1
    have s1 : Same h0.length h0 h1 := by rw [← hh1]; exact same_last
    have b1 : h1[h0.length]? = some (.cells t_impl_Need [.str n.1, .str n.2] false) := by rw [← hh1]; simp
    have l1 : h1.length = h0.length + 1 := by rw [← hh1]; simp
    generalize hh2 : h1 ++ [AObj.cells t_impl_Need [] false] = h2
    have s2 : Same h1.length h1 h2 := by rw [← hh2]; exact same_last
    have o2 : h2[h1.length]? = some (.cells t_impl_Need [] false) := by rw [← hh2]; simp
    have l2 : h2.length = h1.length + 1 := by rw [← hh2]; simp
    have S2 := s1.cat s2
    have b2 := s2.get b1 (Own.lt b1)
    have q1 := s1.get p1 (Own.lt p1)
    have z1 := s1.get ho (Own.lt ho)
    have q2 := S2.get p1 (Own.lt p1)
    have z2 := S2.get ho (Own.lt ho)
    refine ⟨by rw [hCell_of z1]; rfl, by rw [row_all2 q2, row_all2 q1], by rw [hCell_of z2, hCell_of z1], ?_⟩
    refine Vec.app0 (n := 0) o2 u_L_Need c_Need k_Need b_Need (by simp) (hr'.same' S2).rowOf (flat_leaf (enc := eP) (fun _ => rfl) _) (by omega) (fun h3 hl3 hi3 hk3 => ?_)
    have S3 : Same h0.length h0 h3 := ⟨by omega, fun j hj => by rw [hk3 j (by omega) (by omega)]; exact S2.eq j hj⟩
    have q3 := S3.get p1 (Own.lt p1)
    have z3 := S3.get ho (Own.lt ho)
    have b3 : h3[h0.length]? = some (.cells t_impl_Need [.str n.1, .str n.2] false) := by rw [hk3 _ (Own.lt b2) (by omega)]; exact b2
    simp only [xSl_some, Nat.zero_add]
    refine ⟨by rw [row_all2 q3, row_all2 q2], by rw [hCell_of z3, hCell_of z2], ?_⟩
    have hr3 : Row h3.length h3 (some (h0.length, 0)) (1 * 2) (flat eP [n]) := ⟨rfl, .inr ⟨h0.length, 0, _, _, _, rfl, Own.lt b3, b3, by simp, by simp [eP]⟩⟩
    have hi3 : h3[h2.length]? = some (.cells t_impl_Need (flat eP tk) false) := by simpa using hi3
    refine Vec.app0 (n := d) hi3 u_L_Need c_Need k_Need b_Need (by rw [flat_length eP_len, htl]) hr3.rowOf hnn (by omega) (fun h6 hl6 hi6 hk6 => ?_)
    have S6 : Same h0.length h0 h6 := ⟨by omega, fun j hj => by rw [hk6 j (by omega) (by omega)]; exact S3.eq j hj⟩
    simp only [xSl_some]
    refine ⟨by rw [row_all2 (S6.get p1 (Own.lt p1)), row_all2 q3], by rw [hCell_of (S6.get ho (Own.lt ho)), hCell_of z3], ?_⟩
    exact fin h6 _ _ _ S6 hi6 (by omega) (by omega)
theorem find_ok' {hb : AHeap} {a0 a1 : Pt} {n0 c0 n1 c1 : Nat} {e0 e1 : Bool} {w : Wd} (r : WRep hb a0 n0 c0 a1 n1 c1 w) (b : WB w) (hw : worldOk w = true) (sp : Bool) : ∀ f, FindC f hb a0 a1 n0 c0 n1 c1 e0 e1 w sp
  | 0 => find_step r b hw sp 0 fun f' h => by omega
  | f + 1 => find_step r b hw sp (f + 1) fun f' h => by cases h; exact find_ok' r b hw sp f
theorem l5Found_ok {h : AHeap} {a0 a1 : Pt} {n0 c0 n1 c1 : Nat} {e0 e1 : Bool} {w : Wd} {nd : Nd} {sp : Bool} (r : WRep h a0 n0 c0 a1 n1 c1 w) (b : WB w) (hnt : nd.2.length ≤ 1048576) :
    SCall pg n_spec_l5Found [.agg [.slice a0 n0 c0 e0, .slice a1 n1 c1 e1], .agg [.str nd.1, .str nd.2], .bool sp] h fun x h' => ∃ i x3 sa sn sc se st, x = .tup [.ptr (some (i, 0)), .str (fTxt (found w nd sp)), .bool (worldOk w && needOkW w nd)] ∧ Same h.length h h' ∧
      h'[i]? = some (.cells t_spec_l5Search [.slice a0 n0 c0 e0, .slice a1 n1 c1 e1, .bool sp, x3, .slice sa sn sc se, .str (fWhy (found w nd sp))] false) ∧ h.length ≤ i ∧ ((worldOk w && needOkW w nd) = true → Row h'.length h' sa (sn * 2) (flat eP st) ∧ sn ≤ 32 ∧ ∀ y m, found w nd sp = .no y m → y ≠ [] ∧ st.getLast? = some m) := by
  apply F_spec_l5Found.call
  simp only [letH_def]
  generalize hh0 : h ++ [AObj.cells t_impl_World [.slice a0 n0 c0 e0, .slice a1 n1 c1 e1] false] = h0
  generalize hh1 : h0 ++ [AObj.cells t_impl_Need [.str nd.1, .str nd.2] false] = h1
  have s0 : Same h.length h h0 := by rw [← hh0]; exact same_last
  have s1 : Same h0.length h0 h1 := by rw [← hh1]; exact same_last
  have w0 : h0[h.length]? = some (wObj a0 n0 c0 e0 a1 n1 c1 e1) := by rw [← hh0]; simp [wObj]
  have w1 := s1.get w0 (Own.lt w0)
  have p1 : h1[h0.length]? = some (.cells t_impl_Need [.str nd.1, .str nd.2] false) := by rw [← hh1]; simp
  have l1 : h1.length = h0.length + 1 := by rw [← hh1]; simp
  have l0 : h0.length = h.length + 1 := by rw [← hh0]; simp
  rw [wRow w1]
  simp only [xRow_some, xCons_cons, xNil_nil, xSl_some]
  generalize hh2 : h1 ++ [AObj.cells t_impl_Need [] false] = h2
  have s2 : Same h1.length h1 h2 := by rw [← hh2]; exact same_last
  have o2 : h2[h1.length]? = some (.cells t_impl_Need [] false) := by rw [← hh2]; simp
  have l2 : h2.length = h1.length + 1 := by rw [← hh2]; simp
  generalize hh3 : h2 ++ [AObj.cells t_impl_Need [] false] = h3
  have s3 : Same h2.length h2 h3 := by rw [← hh3]; exact same_last
  have o3 : h3[h2.length]? = some (.cells t_impl_Need [] false) := by rw [← hh3]; simp
  have l3 : h3.length = h2.length + 1 := by rw [← hh3]; simp
  generalize hh4 : h3 ++ [AObj.cells t_spec_l5Search [.slice a0 n0 c0 e0, .slice a1 n1 c1 e1, .bool sp, .slice (some (h1.length, 0)) 0 0 true, .slice (some (h2.length, 0)) 0 0 true, .str []] false] = h4
  have s4 : Same h3.length h3 h4 := by rw [← hh4]; exact same_last
  have z4 : h4[h3.length]? = some (.cells t_spec_l5Search [.slice a0 n0 c0 e0, .slice a1 n1 c1 e1, .bool sp, .slice (some (h1.length, 0)) 0 0 true, .slice (some (h2.length, 0)) 0 0 true, .str []] false) := by rw [← hh4]; simp
  have S14 := (s2.cat s3).cat s4
  have S4 := (s0.cat s1).cat S14
  have w4 := S14.get w1 (Own.lt w1)
  have p4 := S14.get p1 (Own.lt p1)
  have e4 := (s3.cat s4).get o2 (Own.lt o2)
  rw [wRow w4, row_all2 p4]
  simp only [xRow_some, xCons_cons, xNil_nil, xSl_some, xStr_some]
  refine (needValid_ok (ct := nd.1) (tt := nd.2) (r.same S4) b hnt).mono ?_
  rintro v h5 ⟨rfl, s5⟩
  have S5 := S4.cat s5
  have p5 := s5.get p4 (Own.lt p4)
  have e5 := s5.get e4 (Own.lt e4)
  have z5 := s5.get z4 (Own.lt z4)
  have le5 := S5.le
  have rd : SchS h h3.length (.slice a0 n0 c0 e0) (.slice a1 n1 c1 e1) sp h5 (some (h1.length, 0)) [] [] [] :=
    ⟨S5, by omega, ⟨0, 0, true, some (h2.length, 0), 0, 0, true, z5, ⟨Vec.mk1 e5, rfl, fun q hq => by cases hq; omega⟩, by simpa using Row.nil, by omega, fun j o hn => absurd rfl hn⟩, fun q hq => by cases hq; omega⟩
  simp only [xBool_some]
  refine bcase_not (fun hc => ?_) (fun hc => ?_)
  · have hf : found w nd sp = .no wrongT ([], []) := by unfold found; rw [hc]; rfl
    refine rd.reason _ fun h6 rd6 F6 => ?_
    obtain ⟨qn, qc, qe, sa, sn, sc, se, ho, _⟩ := rd6.ob
    rw [hc, hf]
    exact ⟨h3.length, _, sa, sn, sc, se, [], rfl, rd6.same, ho, by omega, fun hc => by cases hc⟩
  rw [row_all2 p5]
  simp only [xRow_some, xCons_cons, xNil_nil, xStr_some]
  have hc' := hc
  simp only [Bool.and_eq_true] at hc'
  refine (find_ok' r b hc'.1 sp 31 (n := nd) (d := 0) rd (by simp) hc'.2 (by omega) (by simp)).mono ?_
  rintro v h6 ⟨rfl, qa, st, rd6, F6, hst, _, hno⟩
  have hf : found w nd sp = (askP (wk w) sp decX 31 [] nd).1 := by unfold found; rw [hc]; rfl
  obtain ⟨qn, qc, qe, sa, sn, sc, se, ho, _, hr, _⟩ := rd6.ob
  have hsl : st.length = sn := by have := hr.1; rw [flat_length eP_len] at this; omega
  simp only [xStr_some]
  rw [hc, hf]
  exact ⟨h3.length, _, sa, sn, sc, se, st, rfl, rd6.same, ho, by omega, fun _ => ⟨hr, by omega, hno⟩⟩
theorem sSpecialDict_ok {h : AHeap} {a0 a1 : Pt} {n0 c0 n1 c1 : Nat} {e0 e1 : Bool} {w : Wd} {nd : Nd} (r : WRep h a0 n0 c0 a1 n1 c1 w) (b : WB w) (hnt : nd.2.length ≤ 1048576) :
    SCall pg n_spec_SpecialDict [.agg [.slice a0 n0 c0 e0, .slice a1 n1 c1 e1], .agg [.str nd.1, .str nd.2]] h (FoundQ w nd true h) := by
  apply F_spec_SpecialDict.call
  simp only [letH_def]
  generalize hh0 : h ++ [AObj.cells t_impl_World [.slice a0 n0 c0 e0, .slice a1 n1 c1 e1] false] = h0
  generalize hh1 : h0 ++ [AObj.cells t_impl_Need [.str nd.1, .str nd.2] false] = h1
  have s0 : Same h.length h h0 := by rw [← hh0]; exact same_last
  have s1 : Same h0.length h0 h1 := by rw [← hh1]; exact same_last
  have w0 : h0[h.length]? = some (wObj a0 n0 c0 e0 a1 n1 c1 e1) := by rw [← hh0]; simp [wObj]
  have w1 := s1.get w0 (Own.lt w0)
  have p1 : h1[h0.length]? = some (.cells t_impl_Need [.str nd.1, .str nd.2] false) := by rw [← hh1]; simp
  rw [wRow w1, row_all2 p1]
  simp only [xRow_some, xCons_cons, xNil_nil, xSl_some, xStr_some]
  refine (l5Found_ok (r.same (s0.cat s1)) b hnt).mono ?_
  rintro v h2 ⟨i, x3, sa, sn, sc, se, st, rfl, s2, ho, _⟩
  simp only [xTup_tup, xCons_cons, xPtr_some, xStr_some, xNil_nil, xBool_some, xSome_some, hCell_of ho, Nat.zero_add, List.getElem?_cons_succ, List.getElem?_cons_zero]
  exact ⟨rfl, (s0.cat s1).cat s2⟩
end Go.Sim

set_option linter.unusedVariables false
set_option linter.unusedSimpArgs false
set_option maxRecDepth 20000
namespace Go.Sim
open Go Go.RowKit

end Go.Sim

set_option linter.unusedVariables false
set_option linter.unusedSimpArgs false
set_option maxRecDepth 20000
namespace Go.Sim
open Go Go.RowKit
theorem FreshR.off {α : Type} {ty : TypeId} {enc : α → List AVal} {b : Nat} {h h' : AHeap} {a : Pt} {n : Nat} {l : List α} (f : FreshR ty enc b h a n l) (hk : ∀ i, a = some (i, 0) → n ≠ 0 → i < h.length → h'[i]? = h[i]?) : FreshR ty enc b h' a n l := by
  obtain ⟨hl, h0 | ⟨i, ha, hb, hi⟩⟩ := f
  · exact ⟨hl, .inl h0⟩
  · by_cases hn : n = 0
    · exact ⟨hl, .inl hn⟩
    · exact ⟨hl, .inr ⟨i, ha, hb, by rw [hk i ha hn (Own.lt hi)]; exact hi⟩⟩
/-- All of a world's own rows lie below H. -/
structure WBel (H : Nat) (a0 : Pt) (n0 : Nat) (a1 : Pt) (n1 : Nat) (ys : List EI) : Prop where
  cls : ∀ i, a0 = some (i, 0) → n0 ≠ 0 → i < H
  ins : ∀ i, a1 = some (i, 0) → n1 ≠ 0 → i < H
  need : ∀ (q : Nat) (x : EI), ys[q]? = some x → ∀ j, x.a = some (j, 0) → x.n ≠ 0 → j < H
theorem WFresh.bel {b : Nat} {h : AHeap} {a0 a1 : Pt} {n0 n1 : Nat} {ys : List EI} {w : Wd} (f : WFresh b h a0 n0 a1 n1 ys w) : WBel h.length a0 n0 a1 n1 ys :=
  ⟨fun i hi hn => (f.cls.in i hi hn).2, fun i hi hn => (f.ins.in i hi hn).2, fun q x hx j hj hn => by
    have hq := (List.getElem?_eq_some_iff.1 hx).1
    exact ((f.need q x (w.is[q]'(by have := f.len; omega)) hx (List.getElem?_eq_getElem _)).2.2.in j hj hn).2⟩
end Go.Sim

set_option linter.unusedVariables false
namespace Go.Sim
open Go Go.RowKit
end Go.Sim

set_option linter.unusedVariables false
set_option linter.unusedSimpArgs false
set_option maxRecDepth 20000
namespace Go.Sim
open Go Go.RowKit

theorem lawSpecialDict {h : AHeap} {a0 a1 : Pt} {n0 c0 n1 c1 : Nat} {e0 e1 : Bool} {w : Wd} {nd0 : Nd} (r : WRep h a0 n0 c0 a1 n1 c1 w) (hb : WBig w) (hb0 : PBig nd0) :
    SCall pg n_laws_FnExactSpecialDict [.agg [.slice a0 n0 c0 e0, .slice a1 n1 c1 e1], .agg [.str nd0.1, .str nd0.2]] h fun v _ => v = .bool true := by
  apply F_laws_FnExactSpecialDict.call
  simp only [letH_def]
  generalize hg0 : h ++ [AObj.cells t_laws_World [.slice a0 n0 c0 e0, .slice a1 n1 c1 e1] false] = g0
  have sg0 : Same h.length h g0 := by rw [← hg0]; exact same_last
  have xw0 : g0[h.length]? = some (.cells t_laws_World [.slice a0 n0 c0 e0, .slice a1 n1 c1 e1] false) := by rw [← hg0]; simp
  generalize hg1 : g0 ++ [AObj.cells t_laws_Need [.str nd0.1, .str nd0.2] false] = g1
  have sg1 : Same g0.length g0 g1 := by rw [← hg1]; exact same_last
  have xw_g1 := sg1.get xw0 (Own.lt xw0)
  have S_g1 := sg0.cat sg1
  have xn0_g1 : g1[g0.length]? = some (.cells t_laws_Need [.str nd0.1, .str nd0.2] false) := by rw [← hg1]; simp
  simp only [row_all2 xw_g1, row_all2 xn0_g1, xRow_some, xCons_cons, xNil_nil, xSl_some, xStr_some, xAgg_agg, xInt_some, xBool_some, xTup_tup, xHeap_some, true_and]
  refine (szWorld_ok (r.same S_g1) hb (x := 1048576) (by omega)).mono ?_
  rintro v k11 ⟨y, rfl, sk11, hy⟩
  have xw_k11 := sk11.get xw_g1 (Own.lt xw_g1)
  have xn0_k11 := sk11.get xn0_g1 (Own.lt xn0_g1)
  have S_k11 := S_g1.cat sk11
  simp only [xInt_some]
  refine bcase_dec (fun _ => by trivial) (fun hge => ?_)
  have hyy := hy (by omega)
  have b : WB w := .of hb (by omega)
  have hbl0 := hb0.1
  have hbm0 := hb0.2.1
  unfold NBig at hbl0 hbm0
  simp only [row_all2 xw_k11, row_all2 xn0_k11, row_all2 xw_g1, row_all2 xn0_g1, xRow_some, xCons_cons, xNil_nil, xSl_some, xStr_some, xAgg_agg, xInt_some, xBool_some, xTup_tup, xHeap_some, true_and]
  refine (szNeed_ok hbl0 hbm0 (x := y) (by omega)).mono ?_
  rintro v k12 ⟨z0, rfl, sk12, hz0⟩
  have xw_k12 := sk12.get xw_k11 (Own.lt xw_k11)
  have xn0_k12 := sk12.get xn0_k11 (Own.lt xn0_k11)
  have S_k12 := S_k11.cat sk12
  simp only [xInt_some]
  refine bcase_dec (fun _ => by trivial) (fun hge0 => ?_)
  have hzz0 := hz0 (by omega)
  have hnt0 : nd0.2.length ≤ 1048576 := by omega
  have hnc0 : nd0.1.length ≤ 1048576 := by omega
  simp only [row_all2 xw_k12, row_all2 xn0_k12, row_all2 xw_k11, row_all2 xn0_k11, xRow_some, xCons_cons, xNil_nil, xSl_some, xStr_some, xAgg_agg, xInt_some, xBool_some, xTup_tup, xHeap_some, true_and]
  refine (toWorld_ok (r.same S_k12) b).mono ?_
  rintro v k13 ⟨b0, d0, f0, b1, d1, f1, ys, rfl, hd0, hd1, sk13, W3⟩
  have xw_k13 := sk13.get xw_k12 (Own.lt xw_k12)
  have xn0_k13 := sk13.get xn0_k12 (Own.lt xn0_k12)
  have S_k13 := S_k12.cat sk13
  simp only [row_all2 xw_k13, row_all2 xn0_k13, row_all2 xw_k12, row_all2 xn0_k12, xRow_some, xCons_cons, xNil_nil, xSl_some, xStr_some, xAgg_agg, xInt_some, xBool_some, xTup_tup, xHeap_some, true_and]
  refine (toNeed_ok (c := nd0.1) (t := nd0.2)).mono ?_
  rintro v k14 ⟨rfl, sk14⟩
  have xw_k14 := sk14.get xw_k13 (Own.lt xw_k13)
  have xn0_k14 := sk14.get xn0_k13 (Own.lt xn0_k13)
  have S_k14 := S_k13.cat sk14
  simp only [row_all2 xw_k14, row_all2 xn0_k14, row_all2 xw_k13, row_all2 xn0_k13, xRow_some, xCons_cons, xNil_nil, xSl_some, xStr_some, xAgg_agg, xInt_some, xBool_some, xTup_tup, xHeap_some, true_and]
  refine (sSpecialDict_ok ((W3.rep hd0 hd1).same sk14) b hnt0).mono ?_
  rintro v k15 ⟨rfl, sk15⟩
  have xw_k15 := sk15.get xw_k14 (Own.lt xw_k14)
  have xn0_k15 := sk15.get xn0_k14 (Own.lt xn0_k14)
  have S_k15 := S_k14.cat sk15
  simp only [row_all2 xw_k15, row_all2 xn0_k15, row_all2 xw_k14, row_all2 xn0_k14, xRow_some, xCons_cons, xNil_nil, xSl_some, xStr_some, xAgg_agg, xInt_some, xBool_some, xTup_tup, xHeap_some, true_and]
  refine (toWorld_ok (r.same S_k15) b).mono ?_
  rintro v k16 ⟨p0, q0, g0', p1, q1, g1', zs, rfl, hq0, hq1, sk16, W6⟩
  have xw_k16 := sk16.get xw_k15 (Own.lt xw_k15)
  have xn0_k16 := sk16.get xn0_k15 (Own.lt xn0_k15)
  have S_k16 := S_k15.cat sk16
  simp only [row_all2 xw_k16, row_all2 xn0_k16, row_all2 xw_k15, row_all2 xn0_k15, xRow_some, xCons_cons, xNil_nil, xSl_some, xStr_some, xAgg_agg, xInt_some, xBool_some, xTup_tup, xHeap_some, true_and]
  rw [store2]
  generalize hg2 : k16 ++ [AObj.cells t_impl_World [.slice p0 n0 q0 g0', .slice p1 n1 q1 g1'] false] = g2
  have sg2 : Same k16.length k16 g2 := by rw [← hg2]; exact same_last
  have xw_g2 := sg2.get xw_k16 (Own.lt xw_k16)
  have xn0_g2 := sg2.get xn0_k16 (Own.lt xn0_k16)
  have S_g2 := S_k16.cat sg2
  have xi_g2 : g2[k16.length]? = some (.cells t_impl_World [.slice p0 n0 q0 g0', .slice p1 n1 q1 g1'] false) := by rw [← hg2]; simp
  simp only [row_all2 xw_g2, row_all2 xn0_g2, row_all2 xi_g2, row_all2 xw_k15, row_all2 xn0_k15, xRow_some, xCons_cons, xNil_nil, xSl_some, xStr_some, xAgg_agg, xInt_some, xBool_some, xTup_tup, xHeap_some, true_and]
  have W7 := W6.same sg2
  refine (toNeed_ok (c := nd0.1) (t := nd0.2)).mono ?_
  rintro v k17 ⟨rfl, sk17⟩
  have xw_k17 := sk17.get xw_g2 (Own.lt xw_g2)
  have xn0_k17 := sk17.get xn0_g2 (Own.lt xn0_g2)
  have xi_k17 := sk17.get xi_g2 (Own.lt xi_g2)
  have S_k17 := S_g2.cat sk17
  simp only [row_all2 xw_k17, row_all2 xn0_k17, row_all2 xi_k17, row_all2 xw_g2, row_all2 xn0_g2, row_all2 xi_g2, xRow_some, xCons_cons, xNil_nil, xSl_some, xStr_some, xAgg_agg, xInt_some, xBool_some, xTup_tup, xHeap_some, true_and]
  refine (specialDict_ok ((W7.rep hq0 hq1).same sk17) b).mono ?_
  rintro v k18 ⟨rfl, sk18⟩
  have xw_k18 := sk18.get xw_k17 (Own.lt xw_k17)
  have xn0_k18 := sk18.get xn0_k17 (Own.lt xn0_k17)
  have xi_k18 := sk18.get xi_k17 (Own.lt xi_k17)
  have S_k18 := S_k17.cat sk18
  simp only [xTup_tup, xCons_cons, xNil_nil, xSl_some, xStr_some, xInt_some, xBool_some, beq_self_eq_true, eq_self, decide_true, Bool.not_true, bcase_false]
  apply F_laws_FnExactSpecialDict.J13i
  simp only [row_all2 xw_k18, row_all2 xn0_k18, row_all2 xi_k18, row_all2 xw_k17, row_all2 xn0_k17, row_all2 xi_k17, xRow_some, xCons_cons, xNil_nil, xSl_some, xStr_some, xAgg_agg, xInt_some, xBool_some, xTup_tup, xHeap_some, true_and]
  refine (toWorld_ok (r.same S_k18) b).mono ?_
  rintro v k19 ⟨u0, v0, j0, u1, v1, j1, ts, rfl, hv0, hv1, sk19, W10⟩
  have xw_k19 := sk19.get xw_k18 (Own.lt xw_k18)
  have xn0_k19 := sk19.get xn0_k18 (Own.lt xn0_k18)
  have xi_k19 := sk19.get xi_k18 (Own.lt xi_k18)
  have S_k19 := S_k18.cat sk19
  simp only [row_all2 xw_k19, row_all2 xn0_k19, row_all2 xi_k19, row_all2 xw_k18, row_all2 xn0_k18, row_all2 xi_k18, xRow_some, xCons_cons, xNil_nil, xSl_some, xStr_some, xAgg_agg, xInt_some, xBool_some, xTup_tup, xHeap_some, true_and]
  refine (eqWorld_ok ((((W7.rep hq0 hq1).same sk17).same sk18).same sk19) (W10.rep hv0 hv1) b).mono ?_
  rintro v k20 ⟨rfl, sk20⟩
  have xw_k20 := sk20.get xw_k19 (Own.lt xw_k19)
  have xn0_k20 := sk20.get xn0_k19 (Own.lt xn0_k19)
  have xi_k20 := sk20.get xi_k19 (Own.lt xi_k19)
  have S_k20 := S_k19.cat sk20
  simp only [xBool_some, Bool.not_true, bcase_false]
end Go.Sim

set_option linter.unusedVariables false
namespace Go.Sim
open Go Go.RowKit
end Go.Sim
