/- A part of the proof of a statement of this seat: see the text that holds the theorem. No condition. -/
import Derived.Test.YtpbfjfcildpehaaGreatPTCSApply
import Derived.Test.YtpbfjfcildpehaaGreatCLawL
set_option linter.unusedVariables false
set_option linter.unusedSimpArgs false
set_option linter.all false
set_option linter.unusedVariables false
set_option linter.unusedSimpArgs false
set_option maxRecDepth 20000
namespace Go.Sim
open Go Go.RowKit

theorem lawNeedsOf {h : AHeap} {a0 a1 : Pt} {n0 c0 n1 c1 : Nat} {e0 e1 : Bool} {w : Wd} {x0 : Int} {s1 : List Nat} (r : WRep h a0 n0 c0 a1 n1 c1 w) (hb : WBig w) (hb1 : NBig s1.length) :
    SCall pg n_laws_FnExactNeedsOf [.agg [.slice a0 n0 c0 e0, .slice a1 n1 c1 e1], .int .i64 x0, .str s1] h fun v _ => v = .bool true := by
  apply F_laws_FnExactNeedsOf.call
  simp only [letH_def]
  generalize hg0 : h ++ [AObj.cells t_laws_World [.slice a0 n0 c0 e0, .slice a1 n1 c1 e1] false] = g0
  have sg0 : Same h.length h g0 := by rw [← hg0]; exact same_last
  have xw0 : g0[h.length]? = some (.cells t_laws_World [.slice a0 n0 c0 e0, .slice a1 n1 c1 e1] false) := by rw [← hg0]; simp
  simp only [row_all2 xw0, xRow_some, xCons_cons, xNil_nil, xSl_some, xStr_some, xAgg_agg, xInt_some, xBool_some, xTup_tup, xHeap_some, true_and]
  refine bcase_dec (fun _ => by trivial) (fun hge1 => ?_)
  have hst1 : s1.length ≤ 1048576 := by omega
  refine (szWorld_ok (r.same sg0) hb (x := 1048576) (by omega)).mono ?_
  rintro v k11 ⟨y, rfl, sk11, hy⟩
  have xw_k11 := sk11.get xw0 (Own.lt xw0)
  have S_k11 := sg0.cat sk11
  simp only [xInt_some]
  refine bcase_dec (fun _ => by trivial) (fun hge => ?_)
  have hyy := hy (by omega)
  have b : WB w := .of hb (by omega)
  simp only [row_all2 xw_k11, row_all2 xw0, xRow_some, xCons_cons, xNil_nil, xSl_some, xStr_some, xAgg_agg, xInt_some, xBool_some, xTup_tup, xHeap_some, true_and]
  refine (toWorld_ok (r.same S_k11) b).mono ?_
  rintro v k12 ⟨b0, d0, f0, b1, d1, f1, ys, rfl, hd0, hd1, sk12, W3⟩
  have xw_k12 := sk12.get xw_k11 (Own.lt xw_k11)
  have S_k12 := S_k11.cat sk12
  simp only [row_all2 xw_k12, row_all2 xw_k11, xRow_some, xCons_cons, xNil_nil, xSl_some, xStr_some, xAgg_agg, xInt_some, xBool_some, xTup_tup, xHeap_some, true_and]
  refine (sNeedsOf_ok (W3.rep hd0 hd1) b hst1).mono ?_
  rintro v k13 ⟨sk13, wa, wn, wc, we, rfl, F5⟩
  have xw_k13 := sk13.get xw_k12 (Own.lt xw_k12)
  have S_k13 := S_k12.cat sk13
  simp only [row_all2 xw_k13, row_all2 xw_k12, xRow_some, xCons_cons, xNil_nil, xSl_some, xStr_some, xAgg_agg, xInt_some, xBool_some, xTup_tup, xHeap_some, true_and]
  refine (toWorld_ok (r.same S_k13) b).mono ?_
  rintro v k14 ⟨p0, q0, g0', p1, q1, g1', zs, rfl, hq0, hq1, sk14, W6⟩
  have xw_k14 := sk14.get xw_k13 (Own.lt xw_k13)
  have S_k14 := S_k13.cat sk14
  simp only [row_all2 xw_k14, row_all2 xw_k13, xRow_some, xCons_cons, xNil_nil, xSl_some, xStr_some, xAgg_agg, xInt_some, xBool_some, xTup_tup, xHeap_some, true_and]
  rw [store2]
  generalize hg1 : k14 ++ [AObj.cells t_impl_World [.slice p0 n0 q0 g0', .slice p1 n1 q1 g1'] false] = g1
  have sg1 : Same k14.length k14 g1 := by rw [← hg1]; exact same_last
  have xw_g1 := sg1.get xw_k14 (Own.lt xw_k14)
  have S_g1 := S_k14.cat sg1
  have xi_g1 : g1[k14.length]? = some (.cells t_impl_World [.slice p0 n0 q0 g0', .slice p1 n1 q1 g1'] false) := by rw [← hg1]; simp
  simp only [row_all2 xw_g1, row_all2 xi_g1, row_all2 xw_k13, xRow_some, xCons_cons, xNil_nil, xSl_some, xStr_some, xAgg_agg, xInt_some, xBool_some, xTup_tup, xHeap_some, true_and]
  have W7 := W6.same sg1
  refine (needsOf_ok (W7.rep hq0 hq1) b).mono ?_
  rintro v k15 ⟨sk15, ga, gn, gc, ge, rfl, F9⟩
  have xw_k15 := sk15.get xw_g1 (Own.lt xw_g1)
  have xi_k15 := sk15.get xi_g1 (Own.lt xi_g1)
  have S_k15 := S_g1.cat sk15
  simp only [xTup_tup, xCons_cons, xNil_nil, xSl_some, xStr_some, xInt_some, xBool_some]
  have hwn : ((needsOf w x0 s1).getD []).length = wn := F5.1
  have hgn : ((needsOf w x0 s1).getD []).length = gn := F9.1
  have hgl := needsOf_len b x0 s1
  have R5 : Row k13.length k13 wa (wn * 2) (flat eP ((needsOf w x0 s1).getD [])) := rowN F5
  have T9 := ((sk14).cat sg1).cat sk15
  have R9 := R5.same T9
  refine (eqNeeds_ok (rowN F9) (R9.mono T9.le) (by omega) rfl).mono ?_
  rintro v k16 ⟨rfl, sk16⟩
  have xw_k16 := sk16.get xw_k15 (Own.lt xw_k15)
  have xi_k16 := sk16.get xi_k15 (Own.lt xi_k15)
  have S_k16 := S_k15.cat sk16
  simp only [xBool_some, beq_self_eq_true, Bool.not_true, bcase_false]
  apply F_laws_FnExactNeedsOf.J12i
  simp only [row_all2 xw_k16, row_all2 xi_k16, row_all2 xw_k15, row_all2 xi_k15, xRow_some, xCons_cons, xNil_nil, xSl_some, xStr_some, xAgg_agg, xInt_some, xBool_some, xTup_tup, xHeap_some, true_and]
  refine (toWorld_ok (r.same S_k16) b).mono ?_
  rintro v k17 ⟨u0, v0, j0, u1, v1, j1, ts, rfl, hv0, hv1, sk17, W10⟩
  have xw_k17 := sk17.get xw_k16 (Own.lt xw_k16)
  have xi_k17 := sk17.get xi_k16 (Own.lt xi_k16)
  have S_k17 := S_k16.cat sk17
  simp only [row_all2 xw_k17, row_all2 xi_k17, row_all2 xw_k16, row_all2 xi_k16, xRow_some, xCons_cons, xNil_nil, xSl_some, xStr_some, xAgg_agg, xInt_some, xBool_some, xTup_tup, xHeap_some, true_and]
  refine (eqWorld_ok ((((W7.rep hq0 hq1).same sk15).same sk16).same sk17) (W10.rep hv0 hv1) b).mono ?_
  rintro v k18 ⟨rfl, sk18⟩
  have xw_k18 := sk18.get xw_k17 (Own.lt xw_k17)
  have xi_k18 := sk18.get xi_k17 (Own.lt xi_k17)
  have S_k18 := S_k17.cat sk18
  simp only [xBool_some, Bool.not_true, bcase_false]
  simp only [row_all2 xw_k18, row_all2 xi_k18, row_all2 xw_k17, row_all2 xi_k17, xRow_some, xCons_cons, xNil_nil, xSl_some, xStr_some, xAgg_agg, xInt_some, xBool_some, xTup_tup, xHeap_some, true_and]
  have T12 := (((((sk14).cat sg1).cat sk15).cat sk16).cat sk17).cat sk18
  have lsk13 := sk13.le
  have lsk14 := sk14.le
  have lsg1 := sg1.le
  have lsk15 := sk15.le
  have lsk16 := sk16.le
  have lsk17 := sk17.le
  have lsk18 := sk18.le
  have lS5 := S_k13.le
  have W12 := ((((W7).same sk15).same sk16).same sk17).same sk18
  refine (markWorld_ok W12 b (H := k14.length) ⟨W6.bel.cls, W6.bel.ins, W6.bel.need⟩ (by omega) (k := 1) (by omega)).mono ?_
  rintro v m1 ⟨⟨zm, rfl, hm0, hm1⟩, M13⟩
  simp only [xInt_some]
  rw [show decide (zm < 0) = false by simp; omega]
  simp only [bcase_false]
  have lm1 := M13.1
  have F13 : FreshR t_impl_Need eP g1.length m1 ga gn ((needsOf w x0 s1).getD []) := ((((F9).same sk16).same sk17).same sk18).mid M13 (by omega)
  have R13 : Row k13.length m1 wa (wn * 2) (flat eP ((needsOf w x0 s1).getD [])) := (R5.same T12).mid M13 (Nat.le_refl _)
  refine (eqNeeds_ok (rowN F13) (R13.mono (by omega)) (by omega) rfl).mono ?_
  rintro v m2 ⟨rfl, sm2⟩
  simp only [xBool_some, beq_self_eq_true, Bool.not_true, bcase_false]
  apply F_laws_FnExactNeedsOf.J18i
  have F14 := F13.same sm2
  have lm2 := sm2.le
  refine (markNeeds_ok F14 (k := 1) (by omega)).mono ?_
  rintro v m3 ⟨rfl, o15, F15⟩
  simp only [xInt_some]
  have hin := F14.in
  have M15 : Mid g1.length m2.length m2 m3 := o15.mid fun i hi hn => hin i hi hn
  have lm3 := M15.1
  refine (heldNeeds_ok (rowN F15) (by omega)).mono ?_
  rintro v m4 ⟨rfl, sm4⟩
  simp only [xInt_some]
  rw [show decide ((1 + 2 * (gn : Int)) < 0) = false by simp; omega]
  simp only [bcase_false, beq_self_eq_true, Bool.not_true]
  have lm4 := sm4.le
  have U : Same k13.length k13 m4 := ⟨by omega, fun j hj => by
    rw [sm4.eq j (by omega), M15.2 j (by omega) (.inl (by omega)), sm2.eq j (by omega), M13.2 j (by omega) (.inl (by omega)), T12.eq j hj]⟩
  have xw_m4 := U.get xw_k13 (Own.lt xw_k13)
  have S_m4 := S_k13.cat U
  simp only [row_all2 xw_m4, xRow_some, xCons_cons, xNil_nil, xSl_some, xStr_some, xAgg_agg, xInt_some, xBool_some, xTup_tup, xHeap_some, true_and]
  refine (toWorld_ok (r.same S_m4) b).mono ?_
  rintro v k19 ⟨P0, Q0, G0, P1, Q1, G1, Zs, rfl, hQ0, hQ1, sk19, W20⟩
  have xw_k19 := sk19.get xw_m4 (Own.lt xw_m4)
  have S_k19 := S_m4.cat sk19
  simp only [row_all2 xw_k19, row_all2 xw_m4, xRow_some, xCons_cons, xNil_nil, xSl_some, xStr_some, xAgg_agg, xInt_some, xBool_some, xTup_tup, xHeap_some, true_and]
  refine (needsOf_ok (W20.rep hQ0 hQ1) b).mono ?_
  rintro v k20 ⟨sk20, Ga, Gn, Gc, Ge, rfl, F22⟩
  have xw_k20 := sk20.get xw_k19 (Own.lt xw_k19)
  have S_k20 := S_k19.cat sk20
  simp only [row_all2 xw_k20, row_all2 xw_k19, xRow_some, xCons_cons, xNil_nil, xSl_some, xStr_some, xAgg_agg, xInt_some, xBool_some, xTup_tup, xHeap_some, true_and]
  have R22 := R5.same (((U).cat sk19).cat sk20)
  have lR := (((U).cat sk19).cat sk20).le
  have hGn : ((needsOf w x0 s1).getD []).length = Gn := F22.1
  refine (eqNeeds_ok (rowN F22) (R22.mono lR) (by omega) rfl).mono ?_
  rintro v m9 ⟨rfl, sm9⟩
  simp only [xBool_some, beq_self_eq_true, Bool.not_true, bcase_false]
  apply F_laws_FnExactNeedsOf.J29i
  refine (heldNeeds_ok (rowN ((((F15.same sm4).same sk19).same sk20).same sm9)) (by omega)).mono ?_
  rintro v m10 ⟨rfl, sm10⟩
  simp only [xInt_some]
  rw [show decide ((1 + 2 * (gn : Int)) < 0) = false by simp; omega]
  simp only [bcase_false, beq_self_eq_true, Bool.not_true]
end Go.Sim

set_option linter.unusedVariables false
namespace Go.Sim
open Go Go.RowKit
/-- A text that came in. -/
theorem rd_strB {P : Program} {h : AHeap} {f : Nat} {t : TypeId} {cs : List AVal} {d : Dt} (ht : P.underlying t = some .string) (hr : rd P h (f + 1) t cs d) : ∃ s, cs = [.str s] ∧ NBig s.length := by
  simp only [rd, ht] at hr
  obtain ⟨s, rfl, _, h1, hb⟩ := hr
  exact ⟨s, rfl, h1⟩
end Go.Sim
