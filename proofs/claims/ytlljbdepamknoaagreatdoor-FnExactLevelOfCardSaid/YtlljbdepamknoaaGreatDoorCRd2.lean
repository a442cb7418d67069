/- A part of the proof of a statement of this seat: see the text that holds the theorem. No condition. -/
import Derived.Test.YtlljbdepamknoaaGreatDoorPTCLevel
import Derived.Test.YtlljbdepamknoaaGreatDoorCLawL
import Derived.Test.YtlljbdepamknoaaGreatDoorPReduce
set_option linter.unusedVariables false
set_option linter.unusedSimpArgs false
set_option linter.all false
set_option linter.unusedVariables false
set_option linter.unusedSimpArgs false
set_option maxRecDepth 20000
namespace Go.Sim
open Go Go.RowKit

theorem lawLevelOf {h : AHeap} {a0 a1 : Pt} {n0 c0 n1 c1 : Nat} {e0 e1 : Bool} {w : Wd} {nd0 : Nd} (r : WRep h a0 n0 c0 a1 n1 c1 w) (hb : WBig w) (hb0 : PBig nd0) :
    SCall pg n_laws_FnExactLevelOf [.agg [.slice a0 n0 c0 e0, .slice a1 n1 c1 e1], .agg [.str nd0.1, .str nd0.2]] h fun v _ => v = .bool true := by
  apply F_laws_FnExactLevelOf.call
  simp only [letH_def]
  generalize hg0 : h ++ [AObj.cells t_laws_World [.slice a0 n0 c0 e0, .slice a1 n1 c1 e1] false] = g0
  have sg0 : Same h.length h g0 := by rw [← hg0]; exact same_last
  have xw0 : g0[h.length]? = some (.cells t_laws_World [.slice a0 n0 c0 e0, .slice a1 n1 c1 e1] false) := by rw [← hg0]; simp
  generalize hg1 : g0 ++ [AObj.cells t_laws_Need [.str nd0.1, .str nd0.2] false] = g1
  have sg1 : Same g0.length g0 g1 := by rw [← hg1]; exact same_last
  have xw_g1 := sg1.get xw0 (Own.lt xw0)
  have S_g1 := sg0.cat sg1
  have xn0_g1 : g1[g0.length]? = some (.cells t_laws_Need [.str nd0.1, .str nd0.2] false) := by rw [← hg1]; simp
  simp only [row_all2 xw_g1, row_all2 xn0_g1, xRow_some, xCons_cons, xNil_nil, xSl_some, xStr_some, xAgg_agg, xInt_some, xBool_some, xTup_tup, xHeap_some, true_and]
  refine (szWorld_ok (r.same S_g1) hb (x := 1048576) (by omega)).mono ?_
  rintro v k11 ⟨y, rfl, sk11, hy⟩
  have xw_k11 := sk11.get xw_g1 (Own.lt xw_g1)
  have xn0_k11 := sk11.get xn0_g1 (Own.lt xn0_g1)
  have S_k11 := S_g1.cat sk11
  simp only [xInt_some]
  refine bcase_dec (fun _ => by trivial) (fun hge => ?_)
  have hyy := hy (by omega)
  have b : WB w := .of hb (by omega)
  have hbl0 := hb0.1
  have hbm0 := hb0.2.1
  unfold NBig at hbl0 hbm0
  simp only [row_all2 xw_k11, row_all2 xn0_k11, row_all2 xw_g1, row_all2 xn0_g1, xRow_some, xCons_cons, xNil_nil, xSl_some, xStr_some, xAgg_agg, xInt_some, xBool_some, xTup_tup, xHeap_some, true_and]
  refine (szNeed_ok hbl0 hbm0 (x := y) (by omega)).mono ?_
  rintro v k12 ⟨z0, rfl, sk12, hz0⟩
  have xw_k12 := sk12.get xw_k11 (Own.lt xw_k11)
  have xn0_k12 := sk12.get xn0_k11 (Own.lt xn0_k11)
  have S_k12 := S_k11.cat sk12
  simp only [xInt_some]
  refine bcase_dec (fun _ => by trivial) (fun hge0 => ?_)
  have hzz0 := hz0 (by omega)
  have hnt0 : nd0.2.length ≤ 1048576 := by omega
  have hnc0 : nd0.1.length ≤ 1048576 := by omega
  simp only [row_all2 xw_k12, row_all2 xn0_k12, row_all2 xw_k11, row_all2 xn0_k11, xRow_some, xCons_cons, xNil_nil, xSl_some, xStr_some, xAgg_agg, xInt_some, xBool_some, xTup_tup, xHeap_some, true_and]
  refine (toWorld_ok (r.same S_k12) b).mono ?_
  rintro v k13 ⟨b0, d0, f0, b1, d1, f1, ys, rfl, hd0, hd1, sk13, W3⟩
  have xw_k13 := sk13.get xw_k12 (Own.lt xw_k12)
  have xn0_k13 := sk13.get xn0_k12 (Own.lt xn0_k12)
  have S_k13 := S_k12.cat sk13
  simp only [row_all2 xw_k13, row_all2 xn0_k13, row_all2 xw_k12, row_all2 xn0_k12, xRow_some, xCons_cons, xNil_nil, xSl_some, xStr_some, xAgg_agg, xInt_some, xBool_some, xTup_tup, xHeap_some, true_and]
  refine (toNeed_ok (c := nd0.1) (t := nd0.2)).mono ?_
  rintro v k14 ⟨rfl, sk14⟩
  have xw_k14 := sk14.get xw_k13 (Own.lt xw_k13)
  have xn0_k14 := sk14.get xn0_k13 (Own.lt xn0_k13)
  have S_k14 := S_k13.cat sk14
  simp only [row_all2 xw_k14, row_all2 xn0_k14, row_all2 xw_k13, row_all2 xn0_k13, xRow_some, xCons_cons, xNil_nil, xSl_some, xStr_some, xAgg_agg, xInt_some, xBool_some, xTup_tup, xHeap_some, true_and]
  refine (sLevelOf_ok ((W3.rep hd0 hd1).same sk14) b hnt0).mono ?_
  rintro v k15 ⟨rfl, sk15⟩
  have xw_k15 := sk15.get xw_k14 (Own.lt xw_k14)
  have xn0_k15 := sk15.get xn0_k14 (Own.lt xn0_k14)
  have S_k15 := S_k14.cat sk15
  simp only [row_all2 xw_k15, row_all2 xn0_k15, row_all2 xw_k14, row_all2 xn0_k14, xRow_some, xCons_cons, xNil_nil, xSl_some, xStr_some, xAgg_agg, xInt_some, xBool_some, xTup_tup, xHeap_some, true_and]
  refine (toWorld_ok (r.same S_k15) b).mono ?_
  rintro v k16 ⟨p0, q0, g0', p1, q1, g1', zs, rfl, hq0, hq1, sk16, W6⟩
  have xw_k16 := sk16.get xw_k15 (Own.lt xw_k15)
  have xn0_k16 := sk16.get xn0_k15 (Own.lt xn0_k15)
  have S_k16 := S_k15.cat sk16
  simp only [row_all2 xw_k16, row_all2 xn0_k16, row_all2 xw_k15, row_all2 xn0_k15, xRow_some, xCons_cons, xNil_nil, xSl_some, xStr_some, xAgg_agg, xInt_some, xBool_some, xTup_tup, xHeap_some, true_and]
  rw [store2]
  generalize hg2 : k16 ++ [AObj.cells t_impl_World [.slice p0 n0 q0 g0', .slice p1 n1 q1 g1'] false] = g2
  have sg2 : Same k16.length k16 g2 := by rw [← hg2]; exact same_last
  have xw_g2 := sg2.get xw_k16 (Own.lt xw_k16)
  have xn0_g2 := sg2.get xn0_k16 (Own.lt xn0_k16)
  have S_g2 := S_k16.cat sg2
  have xi_g2 : g2[k16.length]? = some (.cells t_impl_World [.slice p0 n0 q0 g0', .slice p1 n1 q1 g1'] false) := by rw [← hg2]; simp
  simp only [row_all2 xw_g2, row_all2 xn0_g2, row_all2 xi_g2, row_all2 xw_k15, row_all2 xn0_k15, xRow_some, xCons_cons, xNil_nil, xSl_some, xStr_some, xAgg_agg, xInt_some, xBool_some, xTup_tup, xHeap_some, true_and]
  have W7 := W6.same sg2
  refine (toNeed_ok (c := nd0.1) (t := nd0.2)).mono ?_
  rintro v k17 ⟨rfl, sk17⟩
  have xw_k17 := sk17.get xw_g2 (Own.lt xw_g2)
  have xn0_k17 := sk17.get xn0_g2 (Own.lt xn0_g2)
  have xi_k17 := sk17.get xi_g2 (Own.lt xi_g2)
  have S_k17 := S_g2.cat sk17
  simp only [row_all2 xw_k17, row_all2 xn0_k17, row_all2 xi_k17, row_all2 xw_g2, row_all2 xn0_g2, row_all2 xi_g2, xRow_some, xCons_cons, xNil_nil, xSl_some, xStr_some, xAgg_agg, xInt_some, xBool_some, xTup_tup, xHeap_some, true_and]
  refine (iLevelOf_ok ((W7.rep hq0 hq1).same sk17) b).mono ?_
  rintro v k18 ⟨rfl, sk18⟩
  have xw_k18 := sk18.get xw_k17 (Own.lt xw_k17)
  have xn0_k18 := sk18.get xn0_k17 (Own.lt xn0_k17)
  have xi_k18 := sk18.get xi_k17 (Own.lt xi_k17)
  have S_k18 := S_k17.cat sk18
  simp only [xTup_tup, xCons_cons, xNil_nil, xSl_some, xStr_some, xInt_some, xBool_some, beq_self_eq_true, eq_self, decide_true, Bool.not_true, bcase_false]
  simp only [row_all2 xw_k18, row_all2 xn0_k18, row_all2 xi_k18, row_all2 xw_k17, row_all2 xn0_k17, row_all2 xi_k17, xRow_some, xCons_cons, xNil_nil, xSl_some, xStr_some, xAgg_agg, xInt_some, xBool_some, xTup_tup, xHeap_some, true_and]
  refine (toWorld_ok (r.same S_k18) b).mono ?_
  rintro v k19 ⟨u0, v0, j0, u1, v1, j1, ts, rfl, hv0, hv1, sk19, W10⟩
  have xw_k19 := sk19.get xw_k18 (Own.lt xw_k18)
  have xn0_k19 := sk19.get xn0_k18 (Own.lt xn0_k18)
  have xi_k19 := sk19.get xi_k18 (Own.lt xi_k18)
  have S_k19 := S_k18.cat sk19
  simp only [row_all2 xw_k19, row_all2 xn0_k19, row_all2 xi_k19, row_all2 xw_k18, row_all2 xn0_k18, row_all2 xi_k18, xRow_some, xCons_cons, xNil_nil, xSl_some, xStr_some, xAgg_agg, xInt_some, xBool_some, xTup_tup, xHeap_some, true_and]
  refine (eqWorld_ok ((((W7.rep hq0 hq1).same sk17).same sk18).same sk19) (W10.rep hv0 hv1) b).mono ?_
  rintro v k20 ⟨rfl, sk20⟩
  have xw_k20 := sk20.get xw_k19 (Own.lt xw_k19)
  have xn0_k20 := sk20.get xn0_k19 (Own.lt xn0_k19)
  have xi_k20 := sk20.get xi_k19 (Own.lt xi_k19)
  have S_k20 := S_k19.cat sk20
  simp only [xBool_some, Bool.not_true, bcase_false]
end Go.Sim

set_option linter.unusedVariables false
namespace Go.Sim
open Go Go.RowKit
end Go.Sim
