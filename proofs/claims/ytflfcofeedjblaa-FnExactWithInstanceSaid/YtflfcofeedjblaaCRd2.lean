/- A part of the proof of a statement of this seat: see the text that holds the theorem. No condition. -/
import Derived.Test.YtflfcofeedjblaaPTCSrch
import Derived.Test.YtflfcofeedjblaaCWiJ
import Derived.Test.YtflfcofeedjblaaNm
import Derived.Test.YtflfcofeedjblaaCLawI
set_option linter.unusedVariables false
set_option linter.unusedSimpArgs false
set_option linter.all false
set_option linter.unusedVariables false
set_option linter.unusedSimpArgs false
set_option maxRecDepth 20000
namespace Go.Sim
open Go Go.RowKit

theorem Zrc {h:Zab} {b:Nat} {a:Pt} {n c:Nat} {e:Bool} {s t:List Nat} {l:List Nd} {k:Int} (f:Zcd Zap eP b h a n l) (hk:0≤k∧k + 2 * n≤4611686018427387000) :
  Zag pg Zhe [.agg [.str s,.str t,.slice a n c e],.int .i64 k] h fun v h'=>v=.int .i64 (k + 2 * n)∧h.length≤h'.length∧∀ j,j < h.length→(∀ i,a=some (i,0)→n≠0→j≠i)→h'[j]?=h[j]?:=by
 apply Zjo.call
 simp only [Zbh]
 generalize hh0:h ++ [Zbv.cells Zaa [.str s,.str t,.slice a n c e] false]=h0
 have s0:Zbb h.length h h0:=by rw [← hh0]; exact Zan
 have x0:h0[h.length]?=some (.cells Zaa [.str s,.str t,.slice a n c e] false):=by rw [← hh0]; simp
 simp only [Zba x0,Nat.zero_add,List.getElem?_cons_succ,List.getElem?_cons_zero,Zae]
 refine (Zmt (f.same s0) hk).mono ?_
 rintro v h1 ⟨rfl,o1,_⟩
 simp only [Zbg]
 have:=o1.1
 have:=s0.le
 exact ⟨by trivial,by omega,fun j hj hn=>by rw [o1.2 j (by omega) hn]; exact s0.eq j hj⟩
theorem Yjd {G:Zab} {b i10 j0 j1 E0 E1:Nat} {H0 H1:Bool} {G0 G1:Pt} {ys:List EI} (x10:G[i10]?=some (.cells Zac [.slice G0 j0 E0 H0,.slice G1 j1 E1 H1] false)) (mk:MkW b G G0 j0 G1 j1 ys) (hyl:ys.length=j1) (hj0:j0≤1048576) (hj1:j1≤1048576) (h20:∀ x∈ys,x.n≤1048576) :
  Zbu.J34 (fun v _=>v=.bool true) i10 0 (KI (1 + 2 * (j0:Int)) ys j1) G:=by
 apply Zbu.J34i
 rw [Zck x10]
 simp only [Zar,Zah,Zal,Zae]
 have hpos:=Yco (k:=1 + 2 * (j0:Int)) (ys:=ys) (n:=j1) (by omega)
 refine (Zos mk hyl hj0 hj1 h20).mono ?_
 rintro v kg ⟨rfl,sg⟩
 simp only [Zbg]
 refine Zaq (fun hneg=>by omega) (fun _=>?_)
 simp only [beq_self_eq_true,Bool.not_true,Zbr]
theorem Yhw {h G:Zab} {a0 a1 ai G0 G1 B0 B1:Pt} {n0 c0 n1 c1 ni ci ii i10 i6 bO j0 j1 E0 E1 m0 D0 m1 D1:Nat} {e0 e1 ei H0 H1 F0 F1:Bool} {w:Wd} {i:Ins} {ys:List EI} (r:Zip h a0 n0 c0 a1 n1 c1 w) (b:WB w) (bi:WB1 (wiW w i)) (ri:Row h.length h ai (ni * 2) (Zdf eP i.2)) (hni:ni≤1048576)
  (S:Zbb h.length h G) (hb:h.length < bO) (hbi:ii < bO) (hbG:bO≤G.length)
  (xw:G[h.length]?=some (.cells Zcz [.slice a0 n0 c0 e0,.slice a1 n1 c1 e1] false)) (xi:G[ii]?=some (.cells Zce [.str i.1.1,.str i.1.2,.slice ai ni ci ei] false))
  (x10:G[i10]?=some (.cells Zac [.slice G0 j0 E0 H0,.slice G1 j1 E1 H1] false)) (x6:G[i6]?=some (.cells Zac [.slice B0 m0 D0 F0,.slice B1 m1 D1 F1] false))
  (out:Zsc bO G G0 j0 G1 j1 ys (wiR w i)) (R3:∀ G',Zbb bO G G'→Zip G' B0 m0 D0 B1 m1 D1 (wiR w i)) :
  Zbu.J23 (fun v _=>v=.bool true) i10 0 h.length 0 ii 0 i6 0 (Zrm w i) G:=by
 have bR:=Zyr bi
 apply Zbu.J23i
 simp only [Zbh]
 rw [Zck x10]
 simp only [Zar,Zah,Zal,Zae]
 refine (Zts out bR hbG).mono ?_
 rintro v kb ⟨rfl,sb,mk,oth⟩
 have lb:=sb.le
 have x10b:=oth _ _ x10
 have x6b:=oth _ _ x6
 have xwb:kb[h.length]?=some (.cells Zcz [.slice a0 n0 c0 e0,.slice a1 n1 c1 e1] false):=by rw [sb.eq _ hb]; exact xw
 have xib:kb[ii]?=some (.cells Zce [.str i.1.1,.str i.1.2,.slice ai ni ci ei] false):=by rw [sb.eq _ hbi]; exact xi
 have Sb:Zbb h.length h kb:=⟨by have:=S.le; omega,fun j hj=>by rw [sb.eq j (by omega)]; exact S.eq j hj⟩
 have hj0:j0≤1048576:=by have:=out.cls.1; have:=bR.lc; omega
 have hj1:j1≤1048576:=by have:=out.wl; have:=bR.li; omega
 have hpos:=Yco (k:=1 + 2 * (j0:Int)) (ys:=ys) (n:=j1) (by omega)
 simp only [Zbg]
 rw [Zck x10b]
 simp only [Zar,Zah,Zal,Zae]
 refine (Zos mk out.len hj0 hj1 (out.small bR)).mono ?_
 rintro v kc ⟨rfl,sc⟩
 simp only [Zbg]
 refine Zaq (fun hneg=>by omega) (fun _=>?_)
 simp only [beq_self_eq_true,Bool.not_true,Zbr]
 have xwc:=sc.get xwb (Own.lt xwb)
 have xic:=sc.get xib (Own.lt xib)
 have x6c:=sc.get x6b (Own.lt x6b)
 have x10c:=sc.get x10b (Own.lt x10b)
 have mkc:=mk.same sc
 have lc:=sc.le
 have SC:Zbb h.length h kc:=Sb.cat sc
 have Rc:∀ G',Zbb kc.length kc G'→Zip G' B0 m0 D0 B1 m1 D1 (wiR w i):=fun G' s=>R3 G' ⟨by have:=s.le; omega,fun j hj=>by rw [s.eq j (by omega),sc.eq j (by omega),sb.eq j hj]⟩
 rw [Zck xwc,Zdt xic]
 simp only [Zar,Zah,Zal,Zae,Zaj]
 have Ckc:Zbb kc.length kc kc:=Zbb.refl _ _
 have eqi:∀ G',Zbb kc.length kc G'→Zax G' (.ptr (some (ii,0))) 3=some [.str i.1.1,.str i.1.2,.slice ai ni ci ei]:=fun G' s=>Zdt (s.get xic (Own.lt xic))
 have eqw:∀ G',Zbb kc.length kc G'→Zax G' (.ptr (some (h.length,0))) 2=some [.slice a0 n0 c0 e0,.slice a1 n1 c1 e1]:=fun G' s=>Zck (s.get xwc (Own.lt xwc))
 have fin:∀ {G0x G1x:Pt} {j0x E0x j1x E1x:Nat} {H0x H1x:Bool} (E:Zab) (z:Nat),E[z]?=some (.cells Zac [.slice G0x j0x E0x H0x,.slice G1x j1x E1x H1x] false)→Zbb kc.length kc E→Zip E G0x j0x E0x G1x j1x E1x (wiR w i) →
   Zca (Zax E (.ptr (some (z,0))) 2) fun cs_1=>Zad cs_1 fun c_1 r_1=>xSl (some c_1) fun a_1 n_1 d_1 e_1=>Zad r_1 fun c_2 r_2=>xSl (some c_2) fun a_2 n_2 d_2 e_2=>Zbq r_2 (Zca (Zax E (.ptr (some (i6,0))) 2) fun cs_3=>Zad cs_3 fun c_3 r_3=>xSl (some c_3) fun a_3 n_3 d_3 e_3=>Zad r_3 fun c_4 r_4=>xSl (some c_4) fun a_4 n_4 d_4 e_4=>Zbq r_4 (Zag pg Zcv [.agg [.slice a_1 n_1 d_1 e_1,.slice a_2 n_2 d_2 e_2],.agg [.slice a_3 n_3 d_3 e_3,.slice a_4 n_4 d_4 e_4]] E fun v_5 h_5=>
    Zbw (some v_5) fun b_5=>bcase (!b_5) (Zai.bool false=.bool true) (bcase (!(Zrm w i == Zrm w i)) (Zai.bool false=.bool true) (Zbu.J34 (fun v _=>v=.bool true) i10 0 (KI (1 + 2 * (j0:Int)) ys j1) h_5)))):=by
  intro G0x G1x j0x E0x j1x E1x H0x H1x E z hz sE rE
  rw [Zck hz]
  simp only [Zar,Zah,Zal,Zae]
  rw [Zck (sE.get x6c (Own.lt x6c))]
  simp only [Zar,Zah,Zal,Zae]
  refine (Zmy rE (Rc E sE) bR).mono ?_
  rintro v kf ⟨rfl,sf⟩
  simp only [Zau,Bool.not_true,Zbr,beq_self_eq_true]
  exact Yjd (sf.get (sE.get x10c (Own.lt x10c)) (by have:=Own.lt x10c; have:=sE.le; omega)) ((mkc.same sE).same sf) out.len hj0 hj1 (out.small bR)
 refine ⟨?_,?_⟩
 ·
  refine (Zjh (r.same (SC.cat Ckc)) b).mono ?_
  rintro v m1 ⟨P0,Q0,I0,P1,Q1,I1,Zs,rfl,hQ0,hQ1,sm1,Wm1⟩
  simp only [Zcj,Zah,Zal,Zae,Zaj]
  have Cm1:=Ckc.cat sm1
  have qm1:=sm1.le
  refine ⟨by first | (rw [eqi _ Cm1]; done) | (rw [eqw _ Cm1]; done) | rw [eqi _ Cm1,eqi _ Ckc] | rw [eqw _ Cm1,eqw _ Ckc],?_⟩
  refine ⟨?_,?_⟩
  ·
   refine (Zee (i:=i) (ri.same' (SC.cat Cm1)) hni).mono ?_
   rintro v m2 ⟨A0,A1,A2,rfl,sm2,Xm2,hX⟩
   simp only [Zcj,Zah,Zal,Zae,Zaj]
   have Cm2:=Cm1.cat sm2
   have qm2:=sm2.le
   refine ⟨by first | (rw [eqi _ Cm2]; done) | (rw [eqw _ Cm2]; done) | rw [eqi _ Cm2,eqi _ Cm1] | rw [eqw _ Cm2,eqw _ Cm1],?_⟩
   refine ⟨?_,?_⟩
   ·
    have WW:=(Wm1).same sm2
    refine (Zfz (i:=i) (WW.rep hQ0 hQ1) WW.nns b bi WW.nc ((Xm2).row Zdg) hX hni).mono ?_
    rintro v m3 ⟨sm3,G0x,j0x,E0x,H0x,G1x,j1x,E1x,H1x,ysx,rfl,outx,le0x,le1x⟩
    simp only [Zgi,Zcj,Zah,Zal,Zae,Zau]
    have Cm3:=Cm2.cat sm3
    have qm3:=sm3.le
    refine ⟨by first | (rw [eqi _ Cm3]; done) | (rw [eqw _ Cm3]; done) | rw [eqi _ Cm3,eqi _ Cm2] | rw [eqw _ Cm3,eqw _ Cm2],by first | (rw [eqi _ Cm3]; done) | (rw [eqw _ Cm3]; done) | rw [eqi _ Cm3,eqi _ Cm2] | rw [eqw _ Cm3,eqw _ Cm2],?_⟩
    generalize hm4:m3 ++ [Zbv.cells Zac [.slice none 0 0 true,.slice none 0 0 true] false]=m4
    have sm4:Zbb m3.length m3 m4:=by rw [← hm4]; exact Zan
    have lm4:m4.length=m3.length + 1:=by rw [← hm4]; simp
    have zm4:m4[m3.length]?=some (.cells Zac [.slice none 0 0 true,.slice none 0 0 true] false):=by rw [← hm4]; simp
    have Cm4:=Cm3.cat sm4
    have qm4:=sm4.le
    refine ⟨by first | (rw [eqi _ Cm4]; done) | (rw [eqw _ Cm4]; done) | rw [eqi _ Cm4,eqi _ Cm3] | rw [eqw _ Cm4,eqw _ Cm3],by first | (rw [eqi _ Cm4]; done) | (rw [eqw _ Cm4]; done) | rw [eqi _ Cm4,eqi _ Cm3] | rw [eqw _ Cm4,eqw _ Cm3],?_⟩
    rw [Zay zm4 (by simp)]
    simp only [Zam,Zbj,List.take_zero,List.length_cons,List.length_nil,List.drop_succ_cons,List.drop_zero,List.drop_nil,List.cons_append,List.nil_append,List.append_nil,Nat.zero_add]
    have xm5:=Zbm zm4 (x:=.cells Zac [.slice G0x j0x E0x H0x,.slice G1x j1x E1x H1x] false)
    have Cm5:Zbb kc.length kc (m4.set m3.length (.cells Zac [.slice G0x j0x E0x H0x,.slice G1x j1x E1x H1x] false)):=Cm4.set' (by omega)
    have om5:=outx.above (h':=m4.set m3.length (.cells Zac [.slice G0x j0x E0x H0x,.slice G1x j1x E1x H1x] false)) (fun j hj hjl=>by rw [Zbn (by omega),sm4.eq j (by omega)])
    exact fin _ _ xm5 Cm5 (om5.rep le0x le1x)
   ·
    generalize hm6:m2 ++ [Zbv.cells Zac [.slice none 0 0 true,.slice none 0 0 true] false]=m6
    have sm6:Zbb m2.length m2 m6:=by rw [← hm6]; exact Zan
    have lm6:m6.length=m2.length + 1:=by rw [← hm6]; simp
    have zm6:m6[m2.length]?=some (.cells Zac [.slice none 0 0 true,.slice none 0 0 true] false):=by rw [← hm6]; simp
    have Cm6:=Cm2.cat sm6
    have qm6:=sm6.le
    refine ⟨by first | (rw [eqi _ Cm6]; done) | (rw [eqw _ Cm6]; done) | rw [eqi _ Cm6,eqi _ Cm2] | rw [eqw _ Cm6,eqw _ Cm2],by first | (rw [eqi _ Cm6]; done) | (rw [eqw _ Cm6]; done) | rw [eqi _ Cm6,eqi _ Cm2] | rw [eqw _ Cm6,eqw _ Cm2],?_⟩
    have WW:=((Wm1).same sm2).same sm6
    refine (Zfz (i:=i) (WW.rep hQ0 hQ1) WW.nns b bi WW.nc (((Xm2).same sm6).row Zdg) hX hni).mono ?_
    rintro v m7 ⟨sm7,G0x,j0x,E0x,H0x,G1x,j1x,E1x,H1x,ysx,rfl,outx,le0x,le1x⟩
    simp only [Zgi,Zcj,Zah,Zal,Zae,Zau]
    have Cm7:=Cm6.cat sm7
    have qm7:=sm7.le
    have zm7:=sm7.get zm6 (Own.lt zm6)
    refine ⟨by first | (rw [eqi _ Cm7]; done) | (rw [eqw _ Cm7]; done) | rw [eqi _ Cm7,eqi _ Cm6] | rw [eqw _ Cm7,eqw _ Cm6],by first | (rw [eqi _ Cm7]; done) | (rw [eqw _ Cm7]; done) | rw [eqi _ Cm7,eqi _ Cm6] | rw [eqw _ Cm7,eqw _ Cm6],?_⟩
    rw [Zay zm7 (by simp)]
    simp only [Zam,Zbj,List.take_zero,List.length_cons,List.length_nil,List.drop_succ_cons,List.drop_zero,List.drop_nil,List.cons_append,List.nil_append,List.append_nil,Nat.zero_add]
    have xm8:=Zbm zm7 (x:=.cells Zac [.slice G0x j0x E0x H0x,.slice G1x j1x E1x H1x] false)
    have Cm8:Zbb kc.length kc (m7.set m2.length (.cells Zac [.slice G0x j0x E0x H0x,.slice G1x j1x E1x H1x] false)):=Cm7.set' (by omega)
    have om8:=outx.above (h':=m7.set m2.length (.cells Zac [.slice G0x j0x E0x H0x,.slice G1x j1x E1x H1x] false)) (fun j hj hjl=>Zbn (by omega))
    exact fin _ _ xm8 Cm8 (om8.rep le0x le1x)
  ·
   generalize hm9:m1 ++ [Zbv.cells Zac [.slice none 0 0 true,.slice none 0 0 true] false]=m9
   have sm9:Zbb m1.length m1 m9:=by rw [← hm9]; exact Zan
   have lm9:m9.length=m1.length + 1:=by rw [← hm9]; simp
   have zm9:m9[m1.length]?=some (.cells Zac [.slice none 0 0 true,.slice none 0 0 true] false):=by rw [← hm9]; simp
   have Cm9:=Cm1.cat sm9
   have qm9:=sm9.le
   refine ⟨by first | (rw [eqi _ Cm9]; done) | (rw [eqw _ Cm9]; done) | rw [eqi _ Cm9,eqi _ Cm1] | rw [eqw _ Cm9,eqw _ Cm1],by first | (rw [eqi _ Cm9]; done) | (rw [eqw _ Cm9]; done) | rw [eqi _ Cm9,eqi _ Cm1] | rw [eqw _ Cm9,eqw _ Cm1],?_⟩
   refine (Zee (i:=i) (ri.same' (SC.cat Cm9)) hni).mono ?_
   rintro v m10 ⟨A0,A1,A2,rfl,sm10,Xm10,hX⟩
   simp only [Zcj,Zah,Zal,Zae,Zaj]
   have Cm10:=Cm9.cat sm10
   have qm10:=sm10.le
   have zm10:=sm10.get zm9 (Own.lt zm9)
   refine ⟨by first | (rw [eqi _ Cm10]; done) | (rw [eqw _ Cm10]; done) | rw [eqi _ Cm10,eqi _ Cm9] | rw [eqw _ Cm10,eqw _ Cm9],?_⟩
   have WW:=((Wm1).same sm9).same sm10
   refine (Zfz (i:=i) (WW.rep hQ0 hQ1) WW.nns b bi WW.nc ((Xm10).row Zdg) hX hni).mono ?_
   rintro v m11 ⟨sm11,G0x,j0x,E0x,H0x,G1x,j1x,E1x,H1x,ysx,rfl,outx,le0x,le1x⟩
   simp only [Zgi,Zcj,Zah,Zal,Zae,Zau]
   have Cm11:=Cm10.cat sm11
   have qm11:=sm11.le
   have zm11:=sm11.get zm10 (Own.lt zm10)
   refine ⟨by first | (rw [eqi _ Cm11]; done) | (rw [eqw _ Cm11]; done) | rw [eqi _ Cm11,eqi _ Cm10] | rw [eqw _ Cm11,eqw _ Cm10],by first | (rw [eqi _ Cm11]; done) | (rw [eqw _ Cm11]; done) | rw [eqi _ Cm11,eqi _ Cm10] | rw [eqw _ Cm11,eqw _ Cm10],?_⟩
   rw [Zay zm11 (by simp)]
   simp only [Zam,Zbj,List.take_zero,List.length_cons,List.length_nil,List.drop_succ_cons,List.drop_zero,List.drop_nil,List.cons_append,List.nil_append,List.append_nil,Nat.zero_add]
   have xm12:=Zbm zm11 (x:=.cells Zac [.slice G0x j0x E0x H0x,.slice G1x j1x E1x H1x] false)
   have Cm12:Zbb kc.length kc (m11.set m1.length (.cells Zac [.slice G0x j0x E0x H0x,.slice G1x j1x E1x H1x] false)):=Cm11.set' (by omega)
   have om12:=outx.above (h':=m11.set m1.length (.cells Zac [.slice G0x j0x E0x H0x,.slice G1x j1x E1x H1x] false)) (fun j hj hjl=>Zbn (by omega))
   exact fin _ _ xm12 Cm12 (om12.rep le0x le1x)
 ·
  generalize hm13:kc ++ [Zbv.cells Zac [.slice none 0 0 true,.slice none 0 0 true] false]=m13
  have sm13:Zbb kc.length kc m13:=by rw [← hm13]; exact Zan
  have lm13:m13.length=kc.length + 1:=by rw [← hm13]; simp
  have zm13:m13[kc.length]?=some (.cells Zac [.slice none 0 0 true,.slice none 0 0 true] false):=by rw [← hm13]; simp
  have Cm13:=Ckc.cat sm13
  have qm13:=sm13.le
  refine ⟨by first | (rw [eqi _ Cm13]; done) | (rw [eqw _ Cm13]; done) | rw [eqi _ Cm13,eqi _ Ckc] | rw [eqw _ Cm13,eqw _ Ckc],by first | (rw [eqi _ Cm13]; done) | (rw [eqw _ Cm13]; done) | rw [eqi _ Cm13,eqi _ Ckc] | rw [eqw _ Cm13,eqw _ Ckc],?_⟩
  refine (Zjh (r.same (SC.cat Cm13)) b).mono ?_
  rintro v m14 ⟨P0,Q0,I0,P1,Q1,I1,Zs,rfl,hQ0,hQ1,sm14,Wm14⟩
  simp only [Zcj,Zah,Zal,Zae,Zaj]
  have Cm14:=Cm13.cat sm14
  have qm14:=sm14.le
  have zm14:=sm14.get zm13 (Own.lt zm13)
  refine ⟨by first | (rw [eqi _ Cm14]; done) | (rw [eqw _ Cm14]; done) | rw [eqi _ Cm14,eqi _ Cm13] | rw [eqw _ Cm14,eqw _ Cm13],?_⟩
  refine (Zee (i:=i) (ri.same' (SC.cat Cm14)) hni).mono ?_
  rintro v m15 ⟨A0,A1,A2,rfl,sm15,Xm15,hX⟩
  simp only [Zcj,Zah,Zal,Zae,Zaj]
  have Cm15:=Cm14.cat sm15
  have qm15:=sm15.le
  have zm15:=sm15.get zm14 (Own.lt zm14)
  refine ⟨by first | (rw [eqi _ Cm15]; done) | (rw [eqw _ Cm15]; done) | rw [eqi _ Cm15,eqi _ Cm14] | rw [eqw _ Cm15,eqw _ Cm14],?_⟩
  have WW:=(Wm14).same sm15
  refine (Zfz (i:=i) (WW.rep hQ0 hQ1) WW.nns b bi WW.nc ((Xm15).row Zdg) hX hni).mono ?_
  rintro v m16 ⟨sm16,G0x,j0x,E0x,H0x,G1x,j1x,E1x,H1x,ysx,rfl,outx,le0x,le1x⟩
  simp only [Zgi,Zcj,Zah,Zal,Zae,Zau]
  have Cm16:=Cm15.cat sm16
  have qm16:=sm16.le
  have zm16:=sm16.get zm15 (Own.lt zm15)
  refine ⟨by first | (rw [eqi _ Cm16]; done) | (rw [eqw _ Cm16]; done) | rw [eqi _ Cm16,eqi _ Cm15] | rw [eqw _ Cm16,eqw _ Cm15],by first | (rw [eqi _ Cm16]; done) | (rw [eqw _ Cm16]; done) | rw [eqi _ Cm16,eqi _ Cm15] | rw [eqw _ Cm16,eqw _ Cm15],?_⟩
  rw [Zay zm16 (by simp)]
  simp only [Zam,Zbj,List.take_zero,List.length_cons,List.length_nil,List.drop_succ_cons,List.drop_zero,List.drop_nil,List.cons_append,List.nil_append,List.append_nil,Nat.zero_add]
  have xm17:=Zbm zm16 (x:=.cells Zac [.slice G0x j0x E0x H0x,.slice G1x j1x E1x H1x] false)
  have Cm17:Zbb kc.length kc (m16.set kc.length (.cells Zac [.slice G0x j0x E0x H0x,.slice G1x j1x E1x H1x] false)):=Cm16.set' (by omega)
  have om17:=outx.above (h':=m16.set kc.length (.cells Zac [.slice G0x j0x E0x H0x,.slice G1x j1x E1x H1x] false)) (fun j hj hjl=>Zbn (by omega))
  exact fin _ _ xm17 Cm17 (om17.rep le0x le1x)
end Go.Sim

set_option linter.unusedVariables false
set_option linter.unusedSimpArgs false
set_option maxRecDepth 20000
namespace Go.Sim
open Go Go.RowKit

theorem Yjf {h G:Zab} {a0 a1 ai G0 G1 B0 B1 p0 p1 pi:Pt} {n0 c0 n1 c1 ni ci ii i8 i9 i10 i6 bB H bX HX bO j0 j1 E0 E1 m0 D0 m1 D1 q0 q1 ti:Nat} {e0 e1 ei H0 H1 F0 F1 t0 t1 ui:Bool} {w:Wd} {i:Ins} {ys zs:List EI} (r:Zip h a0 n0 c0 a1 n1 c1 w) (b:WB w) (bi:WB1 (wiW w i)) (ri:Row h.length h ai (ni * 2) (Zdf eP i.2)) (hni:ni≤1048576)
  (S:Zbb h.length h G) (hb:h.length < bB) (hbi:ii < bB) (h6b:i6 < bB) (hBH:bB≤H) (hH8:H≤i8) (h8X:i8 < bX) (hXX:bX≤HX) (hX9:HX≤i9) (h9O:i9 < bO) (hO10:bO≤i10) (hOG:bO≤G.length)
  (xw:G[h.length]?=some (.cells Zcz [.slice a0 n0 c0 e0,.slice a1 n1 c1 e1] false)) (xi:G[ii]?=some (.cells Zce [.str i.1.1,.str i.1.2,.slice ai ni ci ei] false))
  (x8:G[i8]?=some (.cells Zac [.slice p0 n0 q0 t0,.slice p1 n1 q1 t1] false)) (W:Zfw bB G p0 n0 p1 n1 zs w) (hq0:n0≤q0) (hq1:n1≤q1) (Wb:Yjo H p0 n0 p1 n1 zs)
  (x9:G[i9]?=some (.cells Zaa [.str i.1.1,.str i.1.2,.slice pi ni ti ui] false)) (X:Zcd Zap eP bX G pi ni i.2) (hXl:∀ j,pi=some (j,0)→ni≠0→j < HX)
  (x10:G[i10]?=some (.cells Zac [.slice G0 j0 E0 H0,.slice G1 j1 E1 H1] false)) (x6:G[i6]?=some (.cells Zac [.slice B0 m0 D0 F0,.slice B1 m1 D1 F1] false))
  (out:Zsc bO G G0 j0 G1 j1 ys (wiR w i)) (le0:j0≤E0) (le1:j1≤E1) (R3:∀ G',Zbb bB G G'→Zip G' B0 m0 D0 B1 m1 D1 (wiR w i)) :
  Zbu.J14 (fun v _=>v=.bool true) i8 0 h.length 0 i9 0 ii 0 i10 0 i6 0 (Zrm w i) (Zrm w i) G:=by
 have bR:=Zyr bi
 apply Zbu.J14i
 rw [Zck x8,Zck xw]
 simp only [Zar,Zah,Zal,Zae,true_and]
 refine (Zjh (r.same S) b).mono ?_
 rintro v k1 ⟨u0,v0,i0,u1,v1,i1,ts,rfl,hv0,hv1,s1,W1⟩
 simp only [Zcj,Zah,Zal,Zae]
 refine ⟨by rw [Zck (s1.get x8 (Own.lt x8))],?_⟩
 refine (Zmy ((W.same s1).rep hq0 hq1) (W1.rep hv0 hv1) b).mono ?_
 rintro v k2 ⟨rfl,s2⟩
 simp only [Zau,Bool.not_true,Zbr]
 have c2:=s1.cat s2
 have x92:=c2.get x9 (Own.lt x9)
 have xi2:=c2.get xi (Own.lt xi)
 rw [Zdt x92,Zdt xi2]
 simp only [Zar,Zah,Zal,Zae,Zaj,true_and]
 refine (Zee (i:=i) (ri.same' (S.cat c2)) hni).mono ?_
 rintro v k3 ⟨A0,A1,A2,rfl,s3,X3,_⟩
 simp only [Zcj,Zah,Zal,Zae,Zaj]
 have c3:=c2.cat s3
 refine ⟨by rw [Zdt (c3.get x9 (Own.lt x9))],?_⟩
 refine (Zol (i:=i) ((X.same c3).row Zdg) (X3.row Zdg) hni).mono ?_
 rintro v k4 ⟨rfl,s4⟩
 simp only [Zau,Bool.not_true,Zbr]
 have c4:=c3.cat s4
 have l4:=c4.le
 rw [Zck (c4.get x8 (Own.lt x8))]
 simp only [Zar,Zah,Zal,Zae]
 refine (Zuz (W.same c4) b (H:=H) Wb (by omega) (k:=1) (by omega)).mono ?_
 rintro v m5 ⟨⟨zm,rfl,hm0,hm1⟩,M5⟩
 have l5:=M5.1
 have g5:∀ {j:Nat} {x:Zbv},G[j]?=some x→(j < bB ∨ H≤j)→m5[j]?=some x:=fun {j x} hj ho=>by rw [M5.2 j (by have:=Own.lt hj; omega) ho]; exact c4.get hj (Own.lt hj)
 have x95:=g5 x9 (.inr (by omega))
 simp only [Zbg]
 rw [Zdt x95]
 simp only [Zar,Zah,Zal,Zae,Zaj]
 have X5:Zcd Zap eP bX m5 pi ni i.2:=(X.same c4).keep (Nat.le_refl _) fun j hj hjl=>M5.2 j hjl (.inr (by omega))
 refine (Zrc X5 (by omega)).mono ?_
 rintro v m6 ⟨rfl,l6,o6⟩
 have g6:∀ j,j < m5.length→(j < bX ∨ HX≤j)→m6[j]?=m5[j]?:=fun j hj ho=>o6 j hj fun q hq hn=>by
  have h1:=hXl q hq hn
  rcases X.2 with hz | ⟨j',ha',hb',_⟩
  ·exact absurd hz hn
  ·rw [hq] at ha'; cases ha'; omega
 simp only [Zbg]
 refine Zaq (fun hneg=>by omega) (fun _=>?_)
 have gg:∀ {j:Nat} {x:Zbv},G[j]?=some x→(j < bB ∨ HX≤j)→m6[j]?=some x:=fun {j x} hj ho=>by
  have h1:=g5 hj (by omega)
  rw [g6 j (Own.lt h1) (by omega)]; exact h1
 have x106:=gg x10 (.inr (by omega))
 have x66:=gg x6 (.inl h6b)
 rw [Zck x106,Zck x66]
 simp only [Zar,Zah,Zal,Zae]
 have out6:Zsc bO m6 G0 j0 G1 j1 ys (wiR w i):=out.above fun j hj hjl=>by rw [g6 j (by omega) (.inr (by omega)),M5.2 j (by omega) (.inr (by omega)),c4.eq j hjl]
 have T6:Zbb bB G m6:=⟨by omega,fun j hj=>by rw [g6 j (by omega) (.inl (by omega)),M5.2 j (by omega) (.inl hj),c4.eq j (by omega)]⟩
 refine (Zmy (out6.rep le0 le1) (R3 _ T6) bR).mono ?_
 rintro v k7 ⟨rfl,s7⟩
 simp only [Zau,Bool.not_true,Zbr,beq_self_eq_true]
 have l7:=s7.le
 have T7:Zbb bB G k7:=⟨by omega,fun j hj=>by rw [s7.eq j (by omega)]; exact T6.eq j hj⟩
 have xw7:k7[h.length]?=some (.cells Zcz [.slice a0 n0 c0 e0,.slice a1 n1 c1 e1] false):=by rw [T7.eq _ hb]; exact xw
 have xi7:k7[ii]?=some (.cells Zce [.str i.1.1,.str i.1.2,.slice ai ni ci ei] false):=by rw [T7.eq _ hbi]; exact xi
 exact Yhw (bO:=bO) r b bi ri hni ⟨by have:=S.le; omega,fun j hj=>by rw [T7.eq j (by omega)]; exact S.eq j hj⟩ (by omega) (by omega) (by omega) xw7 xi7 (s7.get x106 (Own.lt x106)) (s7.get x66 (Own.lt x66)) (out6.same s7) (fun G' s=>R3 G' ⟨by have:=s.le; omega,fun j hj=>by rw [s.eq j (by omega)]; exact T7.eq j hj⟩)
end Go.Sim

set_option linter.unusedVariables false
set_option linter.unusedSimpArgs false
set_option maxRecDepth 20000
set_option maxHeartbeats 2000000
namespace Go.Sim
open Go Go.RowKit
theorem Zxz {h E:Zab} {a0 a1 ai B0 B1:Pt} {n0 c0 n1 c1 ni ci ii z m0 D0 m1 D1:Nat} {e0 e1 ei F0 F1:Bool} {w:Wd} {i:Ins} (r:Zip h a0 n0 c0 a1 n1 c1 w) (b:WB w) (bi:WB1 (wiW w i)) (ri:Row h.length h ai (ni * 2) (Zdf eP i.2)) (hni:ni≤1048576)
  (S:Zbb h.length h E) (xw:E[h.length]?=some (.cells Zcz [.slice a0 n0 c0 e0,.slice a1 n1 c1 e1] false)) (xi:E[ii]?=some (.cells Zce [.str i.1.1,.str i.1.2,.slice ai ni ci ei] false))
  (x6:E[z]?=some (.cells Zac [.slice B0 m0 D0 F0,.slice B1 m1 D1 F1] false)) (R3:∀ G',Zbb E.length E G'→Zip G' B0 m0 D0 B1 m1 D1 (wiR w i)) :
  Zca (Zax E (.ptr (some (List.length h,0))) 2) fun cs_113=>Zad cs_113 fun c_114 r_115=>xSl (some c_114) fun a_116 n_117 c_118 e_119=>Zad r_115 fun c_120 r_121=>xSl (some c_120) fun a_122 n_123 c_124 e_125=>Zbq r_121 (Zag pg Zde [.agg [.slice a_116 n_117 c_118 e_119,.slice a_122 n_123 c_124 e_125]] E fun v_126 h_127=>
   Zim v_126 fun cs_128=>Zad cs_128 fun c_129 r_130=>xSl (some c_129) fun a_131 n_132 c_133 e_134=>Zad r_130 fun c_135 r_136=>xSl (some c_135) fun a_137 n_138 c_139 e_140=>Zbq r_136 (Zdd (h_127 ++ [.cells Zac [.slice none 0 0 true,.slice none 0 0 true] false]) fun h_141=>Zbk (Zaw h_141 (.ptr (some (List.length h_127,0))) [.slice a_131 n_132 c_133 e_134,.slice a_137 n_138 c_139 e_140]) fun h_142=>Zca (Zax h_142 (.ptr (some (ii,0))) 3) fun cs_143=>Zad cs_143 fun c_144 r_145=>Zbt (some c_144) fun s_146=>Zad r_145 fun c_147 r_148=>Zbt (some c_147) fun s_149=>Zad r_148 fun c_150 r_151=>xSl (some c_150) fun a_152 n_153 c_154 e_155=>Zbq r_151 (Zag pg Zby [.agg [.str s_146,.str s_149,.slice a_152 n_153 c_154 e_155]] h_142 fun v_156 h_157=>
   Zim v_156 fun cs_158=>Zad cs_158 fun c_159 r_160=>Zbt (some c_159) fun s_161=>Zad r_160 fun c_162 r_163=>Zbt (some c_162) fun s_164=>Zad r_163 fun c_165 r_166=>xSl (some c_165) fun a_167 n_168 c_169 e_170=>Zbq r_166 (Zdd (h_157 ++ [.cells Zaa [.str [],.str [],.slice none 0 0 true] false]) fun h_171=>Zbk (Zaw h_171 (.ptr (some (List.length h_157,0))) [.str s_161,.str s_164,.slice a_167 n_168 c_169 e_170]) fun h_172=>Zca (Zax h_172 (.ptr (some (List.length h_127,0))) 2) fun cs_173=>Zad cs_173 fun c_174 r_175=>xSl (some c_174) fun a_176 n_177 c_178 e_179=>Zad r_175 fun c_180 r_181=>xSl (some c_180) fun a_182 n_183 c_184 e_185=>Zbq r_181 (Zca (Zax h_172 (.ptr (some (List.length h_157,0))) 3) fun cs_186=>Zad cs_186 fun c_187 r_188=>Zbt (some c_187) fun s_189=>Zad r_188 fun c_190 r_191=>Zbt (some c_190) fun s_192=>Zad r_191 fun c_193 r_194=>xSl (some c_193) fun a_195 n_196 c_197 e_198=>Zbq r_194 (Zag pg Zch [.agg [.slice a_176 n_177 c_178 e_179,.slice a_182 n_183 c_184 e_185],.agg [.str s_189,.str s_192,.slice a_195 n_196 c_197 e_198]] h_172 fun v_199 h_200=>
   Zqb v_199 fun cs_201=>Zad cs_201 fun c_202 r_203=>Zim c_202 fun cs_204=>Zad cs_204 fun c_205 r_206=>xSl (some c_205) fun a_207 n_208 c_209 e_210=>Zad r_206 fun c_211 r_212=>xSl (some c_211) fun a_213 n_214 c_215 e_216=>Zbq r_212 (Zad r_203 fun c_217 r_218=>Zbw (some c_217) fun b_219=>Zbq r_218 (Zdd (h_200 ++ [.cells Zac [.slice none 0 0 true,.slice none 0 0 true] false]) fun h_220=>Zbk (Zaw h_220 (.ptr (some (List.length h_200,0))) [.slice a_207 n_208 c_209 e_210,.slice a_213 n_214 c_215 e_216]) fun h_221=>Zca (Zax h_221 (.ptr (some (List.length h_200,0))) 2) fun cs_222=>Zad cs_222 fun c_223 r_224=>xSl (some c_223) fun a_225 n_226 c_227 e_228=>Zad r_224 fun c_229 r_230=>xSl (some c_229) fun a_231 n_232 c_233 e_234=>Zbq r_230 (Zca (Zax h_221 (.ptr (some (z,0))) 2) fun cs_235=>Zad cs_235 fun c_236 r_237=>xSl (some c_236) fun a_238 n_239 c_240 e_241=>Zad r_237 fun c_242 r_243=>xSl (some c_242) fun a_244 n_245 c_246 e_247=>Zbq r_243 (Zag pg Zcv [.agg [.slice a_225 n_226 c_227 e_228,.slice a_231 n_232 c_233 e_234],.agg [.slice a_238 n_239 c_240 e_241,.slice a_244 n_245 c_246 e_247]] h_221 fun v_248 h_249=>
   Zbw (some v_248) fun b_250=>bcase (!b_250) ((fun v _=>v=Zai.bool true) (.bool false) h_249) (bcase (!(b_219 == (Zrm w i))) ((fun v _=>v=Zai.bool true) (.bool false) h_249) (Zbu.J14 (fun v _=>v=.bool true) (List.length h_127) 0 (List.length h) 0 (List.length h_157) 0 (ii) 0 (List.length h_200) 0 (z) 0 b_219 (Zrm w i) h_249)))))))))))):=by
 have bR:=Zyr bi
 simp only [Zbh]
 rw [Zck xw]
 simp only [Zar,Zah,Zal,Zae]
 refine (Zjh (r.same S) b).mono ?_
 rintro v k4 ⟨p0,q0,t0,p1,q1,t1,zs,rfl,hq0,hq1,s4,W4⟩
 simp only [Zcj,Zah,Zal,Zae]
 have l4:=s4.le
 rw [Znm]
 simp only [Zam]
 generalize hC:k4 ++ [Zbv.cells Zac [.slice p0 n0 q0 t0,.slice p1 n1 q1 t1] false]=C
 have sC:Zbb k4.length k4 C:=by rw [← hC]; exact Zan
 have lC:C.length=k4.length + 1:=by rw [← hC]; simp
 have x8C:C[k4.length]?=some (.cells Zac [.slice p0 n0 q0 t0,.slice p1 n1 q1 t1] false):=by rw [← hC]; simp
 have SEC:=s4.cat sC
 have SC:=S.cat SEC
 have xiC:=SEC.get xi (Own.lt xi)
 rw [Zdt xiC]
 simp only [Zar,Zah,Zal,Zae,Zaj]
 refine (Zee (i:=i) (ri.same' SC) hni).mono ?_
 rintro v k5 ⟨pi,ti,ui,rfl,s5,X5,hX⟩
 simp only [Zcj,Zah,Zal,Zae,Zaj]
 have l5:=s5.le
 rw [Zym]
 simp only [Zam]
 generalize hD:k5 ++ [Zbv.cells Zaa [.str i.1.1,.str i.1.2,.slice pi ni ti ui] false]=D
 have sD:Zbb k5.length k5 D:=by rw [← hD]; exact Zan
 have lD:D.length=k5.length + 1:=by rw [← hD]; simp
 have x9D:D[k5.length]?=some (.cells Zaa [.str i.1.1,.str i.1.2,.slice pi ni ti ui] false):=by rw [← hD]; simp
 have SCD:=s5.cat sD
 have x8D:=SCD.get x8C (Own.lt x8C)
 rw [Zck x8D,Zdt x9D]
 simp only [Zar,Zah,Zal,Zae,Zaj]
 have WD:=(W4.same sC).same SCD
 have XD:=X5.same sD
 refine (Zfz (i:=i) (WD.rep hq0 hq1) WD.nns b bi WD.nc (XD.row Zdg) hX hni).mono ?_
 rintro v k6 ⟨s6,G0,j0,E0,H0,G1,j1,E1,H1,ys,rfl,out,le0,le1⟩
 simp only [Zgi,Zcj,Zah,Zal,Zae,Zau]
 have l6:=s6.le
 rw [Znm]
 simp only [Zam]
 generalize hF:k6 ++ [Zbv.cells Zac [.slice G0 j0 E0 H0,.slice G1 j1 E1 H1] false]=F
 have sF:Zbb k6.length k6 F:=by rw [← hF]; exact Zan
 have x10F:F[k6.length]?=some (.cells Zac [.slice G0 j0 E0 H0,.slice G1 j1 E1 H1] false):=by rw [← hF]; simp
 have SDF:=s6.cat sF
 have SEF:=(SEC.cat SCD).cat SDF
 have x6F:=SEF.get x6 (Own.lt x6)
 rw [Zck x10F,Zck x6F]
 simp only [Zar,Zah,Zal,Zae]
 refine (Zmy ((out.same sF).rep le0 le1) (R3 F SEF) bR).mono ?_
 rintro v k7 ⟨rfl,s7⟩
 simp only [Zau,Bool.not_true,Zbr,beq_self_eq_true]
 have SE7:=SEF.cat s7
 have l7:=s7.le
 have lF:=sF.le
 have S7:=S.cat SE7
 have hwl:=Own.lt xw
 have hil:=Own.lt xi
 have hzl:=Own.lt x6
 have hXl:∀ j,pi=some (j,0)→ni≠0→j < k5.length:=fun j hj hn=>(X5.in j hj hn).2
 have S57:=SDF.cat s7
 exact Yjf (bB:=E.length) (H:=k4.length) (bX:=C.length) (HX:=k5.length) (bO:=D.length) r b bi ri hni S7 (by omega) (by omega) (by omega) (by omega) (Nat.le_refl _) (by omega) (by omega) (Nat.le_refl _) (by omega) (by omega) (by omega)
  (SE7.get xw hwl) (SE7.get xi hil) (S57.get x8D (Own.lt x8D)) (WD.same S57) hq0 hq1 ⟨W4.bel.cls,W4.bel.ins,W4.bel.need⟩ (S57.get x9D (Own.lt x9D)) (XD.same S57) hXl (s7.get x10F (Own.lt x10F)) (SE7.get x6 hzl) ((out.same sF).same s7) le0 le1 (fun G' s=>R3 G' (SE7.trans s))
theorem Yei {l:List Nd} {p:Nd} (hp:p∈l):p.1.length + p.2.length≤Zua l:=by
 obtain ⟨k,hk,rfl⟩:=List.mem_iff_getElem.1 hp; exact Ztc hk
theorem lawWithInstance {h:Zab} {a0 a1:Pt} {n0 c0 n1 c1:Nat} {e0 e1:Bool} {w:Wd} {x:EI} {i:Ins} (r:Zip h a0 n0 c0 a1 n1 c1 w) (hb:Yix w) (hi:Yfn h x i) (hp:Yeq i.1) (hn:Zpt i.2.length) (hl:∀ p∈i.2,Yeq p) :
  Zag pg Zgj [.agg [.slice a0 n0 c0 e0,.slice a1 n1 c1 e1],.agg (eN x)] h fun v _=>v=.bool true:=by
 obtain ⟨xc,xt,ai,ni,ci,ei⟩:=x
 obtain ⟨h1,h2,ri⟩:=hi
 simp only at h1 h2 ri
 subst h1 h2
 have hil:i.2.length=ni:=by have:=ri.1; rw [Zbl Zdg] at this; omega
 unfold eN
 apply Zbu.call
 simp only [Zbh]
 generalize hA:h ++ [Zbv.cells Zcz [.slice a0 n0 c0 e0,.slice a1 n1 c1 e1] false]=A
 have sA:Zbb h.length h A:=by rw [← hA]; exact Zan
 have xwA:A[h.length]?=some (.cells Zcz [.slice a0 n0 c0 e0,.slice a1 n1 c1 e1] false):=by rw [← hA]; simp
 generalize hB:A ++ [Zbv.cells Zce [.str i.1.1,.str i.1.2,.slice ai ni ci ei] false]=B
 have sB:Zbb A.length A B:=by rw [← hB]; exact Zan
 have xwB:=sB.get xwA (Own.lt xwA)
 have xiB:B[A.length]?=some (.cells Zce [.str i.1.1,.str i.1.2,.slice ai ni ci ei] false):=by rw [← hB]; simp
 have SB:=sA.cat sB
 rw [Zck xwB]
 simp only [Zar,Zah,Zal,Zae]
 refine (Zyz (r.same SB) hb (x:=1048576) (by omega)).mono ?_
 rintro v k1 ⟨y,rfl,s1,hy⟩
 simp only [Zbg]
 refine Zaq (fun _=>by trivial) (fun hge=>?_)
 have hyy:=hy (by omega)
 have b:WB w:=.of hb (by omega)
 have S1:=SB.cat s1
 have xw1:=s1.get xwB (Own.lt xwB)
 have xi1:=s1.get xiB (Own.lt xiB)
 rw [Zdt xi1]
 simp only [Zar,Zah,Zal,Zae,Zaj]
 refine (Zop (i:=i) (ri.same' S1) ⟨hp.1,hp.2.1,hn,fun p hp'=>⟨(hl p hp').1,(hl p hp').2.1⟩⟩ (x:=y) (by omega)).mono ?_
 rintro v kc ⟨y2,rfl,sc,hy2⟩
 simp only [Zbg]
 refine Zaq (fun _=>by trivial) (fun hge2=>?_)
 have hyy2:=hy2 (by omega)
 have SC:=S1.cat sc
 have xwc:=sc.get xw1 (Own.lt xw1)
 have xic:=sc.get xi1 (Own.lt xi1)
 unfold isz at hyy2
 unfold wsz at hyy
 have hcs:1≤w.cs.length ∨ True:=.inr trivial
 have hni:ni≤1048576:=by omega
 have Ckc:Zbb kc.length kc kc:=Zbb.refl _ _
 have eqi:∀ G',Zbb kc.length kc G'→Zax G' (.ptr (some (A.length,0))) 3=some [.str i.1.1,.str i.1.2,.slice ai ni ci ei]:=fun G' s=>Zdt (s.get xic (Own.lt xic))
 have eqw:∀ G',Zbb kc.length kc G'→Zax G' (.ptr (some (h.length,0))) 2=some [.slice a0 n0 c0 e0,.slice a1 n1 c1 e1]:=fun G' s=>Zck (s.get xwc (Own.lt xwc))
 rw [Zck xwc,Zdt xic]
 simp only [Zar,Zah,Zal,Zae,Zaj]
 have hlc:=Own.lt xic
 have hlw:=Own.lt xwc
 have bi:WB1 (wiW w i):=Ykd b ⟨by omega,by omega,by omega,fun p hp'=>by have:=Yei hp'; omega⟩
 refine ⟨?_,?_⟩
 ·
  refine (Zjh (r.same (SC.cat Ckc)) b).mono ?_
  rintro v u1 ⟨P0,Q0,I0,P1,Q1,I1,Zs,rfl,hQ0,hQ1,su1,Wu1⟩
  simp only [Zcj,Zah,Zal,Zae,Zaj]
  have Cu1:=Ckc.cat su1
  have qu1:=su1.le
  refine ⟨by first | (rw [eqi _ Cu1]; done) | (rw [eqw _ Cu1]; done) | rw [eqi _ Cu1,eqi _ Ckc] | rw [eqw _ Cu1,eqw _ Ckc],?_⟩
  refine ⟨?_,?_⟩
  ·
   refine (Zee (i:=i) (ri.same' (SC.cat Cu1)) hni).mono ?_
   rintro v u2 ⟨A0,A1,A2,rfl,su2,Xu2,hX⟩
   simp only [Zcj,Zah,Zal,Zae,Zaj]
   have Cu2:=Cu1.cat su2
   have qu2:=su2.le
   refine ⟨by first | (rw [eqi _ Cu2]; done) | (rw [eqw _ Cu2]; done) | rw [eqi _ Cu2,eqi _ Cu1] | rw [eqw _ Cu2,eqw _ Cu1],?_⟩
   refine ⟨?_,?_⟩
   ·
    have WW:=(Wu1).same su2
    refine (Zgz (i:=i) (WW.rep hQ0 hQ1) b bi ((Xu2).row Zdg) hni).mono ?_
    rintro v u3 ⟨su3,B0,m0,D0,F0,B1,m1,D1,F1,ysx,rfl,outx,le0x,le1x⟩
    simp only [Zgi,Zcj,Zah,Zal,Zae,Zau]
    have Cu3:=Cu2.cat su3
    have qu3:=su3.le
    refine ⟨by first | (rw [eqi _ Cu3]; done) | (rw [eqw _ Cu3]; done) | rw [eqi _ Cu3,eqi _ Cu2] | rw [eqw _ Cu3,eqw _ Cu2],by first | (rw [eqi _ Cu3]; done) | (rw [eqw _ Cu3]; done) | rw [eqi _ Cu3,eqi _ Cu2] | rw [eqw _ Cu3,eqw _ Cu2],?_⟩
    generalize hu4:u3 ++ [Zbv.cells Zac [.slice none 0 0 true,.slice none 0 0 true] false]=u4
    have su4:Zbb u3.length u3 u4:=by rw [← hu4]; exact Zan
    have lu4:u4.length=u3.length + 1:=by rw [← hu4]; simp
    have zu4:u4[u3.length]?=some (.cells Zac [.slice none 0 0 true,.slice none 0 0 true] false):=by rw [← hu4]; simp
    have Cu4:=Cu3.cat su4
    have qu4:=su4.le
    refine ⟨by first | (rw [eqi _ Cu4]; done) | (rw [eqw _ Cu4]; done) | rw [eqi _ Cu4,eqi _ Cu3] | rw [eqw _ Cu4,eqw _ Cu3],by first | (rw [eqi _ Cu4]; done) | (rw [eqw _ Cu4]; done) | rw [eqi _ Cu4,eqi _ Cu3] | rw [eqw _ Cu4,eqw _ Cu3],?_⟩
    rw [Zay zu4 (by simp)]
    simp only [Zam,Zbj,List.take_zero,List.length_cons,List.length_nil,List.drop_succ_cons,List.drop_zero,List.drop_nil,List.cons_append,List.nil_append,List.append_nil,Nat.zero_add]
    have CX:Zbb kc.length kc (u4.set u3.length (Zbv.cells Zac [.slice B0 m0 D0 F0,.slice B1 m1 D1 F1] false)):=Cu4.set' (by omega)
    have SX:=SC.cat CX
    have RX:Zip (u4.set u3.length (Zbv.cells Zac [.slice B0 m0 D0 F0,.slice B1 m1 D1 F1] false)) B0 m0 D0 B1 m1 D1 (wiR w i):=(outx.rep le0x le1x).same (su4.set' (Nat.le_refl _))
    exact Zxz r b bi ri hni SX (CX.get xwc (Own.lt xwc)) (CX.get xic (Own.lt xic)) (Zbm zu4) (fun G' s=>RX.same s)
   ·
    generalize hu5:u2 ++ [Zbv.cells Zac [.slice none 0 0 true,.slice none 0 0 true] false]=u5
    have su5:Zbb u2.length u2 u5:=by rw [← hu5]; exact Zan
    have lu5:u5.length=u2.length + 1:=by rw [← hu5]; simp
    have zu5:u5[u2.length]?=some (.cells Zac [.slice none 0 0 true,.slice none 0 0 true] false):=by rw [← hu5]; simp
    have Cu5:=Cu2.cat su5
    have qu5:=su5.le
    refine ⟨by first | (rw [eqi _ Cu5]; done) | (rw [eqw _ Cu5]; done) | rw [eqi _ Cu5,eqi _ Cu2] | rw [eqw _ Cu5,eqw _ Cu2],by first | (rw [eqi _ Cu5]; done) | (rw [eqw _ Cu5]; done) | rw [eqi _ Cu5,eqi _ Cu2] | rw [eqw _ Cu5,eqw _ Cu2],?_⟩
    have WW:=((Wu1).same su2).same su5
    refine (Zgz (i:=i) (WW.rep hQ0 hQ1) b bi (((Xu2).same su5).row Zdg) hni).mono ?_
    rintro v u6 ⟨su6,B0,m0,D0,F0,B1,m1,D1,F1,ysx,rfl,outx,le0x,le1x⟩
    simp only [Zgi,Zcj,Zah,Zal,Zae,Zau]
    have Cu6:=Cu5.cat su6
    have qu6:=su6.le
    have zu6:=su6.get zu5 (Own.lt zu5)
    refine ⟨by first | (rw [eqi _ Cu6]; done) | (rw [eqw _ Cu6]; done) | rw [eqi _ Cu6,eqi _ Cu5] | rw [eqw _ Cu6,eqw _ Cu5],by first | (rw [eqi _ Cu6]; done) | (rw [eqw _ Cu6]; done) | rw [eqi _ Cu6,eqi _ Cu5] | rw [eqw _ Cu6,eqw _ Cu5],?_⟩
    rw [Zay zu6 (by simp)]
    simp only [Zam,Zbj,List.take_zero,List.length_cons,List.length_nil,List.drop_succ_cons,List.drop_zero,List.drop_nil,List.cons_append,List.nil_append,List.append_nil,Nat.zero_add]
    have CX:Zbb kc.length kc (u6.set u2.length (Zbv.cells Zac [.slice B0 m0 D0 F0,.slice B1 m1 D1 F1] false)):=Cu6.set' (by omega)
    have SX:=SC.cat CX
    have RX:Zip (u6.set u2.length (Zbv.cells Zac [.slice B0 m0 D0 F0,.slice B1 m1 D1 F1] false)) B0 m0 D0 B1 m1 D1 (wiR w i):=(outx.mid (lo:=u2.length) (hi:=u2.length + 1) ((Mid.refl _ _ _).set (Nat.le_refl _) (by omega)) (by omega)).rep le0x le1x
    exact Zxz r b bi ri hni SX (CX.get xwc (Own.lt xwc)) (CX.get xic (Own.lt xic)) (Zbm zu6) (fun G' s=>RX.same s)
  ·
   generalize hu7:u1 ++ [Zbv.cells Zac [.slice none 0 0 true,.slice none 0 0 true] false]=u7
   have su7:Zbb u1.length u1 u7:=by rw [← hu7]; exact Zan
   have lu7:u7.length=u1.length + 1:=by rw [← hu7]; simp
   have zu7:u7[u1.length]?=some (.cells Zac [.slice none 0 0 true,.slice none 0 0 true] false):=by rw [← hu7]; simp
   have Cu7:=Cu1.cat su7
   have qu7:=su7.le
   refine ⟨by first | (rw [eqi _ Cu7]; done) | (rw [eqw _ Cu7]; done) | rw [eqi _ Cu7,eqi _ Cu1] | rw [eqw _ Cu7,eqw _ Cu1],by first | (rw [eqi _ Cu7]; done) | (rw [eqw _ Cu7]; done) | rw [eqi _ Cu7,eqi _ Cu1] | rw [eqw _ Cu7,eqw _ Cu1],?_⟩
   refine (Zee (i:=i) (ri.same' (SC.cat Cu7)) hni).mono ?_
   rintro v u8 ⟨A0,A1,A2,rfl,su8,Xu8,hX⟩
   simp only [Zcj,Zah,Zal,Zae,Zaj]
   have Cu8:=Cu7.cat su8
   have qu8:=su8.le
   have zu8:=su8.get zu7 (Own.lt zu7)
   refine ⟨by first | (rw [eqi _ Cu8]; done) | (rw [eqw _ Cu8]; done) | rw [eqi _ Cu8,eqi _ Cu7] | rw [eqw _ Cu8,eqw _ Cu7],?_⟩
   have WW:=((Wu1).same su7).same su8
   refine (Zgz (i:=i) (WW.rep hQ0 hQ1) b bi ((Xu8).row Zdg) hni).mono ?_
   rintro v u9 ⟨su9,B0,m0,D0,F0,B1,m1,D1,F1,ysx,rfl,outx,le0x,le1x⟩
   simp only [Zgi,Zcj,Zah,Zal,Zae,Zau]
   have Cu9:=Cu8.cat su9
   have qu9:=su9.le
   have zu9:=su9.get zu8 (Own.lt zu8)
   refine ⟨by first | (rw [eqi _ Cu9]; done) | (rw [eqw _ Cu9]; done) | rw [eqi _ Cu9,eqi _ Cu8] | rw [eqw _ Cu9,eqw _ Cu8],by first | (rw [eqi _ Cu9]; done) | (rw [eqw _ Cu9]; done) | rw [eqi _ Cu9,eqi _ Cu8] | rw [eqw _ Cu9,eqw _ Cu8],?_⟩
   rw [Zay zu9 (by simp)]
   simp only [Zam,Zbj,List.take_zero,List.length_cons,List.length_nil,List.drop_succ_cons,List.drop_zero,List.drop_nil,List.cons_append,List.nil_append,List.append_nil,Nat.zero_add]
   have CX:Zbb kc.length kc (u9.set u1.length (Zbv.cells Zac [.slice B0 m0 D0 F0,.slice B1 m1 D1 F1] false)):=Cu9.set' (by omega)
   have SX:=SC.cat CX
   have RX:Zip (u9.set u1.length (Zbv.cells Zac [.slice B0 m0 D0 F0,.slice B1 m1 D1 F1] false)) B0 m0 D0 B1 m1 D1 (wiR w i):=(outx.mid (lo:=u1.length) (hi:=u1.length + 1) ((Mid.refl _ _ _).set (Nat.le_refl _) (by omega)) (by omega)).rep le0x le1x
   exact Zxz r b bi ri hni SX (CX.get xwc (Own.lt xwc)) (CX.get xic (Own.lt xic)) (Zbm zu9) (fun G' s=>RX.same s)
 ·
  generalize hu10:kc ++ [Zbv.cells Zac [.slice none 0 0 true,.slice none 0 0 true] false]=u10
  have su10:Zbb kc.length kc u10:=by rw [← hu10]; exact Zan
  have lu10:u10.length=kc.length + 1:=by rw [← hu10]; simp
  have zu10:u10[kc.length]?=some (.cells Zac [.slice none 0 0 true,.slice none 0 0 true] false):=by rw [← hu10]; simp
  have Cu10:=Ckc.cat su10
  have qu10:=su10.le
  refine ⟨by first | (rw [eqi _ Cu10]; done) | (rw [eqw _ Cu10]; done) | rw [eqi _ Cu10,eqi _ Ckc] | rw [eqw _ Cu10,eqw _ Ckc],by first | (rw [eqi _ Cu10]; done) | (rw [eqw _ Cu10]; done) | rw [eqi _ Cu10,eqi _ Ckc] | rw [eqw _ Cu10,eqw _ Ckc],?_⟩
  refine (Zjh (r.same (SC.cat Cu10)) b).mono ?_
  rintro v u11 ⟨P0,Q0,I0,P1,Q1,I1,Zs,rfl,hQ0,hQ1,su11,Wu11⟩
  simp only [Zcj,Zah,Zal,Zae,Zaj]
  have Cu11:=Cu10.cat su11
  have qu11:=su11.le
  have zu11:=su11.get zu10 (Own.lt zu10)
  refine ⟨by first | (rw [eqi _ Cu11]; done) | (rw [eqw _ Cu11]; done) | rw [eqi _ Cu11,eqi _ Cu10] | rw [eqw _ Cu11,eqw _ Cu10],?_⟩
  refine (Zee (i:=i) (ri.same' (SC.cat Cu11)) hni).mono ?_
  rintro v u12 ⟨A0,A1,A2,rfl,su12,Xu12,hX⟩
  simp only [Zcj,Zah,Zal,Zae,Zaj]
  have Cu12:=Cu11.cat su12
  have qu12:=su12.le
  have zu12:=su12.get zu11 (Own.lt zu11)
  refine ⟨by first | (rw [eqi _ Cu12]; done) | (rw [eqw _ Cu12]; done) | rw [eqi _ Cu12,eqi _ Cu11] | rw [eqw _ Cu12,eqw _ Cu11],?_⟩
  have WW:=(Wu11).same su12
  refine (Zgz (i:=i) (WW.rep hQ0 hQ1) b bi ((Xu12).row Zdg) hni).mono ?_
  rintro v u13 ⟨su13,B0,m0,D0,F0,B1,m1,D1,F1,ysx,rfl,outx,le0x,le1x⟩
  simp only [Zgi,Zcj,Zah,Zal,Zae,Zau]
  have Cu13:=Cu12.cat su13
  have qu13:=su13.le
  have zu13:=su13.get zu12 (Own.lt zu12)
  refine ⟨by first | (rw [eqi _ Cu13]; done) | (rw [eqw _ Cu13]; done) | rw [eqi _ Cu13,eqi _ Cu12] | rw [eqw _ Cu13,eqw _ Cu12],by first | (rw [eqi _ Cu13]; done) | (rw [eqw _ Cu13]; done) | rw [eqi _ Cu13,eqi _ Cu12] | rw [eqw _ Cu13,eqw _ Cu12],?_⟩
  rw [Zay zu13 (by simp)]
  simp only [Zam,Zbj,List.take_zero,List.length_cons,List.length_nil,List.drop_succ_cons,List.drop_zero,List.drop_nil,List.cons_append,List.nil_append,List.append_nil,Nat.zero_add]
  have CX:Zbb kc.length kc (u13.set kc.length (Zbv.cells Zac [.slice B0 m0 D0 F0,.slice B1 m1 D1 F1] false)):=Cu13.set' (by omega)
  have SX:=SC.cat CX
  have RX:Zip (u13.set kc.length (Zbv.cells Zac [.slice B0 m0 D0 F0,.slice B1 m1 D1 F1] false)) B0 m0 D0 B1 m1 D1 (wiR w i):=(outx.mid (lo:=kc.length) (hi:=kc.length + 1) ((Mid.refl _ _ _).set (Nat.le_refl _) (by omega)) (by omega)).rep le0x le1x
  exact Zxz r b bi ri hni SX (CX.get xwc (Own.lt xwc)) (CX.get xic (Own.lt xic)) (Zbm zu13) (fun G' s=>RX.same s)
end Go.Sim

set_option linter.unusedVariables false
namespace Go.Sim
open Go Go.RowKit
end Go.Sim
