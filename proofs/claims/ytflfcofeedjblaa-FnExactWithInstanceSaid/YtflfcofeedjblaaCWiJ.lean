/- A part of the proof of a statement of this seat: see the text that holds the theorem. No condition. -/
import Derived.Test.YtflfcofeedjblaaPTCSrch
import Derived.Test.YtflfcofeedjblaaCWiI
set_option linter.unusedVariables false
set_option linter.unusedSimpArgs false
set_option linter.all false
set_option linter.unusedVariables false
set_option linter.unusedSimpArgs false
set_option maxRecDepth 20000
namespace Go.Sim
open Go Go.RowKit

def Yiw (w:Wd) (i:Ins) (h:Zab) (v:Zai) (h':Zab):Prop:=Zbb h.length h h'∧∃ b0 m0 d0 f0 b1 m1 d1 f1,v=.tup [.agg [.slice b0 m0 d0 f0,.slice b1 m1 d1 f1],.bool (Zrm w i)]∧Zip h' b0 m0 d0 b1 m1 d1 (wiR w i)
set_option maxHeartbeats 2000000 in
theorem Yak {h:Zab} {a0 a1 ai:Pt} {n0 c0 n1 c1 ni ci:Nat} {e0 e1 ei:Bool} {w:Wd} {i:Ins} (r:Zip h a0 n0 c0 a1 n1 c1 w) (b:WB w) (bi:WB1 (wiW w i)) (ri:Row h.length h ai (ni * 2) (Zdf eP i.2)) (hni:ni≤1048576) :
  Zag pg Zev [.agg [.slice a0 n0 c0 e0,.slice a1 n1 c1 e1],.agg [.str i.1.1,.str i.1.2,.slice ai ni ci ei]] h (Yiw w i h):=by
 have hl0:=r.len0
 have hl1:=r.len1
 have hli:=b.li
 apply Zdz.call
 simp only [Zbh]
 generalize hh0:h ++ [Zbv.cells Zac [.slice a0 n0 c0 e0,.slice a1 n1 c1 e1] false]=g0
 generalize hh1:g0 ++ [Zbv.cells Zaa [.str i.1.1,.str i.1.2,.slice ai ni ci ei] false]=g1
 generalize hh2:g1 ++ [Zbv.cells Zac [.slice none 0 0 true,.slice none 0 0 true] false]=g2
 have s0:Zbb h.length h g0:=by rw [← hh0]; exact Zan
 have s1:Zbb g0.length g0 g1:=by rw [← hh1]; exact Zan
 have s2:Zbb g1.length g1 g2:=by rw [← hh2]; exact Zan
 have l0:g0.length=h.length + 1:=by rw [← hh0]; simp
 have l1:g1.length=h.length + 2:=by rw [← hh1]; simp [l0]
 have l2:g2.length=h.length + 3:=by rw [← hh2]; simp [l1]
 have w0:g0[h.length]?=some (Zna a0 n0 c0 e0 a1 n1 c1 e1):=by rw [← hh0]; simp [Zna]
 have w2:=s2.get (s1.get w0 (by omega)) (by omega)
 have x1:g1[g0.length]?=some (.cells Zaa [.str i.1.1,.str i.1.2,.slice ai ni ci ei] false):=by rw [← hh1]; simp
 have x2:=s2.get x1 (by omega)
 have z2:g2[g1.length]?=some (.cells Zac [.slice none 0 0 true,.slice none 0 0 true] false):=by rw [← hh2]; simp
 have S2:=(s0.cat s1).cat s2
 rw [Yca w2]
 simp only [Zar,Zah,Zal,Zae]
 refine (Zqi (r.same S2) b).mono ?_
 rintro v g3 ⟨p0,d0,f0,p1,d1,f1,ys,rfl,s3,F3,hd0,hd1,_,_⟩
 have l3:=s3.le
 have w3:=s3.get w2 (by omega)
 have x3:=s3.get x2 (by omega)
 have z3':=s3.get z2 (by omega)
 unfold Zna at w3
 simp only [Zcj,Zah,Zal,Zae]
 rw [Zay w3 (by simp)]
 simp only [Zam,Zbj,List.take_zero,List.length_cons,List.length_nil,List.drop_succ_cons,List.drop_zero,List.drop_nil,List.cons_append,List.nil_append,List.append_nil,Nat.zero_add]
 generalize hh4:g3.set h.length (Zbv.cells Zac [.slice p0 n0 d0 f0,.slice p1 n1 d1 f1] false)=g4
 have l4:g4.length=g3.length:=by rw [← hh4]; simp
 have w4:g4[h.length]?=some (Zna p0 n0 d0 f0 p1 n1 d1 f1):=by rw [← hh4]; exact Zbm w3
 have x4:g4[g0.length]?=some (.cells Zaa [.str i.1.1,.str i.1.2,.slice ai ni ci ei] false):=by rw [← hh4,Zbn (by omega)]; exact x3
 have z4:g4[g1.length]?=some (.cells Zac [.slice none 0 0 true,.slice none 0 0 true] false):=by rw [← hh4,Zbn (by omega)]; exact z3'
 have S4:Zbb h.length h g4:=by rw [← hh4]; exact (S2.cat s3).set' (Nat.le_refl _)
 rw [Zdt x4]
 simp only [Zar,Zah,Zal,Zaj,Zae]
 refine (Zvr (i:=i) (ri.same' S4) hni).mono ?_
 rintro v g5 ⟨a5,c5,e5,rfl,s5,F5,_,_⟩
 have l5:=s5.le
 have w5:=s5.get w4 (by omega)
 have x5:=s5.get x4 (by omega)
 have z5:=s5.get z4 (by omega)
 simp only [Zcj,Zah,Zal,Zaj,Zae]
 rw [Zay x5 (by simp)]
 simp only [Zam,Zbj,List.take_zero,List.length_cons,List.length_nil,List.drop_succ_cons,List.drop_zero,List.drop_nil,List.cons_append,List.nil_append,List.append_nil,Nat.zero_add]
 generalize hh6:g5.set g0.length (Zbv.cells Zaa [.str i.1.1,.str i.1.2,.slice a5 ni c5 e5] false)=g6
 have l6:g6.length=g5.length:=by rw [← hh6]; simp
 have k6:∀ j,g2.length≤j→g6[j]?=g5[j]?:=fun j hj=>by rw [← hh6,Zbn (by omega)]
 have w6:g6[h.length]?=some (Zna p0 n0 d0 f0 p1 n1 d1 f1):=by rw [← hh6,Zbn (by omega)]; exact w5
 have x6:g6[g0.length]?=some (.cells Zaa [.str i.1.1,.str i.1.2,.slice a5 ni c5 e5] false):=by rw [← hh6]; exact Zbm x5
 have z6:g6[g1.length]?=some (.cells Zac [.slice none 0 0 true,.slice none 0 0 true] false):=by rw [← hh6,Zbn (by omega)]; exact z5
 have S6:Zbb h.length h g6:=by rw [← hh6]; exact (S4.cat s5).set' (by omega)
 have K46:∀ j,g2.length≤j→j < g3.length→g6[j]?=g3[j]?:=fun j h1 h2=>by rw [k6 j h1,s5.eq j (by omega),← hh4,Zbn (by omega)]
 have F6:Zfw g2.length g6 p0 n0 p1 n1 ys w:=⟨F3.cls.keep (Nat.le_refl _) K46,F3.ins.keep (Nat.le_refl _) K46,F3.len,fun k x i hx hi=>⟨(F3.need k x i hx hi).1,(F3.need k x i hx hi).2.1,(F3.need k x i hx hi).2.2.keep (Nat.le_refl _) K46⟩,F3.sep,F3.nn,F3.nc⟩
 have N6:Zcd Zap eP g2.length g6 a5 ni i.2:=F5.keep (by omega) fun j hj hjl=>k6 j (by omega)
 have hlw:h.length < g6.length:=by omega
 have hlx:g0.length < g6.length:=by omega
 have hyl:ys.length=n1:=by rw [F6.len]; exact hl1
 have hfy:(Zdf eN ys).length=n1 * 3:=by rw [Zbl Zgu,hyl]
 have hfX:Zdf eN ys ++ [.str i.1.1,.str i.1.2,.slice a5 ni c5 e5]=Zdf eN (ys ++ [⟨i.1.1,i.1.2,a5,ni,c5,e5⟩]):=by rw [Zll]; rfl
 have Sg6:Zbb g6.length g6 g6:=Zbb.refl _ _
 have qg6:=Sg6.le
 have rowx:∀ G,Zbb g6.length g6 G→rowOf G p1 (n1 * 3)=some (Zdf eN ys):=fun G sG=>((F6.ins.row Zgu).same' sG).rowOf
 have rowi:∀ {G:Zab} {j:Nat},G[j]?=some (.cells Zaa [.str i.1.1,.str i.1.2,.slice a5 ni c5 e5] false)→rowOf G (some (j,0)) (1 * 3)=some [.str i.1.1,.str i.1.2,.slice a5 ni c5 e5]:=fun {G j} hj=>by
  have rr:Row G.length G (some (j,0)) (1 * 3) [.str i.1.1,.str i.1.2,.slice a5 ni c5 e5]:=⟨rfl,.inr ⟨j,0,_,_,_,rfl,Own.lt hj,hj,by simp,rfl⟩⟩
  exact rr.rowOf
 simp only [Zln w6,Nat.zero_add,List.getElem?_cons_succ,List.getElem?_cons_zero,Zae,Zdt x6,Zar,Zah,Zal,Zaj]
 have fin:∀ (G:Zab) (z p cp:Nat) (f:Bool),Zbb g6.length g6 G→g6.length≤z→G[z]?=some (.cells Zac [.slice p0 n0 d0 f0,.slice (some (p,0)) (n1 + 1) cp f] false)→G[p]?=some (.cells Zaa (Zdf eN (ys ++ [⟨i.1.1,i.1.2,a5,ni,c5,e5⟩])) false)→g6.length≤p→n1 + 1≤cp →
   Zca (Zax G (.ptr (some (h.length,0))) 2) fun cs_98=>Zad cs_98 fun c_99 r_100=>xSl (some c_99) fun a_101 n_102 c_103 e_104=>Zad r_100 fun c_105 r_106=>xSl (some c_105) fun a_107 n_108 c_109 e_110=>Zbq r_106 (Zag pg Zav [.agg [.slice a_101 n_102 c_103 e_104,.slice a_107 n_108 c_109 e_110]] G fun v_111 h_112=>
    Zbw (some v_111) fun b_113=>bcase (!b_113) (Zbk (Zaw h_112 (.ptr (some (g1.length,0))) [.slice none 0 0 true,.slice none 0 0 true]) fun h_114=>Zca (Zax h_114 (.ptr (some (g1.length,0))) 2) fun cs_115=>Zad cs_115 fun c_116 r_117=>xSl (some c_116) fun a_118 n_119 c_120 e_121=>Zad r_117 fun c_122 r_123=>xSl (some c_122) fun a_124 n_125 c_126 e_127=>Zbq r_123 (Yiw w i h (.tup [.agg [.slice a_118 n_119 c_120 e_121,.slice a_124 n_125 c_126 e_127],.bool false]) h_114)) (Zca (Zax h_112 (.ptr (some (z,0))) 2) fun cs_128=>Zad cs_128 fun c_129 r_130=>xSl (some c_129) fun a_131 n_132 c_133 e_134=>Zad r_130 fun c_135 r_136=>xSl (some c_135) fun a_137 n_138 c_139 e_140=>Zbq r_136 (Zag pg Zav [.agg [.slice a_131 n_132 c_133 e_134,.slice a_137 n_138 c_139 e_140]] h_112 fun v_141 h_142=>
    Zbw (some v_141) fun b_143=>bcase (!b_143) (Zbk (Zaw h_142 (.ptr (some (g1.length,0))) [.slice none 0 0 true,.slice none 0 0 true]) fun h_144=>Zca (Zax h_144 (.ptr (some (g1.length,0))) 2) fun cs_145=>Zad cs_145 fun c_146 r_147=>xSl (some c_146) fun a_148 n_149 c_150 e_151=>Zad r_147 fun c_152 r_153=>xSl (some c_152) fun a_154 n_155 c_156 e_157=>Zbq r_153 (Yiw w i h (.tup [.agg [.slice a_148 n_149 c_150 e_151,.slice a_154 n_155 c_156 e_157],.bool false]) h_144)) (Zdz.J6 (Yiw w i h) z 0 g1.length 0 h_142)))):=by
  intro G z p cp f sG hz hzo hpo hp6 hcp
  have wG:=sG.get w6 hlw
  have zG:=sG.get z6 (by omega)
  have lG:=sG.le
  have SG:Zbb h.length h G:=⟨by omega,fun j hj=>by rw [sG.eq j (by omega)]; exact S6.eq j hj⟩
  have rep:∀ G',Zbb G.length G G'→∀ z9 x9,z9 < g2.length→Zip (G'.set z9 x9) p0 n0 d0 (some (p,0)) (n1 + 1) cp (wiW w i):=by
   intro G' hk z9 x9 hz9
   have kk:∀ j,g2.length≤j→j < g6.length→(G'.set z9 x9)[j]?=g6[j]?:=fun j h1 h2=>by rw [Zbn (by omega),hk.eq j (by omega),sG.eq j h2]
   have hpl:=Own.lt hpo
   have lk:=hk.le
   refine ⟨(F6.cls.keep (Nat.le_refl _) kk).row Zdg,⟨ys ++ [⟨i.1.1,i.1.2,a5,ni,c5,e5⟩],⟨by rw [Zbl Zgu]; simp [hyl],.inr ⟨p,0,_,_,_,rfl,by simp; omega,(by rw [Zbn (by omega),hk.eq p hpl]; exact hpo),by rw [Zbl Zgu]; simp [hyl],by rw [List.drop_zero,List.take_of_length_le (by rw [Zbl Zgu]; simp [hyl])]⟩⟩,by simp [wiW,F6.len],fun k x ii hx hi=>?_⟩,hd0,hcp⟩
   have hi':(w.is ++ [i])[k]?=some ii:=hi
   by_cases hk1:k < n1
   ·rw [List.getElem?_append_left (by omega)] at hx hi'
    obtain ⟨q1,q2,q3⟩:=F6.need k x ii hx hi'
    exact ⟨q1,q2,(q3.keep (Nat.le_refl _) kk).row Zdg⟩
   ·have hkg:k=n1:=by have:=(List.getElem?_eq_some_iff.1 hx).1; simp [hyl] at this; omega
    subst hkg
    rw [List.getElem?_append_right (by omega)] at hx hi'
    simp [hyl] at hx
    simp [hl1] at hi'
    subst hx; subst hi'
    exact ⟨rfl,rfl,(N6.keep (Nat.le_refl _) kk).row Zdg⟩
  have fail:∀ g,Zbb G.length G g→Zrm w i=false→Zbk (Zaw g (.ptr (some (List.length g1,0))) [.slice none 0 0 true,.slice none 0 0 true]) fun h_18=>Zca (Zax h_18 (.ptr (some (List.length g1,0))) 2) fun cs_19=>Zad cs_19 fun c_20 r_21=>xSl (some c_20) fun a_22 n_23 c_24 e_25=>Zad r_21 fun c_26 r_27=>xSl (some c_26) fun a_28 n_29 c_30 e_31=>Zbq r_27 (Yiw w i h (.tup [.agg [.slice a_22 n_23 c_24 e_25,.slice a_28 n_29 c_30 e_31],.bool false]) h_18):=by
   intro g sg hno
   have zg:=sg.get zG (Own.lt zG)
   rw [Zay zg (by simp)]
   simp only [Zam,Zbj,List.take_zero,List.length_cons,List.length_nil,List.drop_succ_cons,List.drop_zero,List.drop_nil,List.cons_append,List.nil_append,List.append_nil,Nat.zero_add]
   rw [Zck (Zbm zg)]
   simp only [Zar,Zah,Zal,Zae]
   refine ⟨(SG.cat sg).set' (by omega),none,0,0,true,none,0,0,true,by rw [hno],?_⟩
   unfold wiR; rw [hno]; exact Yiz
  rw [Yca wG]
  simp only [Zar,Zah,Zal,Zae]
  have RG:Zip G p0 n0 d0 p1 n1 d1 w:=((F6.same sG).rep hd0 hd1)
  refine (Zrs RG b).mono ?_
  rintro v ga ⟨rfl,sa⟩
  simp only [Zau]
  refine Zci (fun hw=>fail _ sa (by unfold Zrm; rw [hw]; rfl)) (fun hw=>?_)
  have ua:=sa.get hzo (Own.lt hzo)
  rw [Zck ua]
  simp only [Zar,Zah,Zal,Zae]
  have zga:=sa.get zG (Own.lt zG)
  have Ra:Zip ga p0 n0 d0 (some (p,0)) (n1 + 1) cp (wiW w i):=by
   have:=rep ga sa g1.length (Zbv.cells Zac [.slice none 0 0 true,.slice none 0 0 true] false) (by omega)
   rwa [show ga.set g1.length (Zbv.cells Zac [.slice none 0 0 true,.slice none 0 0 true] false)=ga from Zxt zga] at this
  refine (Zqo Ra bi).mono ?_
  rintro v gb ⟨rfl,sb⟩
  simp only [Zau]
  refine Zci (fun hw2=>fail _ (sa.cat sb) (by unfold Zrm; rw [hw,hw2]; rfl)) (fun hw2=>?_)
  have hok:Zrm w i=true:=by unfold Zrm; rw [hw,hw2]; rfl
  apply Zdz.J6i
  have ub:=sb.get ua (Own.lt ua)
  have zb:=sb.get zga (Own.lt zga)
  rw [Zck ub]
  simp only [Zar,Zah,Zal,Zae]
  rw [Zay zb (by simp)]
  simp only [Zam,Zbj,List.take_zero,List.length_cons,List.length_nil,List.drop_succ_cons,List.drop_zero,List.drop_nil,List.cons_append,List.nil_append,List.append_nil,Nat.zero_add]
  rw [Zck (Zbm zb)]
  simp only [Zar,Zah,Zal,Zae]
  refine ⟨((SG.cat sa).cat sb).set' (by omega),p0,n0,d0,f0,some (p,0),n1 + 1,cp,f,by rw [hok],?_⟩
  unfold wiR; rw [hok,if_pos rfl]
  exact rep gb (sa.cat sb) g1.length _ (by omega)
 have eqx:∀ G,Zbb g6.length g6 G→Zax G (.ptr (some (g0.length,0))) 3=some [.str i.1.1,.str i.1.2,.slice a5 ni c5 e5]:=fun G s=>Zdt (s.get x6 hlx)
 have eq1:∀ G,Zbb g6.length g6 G→Zaf G (.ptr (some (h.length,1)))=some (.slice p1 n1 d1 f1):=fun G s=>by rw [Zln (s.get w6 hlw)]; rfl
 have eq0:∀ G,Zbb g6.length g6 G→Zaf G (.ptr (some (h.length,0)))=some (.slice p0 n0 d0 f0):=fun G s=>by rw [Zln (s.get w6 hlw)]; rfl
 refine ⟨?_,?_,?_⟩
 ·
  generalize hk1:g6 ++ [Zbv.cells Zaa [] false]=k1
  have sk1:Zbb g6.length g6 k1:=by rw [← hk1]; exact Zan
  have lk1:k1.length=g6.length + 1:=by rw [← hk1]; simp
  have Sk1:=Sg6.cat sk1
  have qk1:=Sk1.le
  have Ek1:k1[g6.length]?=some (Zbv.cells Zaa [] false):=by rw [← hk1]; simp
  refine ⟨by first | (rw [eqx _ Sk1]; done) | (rw [eq1 _ Sk1]; done) | (rw [eq0 _ Sk1]; done) | rw [eqx _ Sk1,eqx _ Sg6] | rw [eq1 _ Sk1,eq1 _ Sg6] | rw [eq0 _ Sk1,eq0 _ Sg6],by first | (rw [eqx _ Sk1]; done) | (rw [eq1 _ Sk1]; done) | (rw [eq0 _ Sk1]; done) | rw [eqx _ Sk1,eqx _ Sg6] | rw [eq1 _ Sk1,eq1 _ Sg6] | rw [eq0 _ Sk1,eq0 _ Sg6],by first | (rw [eqx _ Sk1]; done) | (rw [eq1 _ Sk1]; done) | (rw [eq0 _ Sk1]; done) | rw [eqx _ Sk1,eqx _ Sg6] | rw [eq1 _ Sk1,eq1 _ Sg6] | rw [eq0 _ Sk1,eq0 _ Sg6],?_⟩
  refine ⟨?_,?_,?_⟩
  ·
   refine Vec.app0 (n:=0) (m:=n1) (cs:=[]) Ek1 Zdb Zes Zet Zer rfl (rowx k1 Sk1) (Zhv _) (by omega) (fun k2 lk2 ik2 tk2=>?_)
   simp only [Zae,Nat.zero_add]
   have Lk2:k2[k1.length]?=some (.cells Zaa (Zdf eN ys) false):=by rw [ik2]; simp
   have Sk2:Zbb g6.length g6 k2:=⟨by omega,fun j hj=>by rw [tk2 j (by omega) (by omega)]; exact Sk1.eq j hj⟩
   have qk2:=Sk2.le
   refine ⟨by first | (rw [eqx _ Sk2]; done) | (rw [eq1 _ Sk2]; done) | (rw [eq0 _ Sk2]; done) | rw [eqx _ Sk2,eqx _ Sk1] | rw [eq1 _ Sk2,eq1 _ Sk1] | rw [eq0 _ Sk2,eq0 _ Sk1],by first | (rw [eqx _ Sk2]; done) | (rw [eq1 _ Sk2]; done) | (rw [eq0 _ Sk2]; done) | rw [eqx _ Sk2,eqx _ Sk1] | rw [eq1 _ Sk2,eq1 _ Sk1] | rw [eq0 _ Sk2,eq0 _ Sk1],?_⟩
   refine ⟨?_,?_⟩
   ·
    generalize hk3:k2 ++ [Zbv.cells Zaa [.str i.1.1,.str i.1.2,.slice a5 ni c5 e5] false]=k3
    have sk3:Zbb k2.length k2 k3:=by rw [← hk3]; exact Zan
    have lk3:k3.length=k2.length + 1:=by rw [← hk3]; simp
    have Sk3:=Sk2.cat sk3
    have qk3:=Sk3.le
    have Lk3:=sk3.get Lk2 (Own.lt Lk2)
    have Ik3:k3[k2.length]?=some (Zbv.cells Zaa [.str i.1.1,.str i.1.2,.slice a5 ni c5 e5] false):=by rw [← hk3]; simp
    refine ⟨by first | (rw [eqx _ Sk3]; done) | (rw [eq1 _ Sk3]; done) | (rw [eq0 _ Sk3]; done) | rw [eqx _ Sk3,eqx _ Sk2] | rw [eq1 _ Sk3,eq1 _ Sk2] | rw [eq0 _ Sk3,eq0 _ Sk2],by first | (rw [eqx _ Sk3]; done) | (rw [eq1 _ Sk3]; done) | (rw [eq0 _ Sk3]; done) | rw [eqx _ Sk3,eqx _ Sk2] | rw [eq1 _ Sk3,eq1 _ Sk2] | rw [eq0 _ Sk3,eq0 _ Sk2],?_⟩
    refine ⟨?_,?_⟩
    ·
     refine Vec.app0 (n:=n1) (m:=1) Lk3 Zdb Zes Zet Zer hfy (rowi Ik3) rfl (by omega) (fun k4 lk4 ik4 tk4=>?_)
     simp only [Zae]
     have Pk4:k4[k3.length]?=some (.cells Zaa (Zdf eN (ys ++ [⟨i.1.1,i.1.2,a5,ni,c5,e5⟩])) false):=by rw [ik4,hfX]
     have Sk4:Zbb g6.length g6 k4:=⟨by omega,fun j hj=>by rw [tk4 j (by omega) (by omega)]; exact Sk3.eq j hj⟩
     have qk4:=Sk4.le
     have Ik4:=(tk4 _ (Own.lt Ik3) (by omega)).trans Ik3
     refine ⟨by first | (rw [eqx _ Sk4]; done) | (rw [eq1 _ Sk4]; done) | (rw [eq0 _ Sk4]; done) | rw [eqx _ Sk4,eqx _ Sk3] | rw [eq1 _ Sk4,eq1 _ Sk3] | rw [eq0 _ Sk4,eq0 _ Sk3],by first | (rw [eqx _ Sk4]; done) | (rw [eq1 _ Sk4]; done) | (rw [eq0 _ Sk4]; done) | rw [eqx _ Sk4,eqx _ Sk3] | rw [eq1 _ Sk4,eq1 _ Sk3] | rw [eq0 _ Sk4,eq0 _ Sk3],by first | (rw [eqx _ Sk4]; done) | (rw [eq1 _ Sk4]; done) | (rw [eq0 _ Sk4]; done) | rw [eqx _ Sk4,eqx _ Sk3] | rw [eq1 _ Sk4,eq1 _ Sk3] | rw [eq0 _ Sk4,eq0 _ Sk3],?_⟩
     generalize hk5:k4 ++ [Zbv.cells Zac [.slice none 0 0 true,.slice none 0 0 true] false]=k5
     have sk5:Zbb k4.length k4 k5:=by rw [← hk5]; exact Zan
     have lk5:k5.length=k4.length + 1:=by rw [← hk5]; simp
     have Sk5:=Sk4.cat sk5
     have qk5:=Sk5.le
     have Ik5:=sk5.get Ik4 (Own.lt Ik4)
     have Pk5:=sk5.get Pk4 (Own.lt Pk4)
     have Wk5:k5[k4.length]?=some (Zbv.cells Zac [.slice none 0 0 true,.slice none 0 0 true] false):=by rw [← hk5]; simp
     refine ⟨by first | (rw [eqx _ Sk5]; done) | (rw [eq1 _ Sk5]; done) | (rw [eq0 _ Sk5]; done) | rw [eqx _ Sk5,eqx _ Sk4] | rw [eq1 _ Sk5,eq1 _ Sk4] | rw [eq0 _ Sk5,eq0 _ Sk4],by first | (rw [eqx _ Sk5]; done) | (rw [eq1 _ Sk5]; done) | (rw [eq0 _ Sk5]; done) | rw [eqx _ Sk5,eqx _ Sk4] | rw [eq1 _ Sk5,eq1 _ Sk4] | rw [eq0 _ Sk5,eq0 _ Sk4],by first | (rw [eqx _ Sk5]; done) | (rw [eq1 _ Sk5]; done) | (rw [eq0 _ Sk5]; done) | rw [eqx _ Sk5,eqx _ Sk4] | rw [eq1 _ Sk5,eq1 _ Sk4] | rw [eq0 _ Sk5,eq0 _ Sk4],?_⟩
     rw [Zay Wk5 (by simp)]
     simp only [Zam,Zbj,List.take_zero,List.length_cons,List.length_nil,List.drop_succ_cons,List.drop_zero,List.drop_nil,List.cons_append,List.nil_append,List.append_nil,Nat.zero_add]
     exact fin _ k4.length k3.length _ _ (Sk5.set' (by omega)) (by omega) (Zbm Wk5) ((Zbn (by omega)).trans Pk5) (by omega) (Nat.le_refl _)
    ·
     generalize hk6:k3 ++ [Zbv.cells Zac [.slice none 0 0 true,.slice none 0 0 true] false]=k6
     have sk6:Zbb k3.length k3 k6:=by rw [← hk6]; exact Zan
     have lk6:k6.length=k3.length + 1:=by rw [← hk6]; simp
     have Sk6:=Sk3.cat sk6
     have qk6:=Sk6.le
     have Lk6:=sk6.get Lk3 (Own.lt Lk3)
     have Ik6:=sk6.get Ik3 (Own.lt Ik3)
     have Wk6:k6[k3.length]?=some (Zbv.cells Zac [.slice none 0 0 true,.slice none 0 0 true] false):=by rw [← hk6]; simp
     refine ⟨by first | (rw [eqx _ Sk6]; done) | (rw [eq1 _ Sk6]; done) | (rw [eq0 _ Sk6]; done) | rw [eqx _ Sk6,eqx _ Sk3] | rw [eq1 _ Sk6,eq1 _ Sk3] | rw [eq0 _ Sk6,eq0 _ Sk3],by first | (rw [eqx _ Sk6]; done) | (rw [eq1 _ Sk6]; done) | (rw [eq0 _ Sk6]; done) | rw [eqx _ Sk6,eqx _ Sk3] | rw [eq1 _ Sk6,eq1 _ Sk3] | rw [eq0 _ Sk6,eq0 _ Sk3],by first | (rw [eqx _ Sk6]; done) | (rw [eq1 _ Sk6]; done) | (rw [eq0 _ Sk6]; done) | rw [eqx _ Sk6,eqx _ Sk3] | rw [eq1 _ Sk6,eq1 _ Sk3] | rw [eq0 _ Sk6,eq0 _ Sk3],?_⟩
     refine Vec.app0 (n:=n1) (m:=1) Lk6 Zdb Zes Zet Zer hfy (rowi Ik6) rfl (by omega) (fun k7 lk7 ik7 tk7=>?_)
     simp only [Zae]
     have Pk7:k7[k6.length]?=some (.cells Zaa (Zdf eN (ys ++ [⟨i.1.1,i.1.2,a5,ni,c5,e5⟩])) false):=by rw [ik7,hfX]
     have Sk7:Zbb g6.length g6 k7:=⟨by omega,fun j hj=>by rw [tk7 j (by omega) (by omega)]; exact Sk6.eq j hj⟩
     have qk7:=Sk7.le
     have Ik7:=(tk7 _ (Own.lt Ik6) (by omega)).trans Ik6
     have Wk7:=(tk7 _ (Own.lt Wk6) (by omega)).trans Wk6
     refine ⟨by first | (rw [eqx _ Sk7]; done) | (rw [eq1 _ Sk7]; done) | (rw [eq0 _ Sk7]; done) | rw [eqx _ Sk7,eqx _ Sk6] | rw [eq1 _ Sk7,eq1 _ Sk6] | rw [eq0 _ Sk7,eq0 _ Sk6],by first | (rw [eqx _ Sk7]; done) | (rw [eq1 _ Sk7]; done) | (rw [eq0 _ Sk7]; done) | rw [eqx _ Sk7,eqx _ Sk6] | rw [eq1 _ Sk7,eq1 _ Sk6] | rw [eq0 _ Sk7,eq0 _ Sk6],by first | (rw [eqx _ Sk7]; done) | (rw [eq1 _ Sk7]; done) | (rw [eq0 _ Sk7]; done) | rw [eqx _ Sk7,eqx _ Sk6] | rw [eq1 _ Sk7,eq1 _ Sk6] | rw [eq0 _ Sk7,eq0 _ Sk6],?_⟩
     rw [Zay Wk7 (by simp)]
     simp only [Zam,Zbj,List.take_zero,List.length_cons,List.length_nil,List.drop_succ_cons,List.drop_zero,List.drop_nil,List.cons_append,List.nil_append,List.append_nil,Nat.zero_add]
     exact fin _ k3.length k6.length _ _ (Sk7.set' (by omega)) (by omega) (Zbm Wk7) ((Zbn (by omega)).trans Pk7) (by omega) (Nat.le_refl _)
   ·
    generalize hk8:k2 ++ [Zbv.cells Zac [.slice none 0 0 true,.slice none 0 0 true] false]=k8
    have sk8:Zbb k2.length k2 k8:=by rw [← hk8]; exact Zan
    have lk8:k8.length=k2.length + 1:=by rw [← hk8]; simp
    have Sk8:=Sk2.cat sk8
    have qk8:=Sk8.le
    have Lk8:=sk8.get Lk2 (Own.lt Lk2)
    have Wk8:k8[k2.length]?=some (Zbv.cells Zac [.slice none 0 0 true,.slice none 0 0 true] false):=by rw [← hk8]; simp
    refine ⟨by first | (rw [eqx _ Sk8]; done) | (rw [eq1 _ Sk8]; done) | (rw [eq0 _ Sk8]; done) | rw [eqx _ Sk8,eqx _ Sk2] | rw [eq1 _ Sk8,eq1 _ Sk2] | rw [eq0 _ Sk8,eq0 _ Sk2],by first | (rw [eqx _ Sk8]; done) | (rw [eq1 _ Sk8]; done) | (rw [eq0 _ Sk8]; done) | rw [eqx _ Sk8,eqx _ Sk2] | rw [eq1 _ Sk8,eq1 _ Sk2] | rw [eq0 _ Sk8,eq0 _ Sk2],by first | (rw [eqx _ Sk8]; done) | (rw [eq1 _ Sk8]; done) | (rw [eq0 _ Sk8]; done) | rw [eqx _ Sk8,eqx _ Sk2] | rw [eq1 _ Sk8,eq1 _ Sk2] | rw [eq0 _ Sk8,eq0 _ Sk2],?_⟩
    generalize hk9:k8 ++ [Zbv.cells Zaa [.str i.1.1,.str i.1.2,.slice a5 ni c5 e5] false]=k9
    have sk9:Zbb k8.length k8 k9:=by rw [← hk9]; exact Zan
    have lk9:k9.length=k8.length + 1:=by rw [← hk9]; simp
    have Sk9:=Sk8.cat sk9
    have qk9:=Sk9.le
    have Lk9:=sk9.get Lk8 (Own.lt Lk8)
    have Wk9:=sk9.get Wk8 (Own.lt Wk8)
    have Ik9:k9[k8.length]?=some (Zbv.cells Zaa [.str i.1.1,.str i.1.2,.slice a5 ni c5 e5] false):=by rw [← hk9]; simp
    refine ⟨by first | (rw [eqx _ Sk9]; done) | (rw [eq1 _ Sk9]; done) | (rw [eq0 _ Sk9]; done) | rw [eqx _ Sk9,eqx _ Sk8] | rw [eq1 _ Sk9,eq1 _ Sk8] | rw [eq0 _ Sk9,eq0 _ Sk8],by first | (rw [eqx _ Sk9]; done) | (rw [eq1 _ Sk9]; done) | (rw [eq0 _ Sk9]; done) | rw [eqx _ Sk9,eqx _ Sk8] | rw [eq1 _ Sk9,eq1 _ Sk8] | rw [eq0 _ Sk9,eq0 _ Sk8],?_⟩
    refine Vec.app0 (n:=n1) (m:=1) Lk9 Zdb Zes Zet Zer hfy (rowi Ik9) rfl (by omega) (fun k10 lk10 ik10 tk10=>?_)
    simp only [Zae]
    have Pk10:k10[k9.length]?=some (.cells Zaa (Zdf eN (ys ++ [⟨i.1.1,i.1.2,a5,ni,c5,e5⟩])) false):=by rw [ik10,hfX]
    have Sk10:Zbb g6.length g6 k10:=⟨by omega,fun j hj=>by rw [tk10 j (by omega) (by omega)]; exact Sk9.eq j hj⟩
    have qk10:=Sk10.le
    have Wk10:=(tk10 _ (Own.lt Wk9) (by omega)).trans Wk9
    have Ik10:=(tk10 _ (Own.lt Ik9) (by omega)).trans Ik9
    refine ⟨by first | (rw [eqx _ Sk10]; done) | (rw [eq1 _ Sk10]; done) | (rw [eq0 _ Sk10]; done) | rw [eqx _ Sk10,eqx _ Sk9] | rw [eq1 _ Sk10,eq1 _ Sk9] | rw [eq0 _ Sk10,eq0 _ Sk9],by first | (rw [eqx _ Sk10]; done) | (rw [eq1 _ Sk10]; done) | (rw [eq0 _ Sk10]; done) | rw [eqx _ Sk10,eqx _ Sk9] | rw [eq1 _ Sk10,eq1 _ Sk9] | rw [eq0 _ Sk10,eq0 _ Sk9],by first | (rw [eqx _ Sk10]; done) | (rw [eq1 _ Sk10]; done) | (rw [eq0 _ Sk10]; done) | rw [eqx _ Sk10,eqx _ Sk9] | rw [eq1 _ Sk10,eq1 _ Sk9] | rw [eq0 _ Sk10,eq0 _ Sk9],?_⟩
    rw [Zay Wk10 (by simp)]
    simp only [Zam,Zbj,List.take_zero,List.length_cons,List.length_nil,List.drop_succ_cons,List.drop_zero,List.drop_nil,List.cons_append,List.nil_append,List.append_nil,Nat.zero_add]
    exact fin _ k2.length k9.length _ _ (Sk10.set' (by omega)) (by omega) (Zbm Wk10) ((Zbn (by omega)).trans Pk10) (by omega) (Nat.le_refl _)
  ·
   generalize hk11:k1 ++ [Zbv.cells Zaa [.str i.1.1,.str i.1.2,.slice a5 ni c5 e5] false]=k11
   have sk11:Zbb k1.length k1 k11:=by rw [← hk11]; exact Zan
   have lk11:k11.length=k1.length + 1:=by rw [← hk11]; simp
   have Sk11:=Sk1.cat sk11
   have qk11:=Sk11.le
   have Ek11:=sk11.get Ek1 (Own.lt Ek1)
   have Ik11:k11[k1.length]?=some (Zbv.cells Zaa [.str i.1.1,.str i.1.2,.slice a5 ni c5 e5] false):=by rw [← hk11]; simp
   refine ⟨by first | (rw [eqx _ Sk11]; done) | (rw [eq1 _ Sk11]; done) | (rw [eq0 _ Sk11]; done) | rw [eqx _ Sk11,eqx _ Sk1] | rw [eq1 _ Sk11,eq1 _ Sk1] | rw [eq0 _ Sk11,eq0 _ Sk1],by first | (rw [eqx _ Sk11]; done) | (rw [eq1 _ Sk11]; done) | (rw [eq0 _ Sk11]; done) | rw [eqx _ Sk11,eqx _ Sk1] | rw [eq1 _ Sk11,eq1 _ Sk1] | rw [eq0 _ Sk11,eq0 _ Sk1],?_⟩
   refine ⟨?_,?_⟩
   ·
    refine Vec.app0 (n:=0) (m:=n1) (cs:=[]) Ek11 Zdb Zes Zet Zer rfl (rowx k11 Sk11) (Zhv _) (by omega) (fun k12 lk12 ik12 tk12=>?_)
    simp only [Zae,Nat.zero_add]
    have Lk12:k12[k11.length]?=some (.cells Zaa (Zdf eN ys) false):=by rw [ik12]; simp
    have Sk12:Zbb g6.length g6 k12:=⟨by omega,fun j hj=>by rw [tk12 j (by omega) (by omega)]; exact Sk11.eq j hj⟩
    have qk12:=Sk12.le
    have Ik12:=(tk12 _ (Own.lt Ik11) (by omega)).trans Ik11
    refine ⟨by first | (rw [eqx _ Sk12]; done) | (rw [eq1 _ Sk12]; done) | (rw [eq0 _ Sk12]; done) | rw [eqx _ Sk12,eqx _ Sk11] | rw [eq1 _ Sk12,eq1 _ Sk11] | rw [eq0 _ Sk12,eq0 _ Sk11],by first | (rw [eqx _ Sk12]; done) | (rw [eq1 _ Sk12]; done) | (rw [eq0 _ Sk12]; done) | rw [eqx _ Sk12,eqx _ Sk11] | rw [eq1 _ Sk12,eq1 _ Sk11] | rw [eq0 _ Sk12,eq0 _ Sk11],?_⟩
    refine ⟨?_,?_⟩
    ·
     refine Vec.app0 (n:=n1) (m:=1) Lk12 Zdb Zes Zet Zer hfy (rowi Ik12) rfl (by omega) (fun k13 lk13 ik13 tk13=>?_)
     simp only [Zae]
     have Pk13:k13[k12.length]?=some (.cells Zaa (Zdf eN (ys ++ [⟨i.1.1,i.1.2,a5,ni,c5,e5⟩])) false):=by rw [ik13,hfX]
     have Sk13:Zbb g6.length g6 k13:=⟨by omega,fun j hj=>by rw [tk13 j (by omega) (by omega)]; exact Sk12.eq j hj⟩
     have qk13:=Sk13.le
     have Ik13:=(tk13 _ (Own.lt Ik12) (by omega)).trans Ik12
     refine ⟨by first | (rw [eqx _ Sk13]; done) | (rw [eq1 _ Sk13]; done) | (rw [eq0 _ Sk13]; done) | rw [eqx _ Sk13,eqx _ Sk12] | rw [eq1 _ Sk13,eq1 _ Sk12] | rw [eq0 _ Sk13,eq0 _ Sk12],by first | (rw [eqx _ Sk13]; done) | (rw [eq1 _ Sk13]; done) | (rw [eq0 _ Sk13]; done) | rw [eqx _ Sk13,eqx _ Sk12] | rw [eq1 _ Sk13,eq1 _ Sk12] | rw [eq0 _ Sk13,eq0 _ Sk12],by first | (rw [eqx _ Sk13]; done) | (rw [eq1 _ Sk13]; done) | (rw [eq0 _ Sk13]; done) | rw [eqx _ Sk13,eqx _ Sk12] | rw [eq1 _ Sk13,eq1 _ Sk12] | rw [eq0 _ Sk13,eq0 _ Sk12],?_⟩
     generalize hk14:k13 ++ [Zbv.cells Zac [.slice none 0 0 true,.slice none 0 0 true] false]=k14
     have sk14:Zbb k13.length k13 k14:=by rw [← hk14]; exact Zan
     have lk14:k14.length=k13.length + 1:=by rw [← hk14]; simp
     have Sk14:=Sk13.cat sk14
     have qk14:=Sk14.le
     have Ik14:=sk14.get Ik13 (Own.lt Ik13)
     have Pk14:=sk14.get Pk13 (Own.lt Pk13)
     have Wk14:k14[k13.length]?=some (Zbv.cells Zac [.slice none 0 0 true,.slice none 0 0 true] false):=by rw [← hk14]; simp
     refine ⟨by first | (rw [eqx _ Sk14]; done) | (rw [eq1 _ Sk14]; done) | (rw [eq0 _ Sk14]; done) | rw [eqx _ Sk14,eqx _ Sk13] | rw [eq1 _ Sk14,eq1 _ Sk13] | rw [eq0 _ Sk14,eq0 _ Sk13],by first | (rw [eqx _ Sk14]; done) | (rw [eq1 _ Sk14]; done) | (rw [eq0 _ Sk14]; done) | rw [eqx _ Sk14,eqx _ Sk13] | rw [eq1 _ Sk14,eq1 _ Sk13] | rw [eq0 _ Sk14,eq0 _ Sk13],by first | (rw [eqx _ Sk14]; done) | (rw [eq1 _ Sk14]; done) | (rw [eq0 _ Sk14]; done) | rw [eqx _ Sk14,eqx _ Sk13] | rw [eq1 _ Sk14,eq1 _ Sk13] | rw [eq0 _ Sk14,eq0 _ Sk13],?_⟩
     rw [Zay Wk14 (by simp)]
     simp only [Zam,Zbj,List.take_zero,List.length_cons,List.length_nil,List.drop_succ_cons,List.drop_zero,List.drop_nil,List.cons_append,List.nil_append,List.append_nil,Nat.zero_add]
     exact fin _ k13.length k12.length _ _ (Sk14.set' (by omega)) (by omega) (Zbm Wk14) ((Zbn (by omega)).trans Pk14) (by omega) (Nat.le_refl _)
    ·
     generalize hk15:k12 ++ [Zbv.cells Zac [.slice none 0 0 true,.slice none 0 0 true] false]=k15
     have sk15:Zbb k12.length k12 k15:=by rw [← hk15]; exact Zan
     have lk15:k15.length=k12.length + 1:=by rw [← hk15]; simp
     have Sk15:=Sk12.cat sk15
     have qk15:=Sk15.le
     have Ik15:=sk15.get Ik12 (Own.lt Ik12)
     have Lk15:=sk15.get Lk12 (Own.lt Lk12)
     have Wk15:k15[k12.length]?=some (Zbv.cells Zac [.slice none 0 0 true,.slice none 0 0 true] false):=by rw [← hk15]; simp
     refine ⟨by first | (rw [eqx _ Sk15]; done) | (rw [eq1 _ Sk15]; done) | (rw [eq0 _ Sk15]; done) | rw [eqx _ Sk15,eqx _ Sk12] | rw [eq1 _ Sk15,eq1 _ Sk12] | rw [eq0 _ Sk15,eq0 _ Sk12],by first | (rw [eqx _ Sk15]; done) | (rw [eq1 _ Sk15]; done) | (rw [eq0 _ Sk15]; done) | rw [eqx _ Sk15,eqx _ Sk12] | rw [eq1 _ Sk15,eq1 _ Sk12] | rw [eq0 _ Sk15,eq0 _ Sk12],by first | (rw [eqx _ Sk15]; done) | (rw [eq1 _ Sk15]; done) | (rw [eq0 _ Sk15]; done) | rw [eqx _ Sk15,eqx _ Sk12] | rw [eq1 _ Sk15,eq1 _ Sk12] | rw [eq0 _ Sk15,eq0 _ Sk12],?_⟩
     refine Vec.app0 (n:=n1) (m:=1) Lk15 Zdb Zes Zet Zer hfy (rowi Ik15) rfl (by omega) (fun k16 lk16 ik16 tk16=>?_)
     simp only [Zae]
     have Pk16:k16[k15.length]?=some (.cells Zaa (Zdf eN (ys ++ [⟨i.1.1,i.1.2,a5,ni,c5,e5⟩])) false):=by rw [ik16,hfX]
     have Sk16:Zbb g6.length g6 k16:=⟨by omega,fun j hj=>by rw [tk16 j (by omega) (by omega)]; exact Sk15.eq j hj⟩
     have qk16:=Sk16.le
     have Ik16:=(tk16 _ (Own.lt Ik15) (by omega)).trans Ik15
     have Wk16:=(tk16 _ (Own.lt Wk15) (by omega)).trans Wk15
     refine ⟨by first | (rw [eqx _ Sk16]; done) | (rw [eq1 _ Sk16]; done) | (rw [eq0 _ Sk16]; done) | rw [eqx _ Sk16,eqx _ Sk15] | rw [eq1 _ Sk16,eq1 _ Sk15] | rw [eq0 _ Sk16,eq0 _ Sk15],by first | (rw [eqx _ Sk16]; done) | (rw [eq1 _ Sk16]; done) | (rw [eq0 _ Sk16]; done) | rw [eqx _ Sk16,eqx _ Sk15] | rw [eq1 _ Sk16,eq1 _ Sk15] | rw [eq0 _ Sk16,eq0 _ Sk15],by first | (rw [eqx _ Sk16]; done) | (rw [eq1 _ Sk16]; done) | (rw [eq0 _ Sk16]; done) | rw [eqx _ Sk16,eqx _ Sk15] | rw [eq1 _ Sk16,eq1 _ Sk15] | rw [eq0 _ Sk16,eq0 _ Sk15],?_⟩
     rw [Zay Wk16 (by simp)]
     simp only [Zam,Zbj,List.take_zero,List.length_cons,List.length_nil,List.drop_succ_cons,List.drop_zero,List.drop_nil,List.cons_append,List.nil_append,List.append_nil,Nat.zero_add]
     exact fin _ k12.length k15.length _ _ (Sk16.set' (by omega)) (by omega) (Zbm Wk16) ((Zbn (by omega)).trans Pk16) (by omega) (Nat.le_refl _)
   ·
    generalize hk17:k11 ++ [Zbv.cells Zac [.slice none 0 0 true,.slice none 0 0 true] false]=k17
    have sk17:Zbb k11.length k11 k17:=by rw [← hk17]; exact Zan
    have lk17:k17.length=k11.length + 1:=by rw [← hk17]; simp
    have Sk17:=Sk11.cat sk17
    have qk17:=Sk17.le
    have Ek17:=sk17.get Ek11 (Own.lt Ek11)
    have Ik17:=sk17.get Ik11 (Own.lt Ik11)
    have Wk17:k17[k11.length]?=some (Zbv.cells Zac [.slice none 0 0 true,.slice none 0 0 true] false):=by rw [← hk17]; simp
    refine ⟨by first | (rw [eqx _ Sk17]; done) | (rw [eq1 _ Sk17]; done) | (rw [eq0 _ Sk17]; done) | rw [eqx _ Sk17,eqx _ Sk11] | rw [eq1 _ Sk17,eq1 _ Sk11] | rw [eq0 _ Sk17,eq0 _ Sk11],by first | (rw [eqx _ Sk17]; done) | (rw [eq1 _ Sk17]; done) | (rw [eq0 _ Sk17]; done) | rw [eqx _ Sk17,eqx _ Sk11] | rw [eq1 _ Sk17,eq1 _ Sk11] | rw [eq0 _ Sk17,eq0 _ Sk11],by first | (rw [eqx _ Sk17]; done) | (rw [eq1 _ Sk17]; done) | (rw [eq0 _ Sk17]; done) | rw [eqx _ Sk17,eqx _ Sk11] | rw [eq1 _ Sk17,eq1 _ Sk11] | rw [eq0 _ Sk17,eq0 _ Sk11],?_⟩
    refine Vec.app0 (n:=0) (m:=n1) (cs:=[]) Ek17 Zdb Zes Zet Zer rfl (rowx k17 Sk17) (Zhv _) (by omega) (fun k18 lk18 ik18 tk18=>?_)
    simp only [Zae,Nat.zero_add]
    have Lk18:k18[k17.length]?=some (.cells Zaa (Zdf eN ys) false):=by rw [ik18]; simp
    have Sk18:Zbb g6.length g6 k18:=⟨by omega,fun j hj=>by rw [tk18 j (by omega) (by omega)]; exact Sk17.eq j hj⟩
    have qk18:=Sk18.le
    have Ik18:=(tk18 _ (Own.lt Ik17) (by omega)).trans Ik17
    have Wk18:=(tk18 _ (Own.lt Wk17) (by omega)).trans Wk17
    refine ⟨by first | (rw [eqx _ Sk18]; done) | (rw [eq1 _ Sk18]; done) | (rw [eq0 _ Sk18]; done) | rw [eqx _ Sk18,eqx _ Sk17] | rw [eq1 _ Sk18,eq1 _ Sk17] | rw [eq0 _ Sk18,eq0 _ Sk17],by first | (rw [eqx _ Sk18]; done) | (rw [eq1 _ Sk18]; done) | (rw [eq0 _ Sk18]; done) | rw [eqx _ Sk18,eqx _ Sk17] | rw [eq1 _ Sk18,eq1 _ Sk17] | rw [eq0 _ Sk18,eq0 _ Sk17],?_⟩
    refine Vec.app0 (n:=n1) (m:=1) Lk18 Zdb Zes Zet Zer hfy (rowi Ik18) rfl (by omega) (fun k19 lk19 ik19 tk19=>?_)
    simp only [Zae]
    have Pk19:k19[k18.length]?=some (.cells Zaa (Zdf eN (ys ++ [⟨i.1.1,i.1.2,a5,ni,c5,e5⟩])) false):=by rw [ik19,hfX]
    have Sk19:Zbb g6.length g6 k19:=⟨by omega,fun j hj=>by rw [tk19 j (by omega) (by omega)]; exact Sk18.eq j hj⟩
    have qk19:=Sk19.le
    have Ik19:=(tk19 _ (Own.lt Ik18) (by omega)).trans Ik18
    have Wk19:=(tk19 _ (Own.lt Wk18) (by omega)).trans Wk18
    refine ⟨by first | (rw [eqx _ Sk19]; done) | (rw [eq1 _ Sk19]; done) | (rw [eq0 _ Sk19]; done) | rw [eqx _ Sk19,eqx _ Sk18] | rw [eq1 _ Sk19,eq1 _ Sk18] | rw [eq0 _ Sk19,eq0 _ Sk18],by first | (rw [eqx _ Sk19]; done) | (rw [eq1 _ Sk19]; done) | (rw [eq0 _ Sk19]; done) | rw [eqx _ Sk19,eqx _ Sk18] | rw [eq1 _ Sk19,eq1 _ Sk18] | rw [eq0 _ Sk19,eq0 _ Sk18],by first | (rw [eqx _ Sk19]; done) | (rw [eq1 _ Sk19]; done) | (rw [eq0 _ Sk19]; done) | rw [eqx _ Sk19,eqx _ Sk18] | rw [eq1 _ Sk19,eq1 _ Sk18] | rw [eq0 _ Sk19,eq0 _ Sk18],?_⟩
    rw [Zay Wk19 (by simp)]
    simp only [Zam,Zbj,List.take_zero,List.length_cons,List.length_nil,List.drop_succ_cons,List.drop_zero,List.drop_nil,List.cons_append,List.nil_append,List.append_nil,Nat.zero_add]
    exact fin _ k11.length k18.length _ _ (Sk19.set' (by omega)) (by omega) (Zbm Wk19) ((Zbn (by omega)).trans Pk19) (by omega) (Nat.le_refl _)
  ·
   generalize hk20:k1 ++ [Zbv.cells Zac [.slice none 0 0 true,.slice none 0 0 true] false]=k20
   have sk20:Zbb k1.length k1 k20:=by rw [← hk20]; exact Zan
   have lk20:k20.length=k1.length + 1:=by rw [← hk20]; simp
   have Sk20:=Sk1.cat sk20
   have qk20:=Sk20.le
   have Ek20:=sk20.get Ek1 (Own.lt Ek1)
   have Wk20:k20[k1.length]?=some (Zbv.cells Zac [.slice none 0 0 true,.slice none 0 0 true] false):=by rw [← hk20]; simp
   refine ⟨by first | (rw [eqx _ Sk20]; done) | (rw [eq1 _ Sk20]; done) | (rw [eq0 _ Sk20]; done) | rw [eqx _ Sk20,eqx _ Sk1] | rw [eq1 _ Sk20,eq1 _ Sk1] | rw [eq0 _ Sk20,eq0 _ Sk1],by first | (rw [eqx _ Sk20]; done) | (rw [eq1 _ Sk20]; done) | (rw [eq0 _ Sk20]; done) | rw [eqx _ Sk20,eqx _ Sk1] | rw [eq1 _ Sk20,eq1 _ Sk1] | rw [eq0 _ Sk20,eq0 _ Sk1],by first | (rw [eqx _ Sk20]; done) | (rw [eq1 _ Sk20]; done) | (rw [eq0 _ Sk20]; done) | rw [eqx _ Sk20,eqx _ Sk1] | rw [eq1 _ Sk20,eq1 _ Sk1] | rw [eq0 _ Sk20,eq0 _ Sk1],?_⟩
   refine ⟨?_,?_⟩
   ·
    refine Vec.app0 (n:=0) (m:=n1) (cs:=[]) Ek20 Zdb Zes Zet Zer rfl (rowx k20 Sk20) (Zhv _) (by omega) (fun k21 lk21 ik21 tk21=>?_)
    simp only [Zae,Nat.zero_add]
    have Lk21:k21[k20.length]?=some (.cells Zaa (Zdf eN ys) false):=by rw [ik21]; simp
    have Sk21:Zbb g6.length g6 k21:=⟨by omega,fun j hj=>by rw [tk21 j (by omega) (by omega)]; exact Sk20.eq j hj⟩
    have qk21:=Sk21.le
    have Wk21:=(tk21 _ (Own.lt Wk20) (by omega)).trans Wk20
    refine ⟨by first | (rw [eqx _ Sk21]; done) | (rw [eq1 _ Sk21]; done) | (rw [eq0 _ Sk21]; done) | rw [eqx _ Sk21,eqx _ Sk20] | rw [eq1 _ Sk21,eq1 _ Sk20] | rw [eq0 _ Sk21,eq0 _ Sk20],by first | (rw [eqx _ Sk21]; done) | (rw [eq1 _ Sk21]; done) | (rw [eq0 _ Sk21]; done) | rw [eqx _ Sk21,eqx _ Sk20] | rw [eq1 _ Sk21,eq1 _ Sk20] | rw [eq0 _ Sk21,eq0 _ Sk20],?_⟩
    generalize hk22:k21 ++ [Zbv.cells Zaa [.str i.1.1,.str i.1.2,.slice a5 ni c5 e5] false]=k22
    have sk22:Zbb k21.length k21 k22:=by rw [← hk22]; exact Zan
    have lk22:k22.length=k21.length + 1:=by rw [← hk22]; simp
    have Sk22:=Sk21.cat sk22
    have qk22:=Sk22.le
    have Wk22:=sk22.get Wk21 (Own.lt Wk21)
    have Lk22:=sk22.get Lk21 (Own.lt Lk21)
    have Ik22:k22[k21.length]?=some (Zbv.cells Zaa [.str i.1.1,.str i.1.2,.slice a5 ni c5 e5] false):=by rw [← hk22]; simp
    refine ⟨by first | (rw [eqx _ Sk22]; done) | (rw [eq1 _ Sk22]; done) | (rw [eq0 _ Sk22]; done) | rw [eqx _ Sk22,eqx _ Sk21] | rw [eq1 _ Sk22,eq1 _ Sk21] | rw [eq0 _ Sk22,eq0 _ Sk21],by first | (rw [eqx _ Sk22]; done) | (rw [eq1 _ Sk22]; done) | (rw [eq0 _ Sk22]; done) | rw [eqx _ Sk22,eqx _ Sk21] | rw [eq1 _ Sk22,eq1 _ Sk21] | rw [eq0 _ Sk22,eq0 _ Sk21],?_⟩
    refine Vec.app0 (n:=n1) (m:=1) Lk22 Zdb Zes Zet Zer hfy (rowi Ik22) rfl (by omega) (fun k23 lk23 ik23 tk23=>?_)
    simp only [Zae]
    have Pk23:k23[k22.length]?=some (.cells Zaa (Zdf eN (ys ++ [⟨i.1.1,i.1.2,a5,ni,c5,e5⟩])) false):=by rw [ik23,hfX]
    have Sk23:Zbb g6.length g6 k23:=⟨by omega,fun j hj=>by rw [tk23 j (by omega) (by omega)]; exact Sk22.eq j hj⟩
    have qk23:=Sk23.le
    have Wk23:=(tk23 _ (Own.lt Wk22) (by omega)).trans Wk22
    have Ik23:=(tk23 _ (Own.lt Ik22) (by omega)).trans Ik22
    refine ⟨by first | (rw [eqx _ Sk23]; done) | (rw [eq1 _ Sk23]; done) | (rw [eq0 _ Sk23]; done) | rw [eqx _ Sk23,eqx _ Sk22] | rw [eq1 _ Sk23,eq1 _ Sk22] | rw [eq0 _ Sk23,eq0 _ Sk22],by first | (rw [eqx _ Sk23]; done) | (rw [eq1 _ Sk23]; done) | (rw [eq0 _ Sk23]; done) | rw [eqx _ Sk23,eqx _ Sk22] | rw [eq1 _ Sk23,eq1 _ Sk22] | rw [eq0 _ Sk23,eq0 _ Sk22],by first | (rw [eqx _ Sk23]; done) | (rw [eq1 _ Sk23]; done) | (rw [eq0 _ Sk23]; done) | rw [eqx _ Sk23,eqx _ Sk22] | rw [eq1 _ Sk23,eq1 _ Sk22] | rw [eq0 _ Sk23,eq0 _ Sk22],?_⟩
    rw [Zay Wk23 (by simp)]
    simp only [Zam,Zbj,List.take_zero,List.length_cons,List.length_nil,List.drop_succ_cons,List.drop_zero,List.drop_nil,List.cons_append,List.nil_append,List.append_nil,Nat.zero_add]
    exact fin _ k1.length k22.length _ _ (Sk23.set' (by omega)) (by omega) (Zbm Wk23) ((Zbn (by omega)).trans Pk23) (by omega) (Nat.le_refl _)
   ·
    generalize hk24:k20 ++ [Zbv.cells Zaa [.str i.1.1,.str i.1.2,.slice a5 ni c5 e5] false]=k24
    have sk24:Zbb k20.length k20 k24:=by rw [← hk24]; exact Zan
    have lk24:k24.length=k20.length + 1:=by rw [← hk24]; simp
    have Sk24:=Sk20.cat sk24
    have qk24:=Sk24.le
    have Ek24:=sk24.get Ek20 (Own.lt Ek20)
    have Wk24:=sk24.get Wk20 (Own.lt Wk20)
    have Ik24:k24[k20.length]?=some (Zbv.cells Zaa [.str i.1.1,.str i.1.2,.slice a5 ni c5 e5] false):=by rw [← hk24]; simp
    refine ⟨by first | (rw [eqx _ Sk24]; done) | (rw [eq1 _ Sk24]; done) | (rw [eq0 _ Sk24]; done) | rw [eqx _ Sk24,eqx _ Sk20] | rw [eq1 _ Sk24,eq1 _ Sk20] | rw [eq0 _ Sk24,eq0 _ Sk20],by first | (rw [eqx _ Sk24]; done) | (rw [eq1 _ Sk24]; done) | (rw [eq0 _ Sk24]; done) | rw [eqx _ Sk24,eqx _ Sk20] | rw [eq1 _ Sk24,eq1 _ Sk20] | rw [eq0 _ Sk24,eq0 _ Sk20],?_⟩
    refine Vec.app0 (n:=0) (m:=n1) (cs:=[]) Ek24 Zdb Zes Zet Zer rfl (rowx k24 Sk24) (Zhv _) (by omega) (fun k25 lk25 ik25 tk25=>?_)
    simp only [Zae,Nat.zero_add]
    have Lk25:k25[k24.length]?=some (.cells Zaa (Zdf eN ys) false):=by rw [ik25]; simp
    have Sk25:Zbb g6.length g6 k25:=⟨by omega,fun j hj=>by rw [tk25 j (by omega) (by omega)]; exact Sk24.eq j hj⟩
    have qk25:=Sk25.le
    have Wk25:=(tk25 _ (Own.lt Wk24) (by omega)).trans Wk24
    have Ik25:=(tk25 _ (Own.lt Ik24) (by omega)).trans Ik24
    refine ⟨by first | (rw [eqx _ Sk25]; done) | (rw [eq1 _ Sk25]; done) | (rw [eq0 _ Sk25]; done) | rw [eqx _ Sk25,eqx _ Sk24] | rw [eq1 _ Sk25,eq1 _ Sk24] | rw [eq0 _ Sk25,eq0 _ Sk24],by first | (rw [eqx _ Sk25]; done) | (rw [eq1 _ Sk25]; done) | (rw [eq0 _ Sk25]; done) | rw [eqx _ Sk25,eqx _ Sk24] | rw [eq1 _ Sk25,eq1 _ Sk24] | rw [eq0 _ Sk25,eq0 _ Sk24],?_⟩
    refine Vec.app0 (n:=n1) (m:=1) Lk25 Zdb Zes Zet Zer hfy (rowi Ik25) rfl (by omega) (fun k26 lk26 ik26 tk26=>?_)
    simp only [Zae]
    have Pk26:k26[k25.length]?=some (.cells Zaa (Zdf eN (ys ++ [⟨i.1.1,i.1.2,a5,ni,c5,e5⟩])) false):=by rw [ik26,hfX]
    have Sk26:Zbb g6.length g6 k26:=⟨by omega,fun j hj=>by rw [tk26 j (by omega) (by omega)]; exact Sk25.eq j hj⟩
    have qk26:=Sk26.le
    have Wk26:=(tk26 _ (Own.lt Wk25) (by omega)).trans Wk25
    have Ik26:=(tk26 _ (Own.lt Ik25) (by omega)).trans Ik25
    refine ⟨by first | (rw [eqx _ Sk26]; done) | (rw [eq1 _ Sk26]; done) | (rw [eq0 _ Sk26]; done) | rw [eqx _ Sk26,eqx _ Sk25] | rw [eq1 _ Sk26,eq1 _ Sk25] | rw [eq0 _ Sk26,eq0 _ Sk25],by first | (rw [eqx _ Sk26]; done) | (rw [eq1 _ Sk26]; done) | (rw [eq0 _ Sk26]; done) | rw [eqx _ Sk26,eqx _ Sk25] | rw [eq1 _ Sk26,eq1 _ Sk25] | rw [eq0 _ Sk26,eq0 _ Sk25],by first | (rw [eqx _ Sk26]; done) | (rw [eq1 _ Sk26]; done) | (rw [eq0 _ Sk26]; done) | rw [eqx _ Sk26,eqx _ Sk25] | rw [eq1 _ Sk26,eq1 _ Sk25] | rw [eq0 _ Sk26,eq0 _ Sk25],?_⟩
    rw [Zay Wk26 (by simp)]
    simp only [Zam,Zbj,List.take_zero,List.length_cons,List.length_nil,List.drop_succ_cons,List.drop_zero,List.drop_nil,List.cons_append,List.nil_append,List.append_nil,Nat.zero_add]
    exact fin _ k1.length k25.length _ _ (Sk26.set' (by omega)) (by omega) (Zbm Wk26) ((Zbn (by omega)).trans Pk26) (by omega) (Nat.le_refl _)
 ·
  generalize hk27:g6 ++ [Zbv.cells Zaa [.str i.1.1,.str i.1.2,.slice a5 ni c5 e5] false]=k27
  have sk27:Zbb g6.length g6 k27:=by rw [← hk27]; exact Zan
  have lk27:k27.length=g6.length + 1:=by rw [← hk27]; simp
  have Sk27:=Sg6.cat sk27
  have qk27:=Sk27.le
  have Ik27:k27[g6.length]?=some (Zbv.cells Zaa [.str i.1.1,.str i.1.2,.slice a5 ni c5 e5] false):=by rw [← hk27]; simp
  refine ⟨by first | (rw [eqx _ Sk27]; done) | (rw [eq1 _ Sk27]; done) | (rw [eq0 _ Sk27]; done) | rw [eqx _ Sk27,eqx _ Sg6] | rw [eq1 _ Sk27,eq1 _ Sg6] | rw [eq0 _ Sk27,eq0 _ Sg6],by first | (rw [eqx _ Sk27]; done) | (rw [eq1 _ Sk27]; done) | (rw [eq0 _ Sk27]; done) | rw [eqx _ Sk27,eqx _ Sg6] | rw [eq1 _ Sk27,eq1 _ Sg6] | rw [eq0 _ Sk27,eq0 _ Sg6],?_⟩
  refine ⟨?_,?_⟩
  ·
   generalize hk28:k27 ++ [Zbv.cells Zaa [] false]=k28
   have sk28:Zbb k27.length k27 k28:=by rw [← hk28]; exact Zan
   have lk28:k28.length=k27.length + 1:=by rw [← hk28]; simp
   have Sk28:=Sk27.cat sk28
   have qk28:=Sk28.le
   have Ik28:=sk28.get Ik27 (Own.lt Ik27)
   have Ek28:k28[k27.length]?=some (Zbv.cells Zaa [] false):=by rw [← hk28]; simp
   refine ⟨by first | (rw [eqx _ Sk28]; done) | (rw [eq1 _ Sk28]; done) | (rw [eq0 _ Sk28]; done) | rw [eqx _ Sk28,eqx _ Sk27] | rw [eq1 _ Sk28,eq1 _ Sk27] | rw [eq0 _ Sk28,eq0 _ Sk27],by first | (rw [eqx _ Sk28]; done) | (rw [eq1 _ Sk28]; done) | (rw [eq0 _ Sk28]; done) | rw [eqx _ Sk28,eqx _ Sk27] | rw [eq1 _ Sk28,eq1 _ Sk27] | rw [eq0 _ Sk28,eq0 _ Sk27],by first | (rw [eqx _ Sk28]; done) | (rw [eq1 _ Sk28]; done) | (rw [eq0 _ Sk28]; done) | rw [eqx _ Sk28,eqx _ Sk27] | rw [eq1 _ Sk28,eq1 _ Sk27] | rw [eq0 _ Sk28,eq0 _ Sk27],?_⟩
   refine ⟨?_,?_⟩
   ·
    refine Vec.app0 (n:=0) (m:=n1) (cs:=[]) Ek28 Zdb Zes Zet Zer rfl (rowx k28 Sk28) (Zhv _) (by omega) (fun k29 lk29 ik29 tk29=>?_)
    simp only [Zae,Nat.zero_add]
    have Lk29:k29[k28.length]?=some (.cells Zaa (Zdf eN ys) false):=by rw [ik29]; simp
    have Sk29:Zbb g6.length g6 k29:=⟨by omega,fun j hj=>by rw [tk29 j (by omega) (by omega)]; exact Sk28.eq j hj⟩
    have qk29:=Sk29.le
    have Ik29:=(tk29 _ (Own.lt Ik28) (by omega)).trans Ik28
    refine ⟨by first | (rw [eqx _ Sk29]; done) | (rw [eq1 _ Sk29]; done) | (rw [eq0 _ Sk29]; done) | rw [eqx _ Sk29,eqx _ Sk28] | rw [eq1 _ Sk29,eq1 _ Sk28] | rw [eq0 _ Sk29,eq0 _ Sk28],by first | (rw [eqx _ Sk29]; done) | (rw [eq1 _ Sk29]; done) | (rw [eq0 _ Sk29]; done) | rw [eqx _ Sk29,eqx _ Sk28] | rw [eq1 _ Sk29,eq1 _ Sk28] | rw [eq0 _ Sk29,eq0 _ Sk28],?_⟩
    refine ⟨?_,?_⟩
    ·
     refine Vec.app0 (n:=n1) (m:=1) Lk29 Zdb Zes Zet Zer hfy (rowi Ik29) rfl (by omega) (fun k30 lk30 ik30 tk30=>?_)
     simp only [Zae]
     have Pk30:k30[k29.length]?=some (.cells Zaa (Zdf eN (ys ++ [⟨i.1.1,i.1.2,a5,ni,c5,e5⟩])) false):=by rw [ik30,hfX]
     have Sk30:Zbb g6.length g6 k30:=⟨by omega,fun j hj=>by rw [tk30 j (by omega) (by omega)]; exact Sk29.eq j hj⟩
     have qk30:=Sk30.le
     have Ik30:=(tk30 _ (Own.lt Ik29) (by omega)).trans Ik29
     refine ⟨by first | (rw [eqx _ Sk30]; done) | (rw [eq1 _ Sk30]; done) | (rw [eq0 _ Sk30]; done) | rw [eqx _ Sk30,eqx _ Sk29] | rw [eq1 _ Sk30,eq1 _ Sk29] | rw [eq0 _ Sk30,eq0 _ Sk29],by first | (rw [eqx _ Sk30]; done) | (rw [eq1 _ Sk30]; done) | (rw [eq0 _ Sk30]; done) | rw [eqx _ Sk30,eqx _ Sk29] | rw [eq1 _ Sk30,eq1 _ Sk29] | rw [eq0 _ Sk30,eq0 _ Sk29],by first | (rw [eqx _ Sk30]; done) | (rw [eq1 _ Sk30]; done) | (rw [eq0 _ Sk30]; done) | rw [eqx _ Sk30,eqx _ Sk29] | rw [eq1 _ Sk30,eq1 _ Sk29] | rw [eq0 _ Sk30,eq0 _ Sk29],?_⟩
     generalize hk31:k30 ++ [Zbv.cells Zac [.slice none 0 0 true,.slice none 0 0 true] false]=k31
     have sk31:Zbb k30.length k30 k31:=by rw [← hk31]; exact Zan
     have lk31:k31.length=k30.length + 1:=by rw [← hk31]; simp
     have Sk31:=Sk30.cat sk31
     have qk31:=Sk31.le
     have Ik31:=sk31.get Ik30 (Own.lt Ik30)
     have Pk31:=sk31.get Pk30 (Own.lt Pk30)
     have Wk31:k31[k30.length]?=some (Zbv.cells Zac [.slice none 0 0 true,.slice none 0 0 true] false):=by rw [← hk31]; simp
     refine ⟨by first | (rw [eqx _ Sk31]; done) | (rw [eq1 _ Sk31]; done) | (rw [eq0 _ Sk31]; done) | rw [eqx _ Sk31,eqx _ Sk30] | rw [eq1 _ Sk31,eq1 _ Sk30] | rw [eq0 _ Sk31,eq0 _ Sk30],by first | (rw [eqx _ Sk31]; done) | (rw [eq1 _ Sk31]; done) | (rw [eq0 _ Sk31]; done) | rw [eqx _ Sk31,eqx _ Sk30] | rw [eq1 _ Sk31,eq1 _ Sk30] | rw [eq0 _ Sk31,eq0 _ Sk30],by first | (rw [eqx _ Sk31]; done) | (rw [eq1 _ Sk31]; done) | (rw [eq0 _ Sk31]; done) | rw [eqx _ Sk31,eqx _ Sk30] | rw [eq1 _ Sk31,eq1 _ Sk30] | rw [eq0 _ Sk31,eq0 _ Sk30],?_⟩
     rw [Zay Wk31 (by simp)]
     simp only [Zam,Zbj,List.take_zero,List.length_cons,List.length_nil,List.drop_succ_cons,List.drop_zero,List.drop_nil,List.cons_append,List.nil_append,List.append_nil,Nat.zero_add]
     exact fin _ k30.length k29.length _ _ (Sk31.set' (by omega)) (by omega) (Zbm Wk31) ((Zbn (by omega)).trans Pk31) (by omega) (Nat.le_refl _)
    ·
     generalize hk32:k29 ++ [Zbv.cells Zac [.slice none 0 0 true,.slice none 0 0 true] false]=k32
     have sk32:Zbb k29.length k29 k32:=by rw [← hk32]; exact Zan
     have lk32:k32.length=k29.length + 1:=by rw [← hk32]; simp
     have Sk32:=Sk29.cat sk32
     have qk32:=Sk32.le
     have Ik32:=sk32.get Ik29 (Own.lt Ik29)
     have Lk32:=sk32.get Lk29 (Own.lt Lk29)
     have Wk32:k32[k29.length]?=some (Zbv.cells Zac [.slice none 0 0 true,.slice none 0 0 true] false):=by rw [← hk32]; simp
     refine ⟨by first | (rw [eqx _ Sk32]; done) | (rw [eq1 _ Sk32]; done) | (rw [eq0 _ Sk32]; done) | rw [eqx _ Sk32,eqx _ Sk29] | rw [eq1 _ Sk32,eq1 _ Sk29] | rw [eq0 _ Sk32,eq0 _ Sk29],by first | (rw [eqx _ Sk32]; done) | (rw [eq1 _ Sk32]; done) | (rw [eq0 _ Sk32]; done) | rw [eqx _ Sk32,eqx _ Sk29] | rw [eq1 _ Sk32,eq1 _ Sk29] | rw [eq0 _ Sk32,eq0 _ Sk29],by first | (rw [eqx _ Sk32]; done) | (rw [eq1 _ Sk32]; done) | (rw [eq0 _ Sk32]; done) | rw [eqx _ Sk32,eqx _ Sk29] | rw [eq1 _ Sk32,eq1 _ Sk29] | rw [eq0 _ Sk32,eq0 _ Sk29],?_⟩
     refine Vec.app0 (n:=n1) (m:=1) Lk32 Zdb Zes Zet Zer hfy (rowi Ik32) rfl (by omega) (fun k33 lk33 ik33 tk33=>?_)
     simp only [Zae]
     have Pk33:k33[k32.length]?=some (.cells Zaa (Zdf eN (ys ++ [⟨i.1.1,i.1.2,a5,ni,c5,e5⟩])) false):=by rw [ik33,hfX]
     have Sk33:Zbb g6.length g6 k33:=⟨by omega,fun j hj=>by rw [tk33 j (by omega) (by omega)]; exact Sk32.eq j hj⟩
     have qk33:=Sk33.le
     have Ik33:=(tk33 _ (Own.lt Ik32) (by omega)).trans Ik32
     have Wk33:=(tk33 _ (Own.lt Wk32) (by omega)).trans Wk32
     refine ⟨by first | (rw [eqx _ Sk33]; done) | (rw [eq1 _ Sk33]; done) | (rw [eq0 _ Sk33]; done) | rw [eqx _ Sk33,eqx _ Sk32] | rw [eq1 _ Sk33,eq1 _ Sk32] | rw [eq0 _ Sk33,eq0 _ Sk32],by first | (rw [eqx _ Sk33]; done) | (rw [eq1 _ Sk33]; done) | (rw [eq0 _ Sk33]; done) | rw [eqx _ Sk33,eqx _ Sk32] | rw [eq1 _ Sk33,eq1 _ Sk32] | rw [eq0 _ Sk33,eq0 _ Sk32],by first | (rw [eqx _ Sk33]; done) | (rw [eq1 _ Sk33]; done) | (rw [eq0 _ Sk33]; done) | rw [eqx _ Sk33,eqx _ Sk32] | rw [eq1 _ Sk33,eq1 _ Sk32] | rw [eq0 _ Sk33,eq0 _ Sk32],?_⟩
     rw [Zay Wk33 (by simp)]
     simp only [Zam,Zbj,List.take_zero,List.length_cons,List.length_nil,List.drop_succ_cons,List.drop_zero,List.drop_nil,List.cons_append,List.nil_append,List.append_nil,Nat.zero_add]
     exact fin _ k29.length k32.length _ _ (Sk33.set' (by omega)) (by omega) (Zbm Wk33) ((Zbn (by omega)).trans Pk33) (by omega) (Nat.le_refl _)
   ·
    generalize hk34:k28 ++ [Zbv.cells Zac [.slice none 0 0 true,.slice none 0 0 true] false]=k34
    have sk34:Zbb k28.length k28 k34:=by rw [← hk34]; exact Zan
    have lk34:k34.length=k28.length + 1:=by rw [← hk34]; simp
    have Sk34:=Sk28.cat sk34
    have qk34:=Sk34.le
    have Ik34:=sk34.get Ik28 (Own.lt Ik28)
    have Ek34:=sk34.get Ek28 (Own.lt Ek28)
    have Wk34:k34[k28.length]?=some (Zbv.cells Zac [.slice none 0 0 true,.slice none 0 0 true] false):=by rw [← hk34]; simp
    refine ⟨by first | (rw [eqx _ Sk34]; done) | (rw [eq1 _ Sk34]; done) | (rw [eq0 _ Sk34]; done) | rw [eqx _ Sk34,eqx _ Sk28] | rw [eq1 _ Sk34,eq1 _ Sk28] | rw [eq0 _ Sk34,eq0 _ Sk28],by first | (rw [eqx _ Sk34]; done) | (rw [eq1 _ Sk34]; done) | (rw [eq0 _ Sk34]; done) | rw [eqx _ Sk34,eqx _ Sk28] | rw [eq1 _ Sk34,eq1 _ Sk28] | rw [eq0 _ Sk34,eq0 _ Sk28],by first | (rw [eqx _ Sk34]; done) | (rw [eq1 _ Sk34]; done) | (rw [eq0 _ Sk34]; done) | rw [eqx _ Sk34,eqx _ Sk28] | rw [eq1 _ Sk34,eq1 _ Sk28] | rw [eq0 _ Sk34,eq0 _ Sk28],?_⟩
    refine Vec.app0 (n:=0) (m:=n1) (cs:=[]) Ek34 Zdb Zes Zet Zer rfl (rowx k34 Sk34) (Zhv _) (by omega) (fun k35 lk35 ik35 tk35=>?_)
    simp only [Zae,Nat.zero_add]
    have Lk35:k35[k34.length]?=some (.cells Zaa (Zdf eN ys) false):=by rw [ik35]; simp
    have Sk35:Zbb g6.length g6 k35:=⟨by omega,fun j hj=>by rw [tk35 j (by omega) (by omega)]; exact Sk34.eq j hj⟩
    have qk35:=Sk35.le
    have Ik35:=(tk35 _ (Own.lt Ik34) (by omega)).trans Ik34
    have Wk35:=(tk35 _ (Own.lt Wk34) (by omega)).trans Wk34
    refine ⟨by first | (rw [eqx _ Sk35]; done) | (rw [eq1 _ Sk35]; done) | (rw [eq0 _ Sk35]; done) | rw [eqx _ Sk35,eqx _ Sk34] | rw [eq1 _ Sk35,eq1 _ Sk34] | rw [eq0 _ Sk35,eq0 _ Sk34],by first | (rw [eqx _ Sk35]; done) | (rw [eq1 _ Sk35]; done) | (rw [eq0 _ Sk35]; done) | rw [eqx _ Sk35,eqx _ Sk34] | rw [eq1 _ Sk35,eq1 _ Sk34] | rw [eq0 _ Sk35,eq0 _ Sk34],?_⟩
    refine Vec.app0 (n:=n1) (m:=1) Lk35 Zdb Zes Zet Zer hfy (rowi Ik35) rfl (by omega) (fun k36 lk36 ik36 tk36=>?_)
    simp only [Zae]
    have Pk36:k36[k35.length]?=some (.cells Zaa (Zdf eN (ys ++ [⟨i.1.1,i.1.2,a5,ni,c5,e5⟩])) false):=by rw [ik36,hfX]
    have Sk36:Zbb g6.length g6 k36:=⟨by omega,fun j hj=>by rw [tk36 j (by omega) (by omega)]; exact Sk35.eq j hj⟩
    have qk36:=Sk36.le
    have Ik36:=(tk36 _ (Own.lt Ik35) (by omega)).trans Ik35
    have Wk36:=(tk36 _ (Own.lt Wk35) (by omega)).trans Wk35
    refine ⟨by first | (rw [eqx _ Sk36]; done) | (rw [eq1 _ Sk36]; done) | (rw [eq0 _ Sk36]; done) | rw [eqx _ Sk36,eqx _ Sk35] | rw [eq1 _ Sk36,eq1 _ Sk35] | rw [eq0 _ Sk36,eq0 _ Sk35],by first | (rw [eqx _ Sk36]; done) | (rw [eq1 _ Sk36]; done) | (rw [eq0 _ Sk36]; done) | rw [eqx _ Sk36,eqx _ Sk35] | rw [eq1 _ Sk36,eq1 _ Sk35] | rw [eq0 _ Sk36,eq0 _ Sk35],by first | (rw [eqx _ Sk36]; done) | (rw [eq1 _ Sk36]; done) | (rw [eq0 _ Sk36]; done) | rw [eqx _ Sk36,eqx _ Sk35] | rw [eq1 _ Sk36,eq1 _ Sk35] | rw [eq0 _ Sk36,eq0 _ Sk35],?_⟩
    rw [Zay Wk36 (by simp)]
    simp only [Zam,Zbj,List.take_zero,List.length_cons,List.length_nil,List.drop_succ_cons,List.drop_zero,List.drop_nil,List.cons_append,List.nil_append,List.append_nil,Nat.zero_add]
    exact fin _ k28.length k35.length _ _ (Sk36.set' (by omega)) (by omega) (Zbm Wk36) ((Zbn (by omega)).trans Pk36) (by omega) (Nat.le_refl _)
  ·
   generalize hk37:k27 ++ [Zbv.cells Zac [.slice none 0 0 true,.slice none 0 0 true] false]=k37
   have sk37:Zbb k27.length k27 k37:=by rw [← hk37]; exact Zan
   have lk37:k37.length=k27.length + 1:=by rw [← hk37]; simp
   have Sk37:=Sk27.cat sk37
   have qk37:=Sk37.le
   have Ik37:=sk37.get Ik27 (Own.lt Ik27)
   have Wk37:k37[k27.length]?=some (Zbv.cells Zac [.slice none 0 0 true,.slice none 0 0 true] false):=by rw [← hk37]; simp
   refine ⟨by first | (rw [eqx _ Sk37]; done) | (rw [eq1 _ Sk37]; done) | (rw [eq0 _ Sk37]; done) | rw [eqx _ Sk37,eqx _ Sk27] | rw [eq1 _ Sk37,eq1 _ Sk27] | rw [eq0 _ Sk37,eq0 _ Sk27],by first | (rw [eqx _ Sk37]; done) | (rw [eq1 _ Sk37]; done) | (rw [eq0 _ Sk37]; done) | rw [eqx _ Sk37,eqx _ Sk27] | rw [eq1 _ Sk37,eq1 _ Sk27] | rw [eq0 _ Sk37,eq0 _ Sk27],by first | (rw [eqx _ Sk37]; done) | (rw [eq1 _ Sk37]; done) | (rw [eq0 _ Sk37]; done) | rw [eqx _ Sk37,eqx _ Sk27] | rw [eq1 _ Sk37,eq1 _ Sk27] | rw [eq0 _ Sk37,eq0 _ Sk27],?_⟩
   generalize hk38:k37 ++ [Zbv.cells Zaa [] false]=k38
   have sk38:Zbb k37.length k37 k38:=by rw [← hk38]; exact Zan
   have lk38:k38.length=k37.length + 1:=by rw [← hk38]; simp
   have Sk38:=Sk37.cat sk38
   have qk38:=Sk38.le
   have Ik38:=sk38.get Ik37 (Own.lt Ik37)
   have Wk38:=sk38.get Wk37 (Own.lt Wk37)
   have Ek38:k38[k37.length]?=some (Zbv.cells Zaa [] false):=by rw [← hk38]; simp
   refine ⟨by first | (rw [eqx _ Sk38]; done) | (rw [eq1 _ Sk38]; done) | (rw [eq0 _ Sk38]; done) | rw [eqx _ Sk38,eqx _ Sk37] | rw [eq1 _ Sk38,eq1 _ Sk37] | rw [eq0 _ Sk38,eq0 _ Sk37],by first | (rw [eqx _ Sk38]; done) | (rw [eq1 _ Sk38]; done) | (rw [eq0 _ Sk38]; done) | rw [eqx _ Sk38,eqx _ Sk37] | rw [eq1 _ Sk38,eq1 _ Sk37] | rw [eq0 _ Sk38,eq0 _ Sk37],by first | (rw [eqx _ Sk38]; done) | (rw [eq1 _ Sk38]; done) | (rw [eq0 _ Sk38]; done) | rw [eqx _ Sk38,eqx _ Sk37] | rw [eq1 _ Sk38,eq1 _ Sk37] | rw [eq0 _ Sk38,eq0 _ Sk37],?_⟩
   refine Vec.app0 (n:=0) (m:=n1) (cs:=[]) Ek38 Zdb Zes Zet Zer rfl (rowx k38 Sk38) (Zhv _) (by omega) (fun k39 lk39 ik39 tk39=>?_)
   simp only [Zae,Nat.zero_add]
   have Lk39:k39[k38.length]?=some (.cells Zaa (Zdf eN ys) false):=by rw [ik39]; simp
   have Sk39:Zbb g6.length g6 k39:=⟨by omega,fun j hj=>by rw [tk39 j (by omega) (by omega)]; exact Sk38.eq j hj⟩
   have qk39:=Sk39.le
   have Ik39:=(tk39 _ (Own.lt Ik38) (by omega)).trans Ik38
   have Wk39:=(tk39 _ (Own.lt Wk38) (by omega)).trans Wk38
   refine ⟨by first | (rw [eqx _ Sk39]; done) | (rw [eq1 _ Sk39]; done) | (rw [eq0 _ Sk39]; done) | rw [eqx _ Sk39,eqx _ Sk38] | rw [eq1 _ Sk39,eq1 _ Sk38] | rw [eq0 _ Sk39,eq0 _ Sk38],by first | (rw [eqx _ Sk39]; done) | (rw [eq1 _ Sk39]; done) | (rw [eq0 _ Sk39]; done) | rw [eqx _ Sk39,eqx _ Sk38] | rw [eq1 _ Sk39,eq1 _ Sk38] | rw [eq0 _ Sk39,eq0 _ Sk38],?_⟩
   refine Vec.app0 (n:=n1) (m:=1) Lk39 Zdb Zes Zet Zer hfy (rowi Ik39) rfl (by omega) (fun k40 lk40 ik40 tk40=>?_)
   simp only [Zae]
   have Pk40:k40[k39.length]?=some (.cells Zaa (Zdf eN (ys ++ [⟨i.1.1,i.1.2,a5,ni,c5,e5⟩])) false):=by rw [ik40,hfX]
   have Sk40:Zbb g6.length g6 k40:=⟨by omega,fun j hj=>by rw [tk40 j (by omega) (by omega)]; exact Sk39.eq j hj⟩
   have qk40:=Sk40.le
   have Ik40:=(tk40 _ (Own.lt Ik39) (by omega)).trans Ik39
   have Wk40:=(tk40 _ (Own.lt Wk39) (by omega)).trans Wk39
   refine ⟨by first | (rw [eqx _ Sk40]; done) | (rw [eq1 _ Sk40]; done) | (rw [eq0 _ Sk40]; done) | rw [eqx _ Sk40,eqx _ Sk39] | rw [eq1 _ Sk40,eq1 _ Sk39] | rw [eq0 _ Sk40,eq0 _ Sk39],by first | (rw [eqx _ Sk40]; done) | (rw [eq1 _ Sk40]; done) | (rw [eq0 _ Sk40]; done) | rw [eqx _ Sk40,eqx _ Sk39] | rw [eq1 _ Sk40,eq1 _ Sk39] | rw [eq0 _ Sk40,eq0 _ Sk39],by first | (rw [eqx _ Sk40]; done) | (rw [eq1 _ Sk40]; done) | (rw [eq0 _ Sk40]; done) | rw [eqx _ Sk40,eqx _ Sk39] | rw [eq1 _ Sk40,eq1 _ Sk39] | rw [eq0 _ Sk40,eq0 _ Sk39],?_⟩
   rw [Zay Wk40 (by simp)]
   simp only [Zam,Zbj,List.take_zero,List.length_cons,List.length_nil,List.drop_succ_cons,List.drop_zero,List.drop_nil,List.cons_append,List.nil_append,List.append_nil,Nat.zero_add]
   exact fin _ k27.length k39.length _ _ (Sk40.set' (by omega)) (by omega) (Zbm Wk40) ((Zbn (by omega)).trans Pk40) (by omega) (Nat.le_refl _)
 ·
  generalize hk41:g6 ++ [Zbv.cells Zac [.slice none 0 0 true,.slice none 0 0 true] false]=k41
  have sk41:Zbb g6.length g6 k41:=by rw [← hk41]; exact Zan
  have lk41:k41.length=g6.length + 1:=by rw [← hk41]; simp
  have Sk41:=Sg6.cat sk41
  have qk41:=Sk41.le
  have Wk41:k41[g6.length]?=some (Zbv.cells Zac [.slice none 0 0 true,.slice none 0 0 true] false):=by rw [← hk41]; simp
  refine ⟨by first | (rw [eqx _ Sk41]; done) | (rw [eq1 _ Sk41]; done) | (rw [eq0 _ Sk41]; done) | rw [eqx _ Sk41,eqx _ Sg6] | rw [eq1 _ Sk41,eq1 _ Sg6] | rw [eq0 _ Sk41,eq0 _ Sg6],by first | (rw [eqx _ Sk41]; done) | (rw [eq1 _ Sk41]; done) | (rw [eq0 _ Sk41]; done) | rw [eqx _ Sk41,eqx _ Sg6] | rw [eq1 _ Sk41,eq1 _ Sg6] | rw [eq0 _ Sk41,eq0 _ Sg6],by first | (rw [eqx _ Sk41]; done) | (rw [eq1 _ Sk41]; done) | (rw [eq0 _ Sk41]; done) | rw [eqx _ Sk41,eqx _ Sg6] | rw [eq1 _ Sk41,eq1 _ Sg6] | rw [eq0 _ Sk41,eq0 _ Sg6],?_⟩
  refine ⟨?_,?_⟩
  ·
   generalize hk42:k41 ++ [Zbv.cells Zaa [] false]=k42
   have sk42:Zbb k41.length k41 k42:=by rw [← hk42]; exact Zan
   have lk42:k42.length=k41.length + 1:=by rw [← hk42]; simp
   have Sk42:=Sk41.cat sk42
   have qk42:=Sk42.le
   have Wk42:=sk42.get Wk41 (Own.lt Wk41)
   have Ek42:k42[k41.length]?=some (Zbv.cells Zaa [] false):=by rw [← hk42]; simp
   refine ⟨by first | (rw [eqx _ Sk42]; done) | (rw [eq1 _ Sk42]; done) | (rw [eq0 _ Sk42]; done) | rw [eqx _ Sk42,eqx _ Sk41] | rw [eq1 _ Sk42,eq1 _ Sk41] | rw [eq0 _ Sk42,eq0 _ Sk41],by first | (rw [eqx _ Sk42]; done) | (rw [eq1 _ Sk42]; done) | (rw [eq0 _ Sk42]; done) | rw [eqx _ Sk42,eqx _ Sk41] | rw [eq1 _ Sk42,eq1 _ Sk41] | rw [eq0 _ Sk42,eq0 _ Sk41],by first | (rw [eqx _ Sk42]; done) | (rw [eq1 _ Sk42]; done) | (rw [eq0 _ Sk42]; done) | rw [eqx _ Sk42,eqx _ Sk41] | rw [eq1 _ Sk42,eq1 _ Sk41] | rw [eq0 _ Sk42,eq0 _ Sk41],?_⟩
   refine ⟨?_,?_⟩
   ·
    refine Vec.app0 (n:=0) (m:=n1) (cs:=[]) Ek42 Zdb Zes Zet Zer rfl (rowx k42 Sk42) (Zhv _) (by omega) (fun k43 lk43 ik43 tk43=>?_)
    simp only [Zae,Nat.zero_add]
    have Lk43:k43[k42.length]?=some (.cells Zaa (Zdf eN ys) false):=by rw [ik43]; simp
    have Sk43:Zbb g6.length g6 k43:=⟨by omega,fun j hj=>by rw [tk43 j (by omega) (by omega)]; exact Sk42.eq j hj⟩
    have qk43:=Sk43.le
    have Wk43:=(tk43 _ (Own.lt Wk42) (by omega)).trans Wk42
    refine ⟨by first | (rw [eqx _ Sk43]; done) | (rw [eq1 _ Sk43]; done) | (rw [eq0 _ Sk43]; done) | rw [eqx _ Sk43,eqx _ Sk42] | rw [eq1 _ Sk43,eq1 _ Sk42] | rw [eq0 _ Sk43,eq0 _ Sk42],by first | (rw [eqx _ Sk43]; done) | (rw [eq1 _ Sk43]; done) | (rw [eq0 _ Sk43]; done) | rw [eqx _ Sk43,eqx _ Sk42] | rw [eq1 _ Sk43,eq1 _ Sk42] | rw [eq0 _ Sk43,eq0 _ Sk42],?_⟩
    generalize hk44:k43 ++ [Zbv.cells Zaa [.str i.1.1,.str i.1.2,.slice a5 ni c5 e5] false]=k44
    have sk44:Zbb k43.length k43 k44:=by rw [← hk44]; exact Zan
    have lk44:k44.length=k43.length + 1:=by rw [← hk44]; simp
    have Sk44:=Sk43.cat sk44
    have qk44:=Sk44.le
    have Wk44:=sk44.get Wk43 (Own.lt Wk43)
    have Lk44:=sk44.get Lk43 (Own.lt Lk43)
    have Ik44:k44[k43.length]?=some (Zbv.cells Zaa [.str i.1.1,.str i.1.2,.slice a5 ni c5 e5] false):=by rw [← hk44]; simp
    refine ⟨by first | (rw [eqx _ Sk44]; done) | (rw [eq1 _ Sk44]; done) | (rw [eq0 _ Sk44]; done) | rw [eqx _ Sk44,eqx _ Sk43] | rw [eq1 _ Sk44,eq1 _ Sk43] | rw [eq0 _ Sk44,eq0 _ Sk43],by first | (rw [eqx _ Sk44]; done) | (rw [eq1 _ Sk44]; done) | (rw [eq0 _ Sk44]; done) | rw [eqx _ Sk44,eqx _ Sk43] | rw [eq1 _ Sk44,eq1 _ Sk43] | rw [eq0 _ Sk44,eq0 _ Sk43],?_⟩
    refine Vec.app0 (n:=n1) (m:=1) Lk44 Zdb Zes Zet Zer hfy (rowi Ik44) rfl (by omega) (fun k45 lk45 ik45 tk45=>?_)
    simp only [Zae]
    have Pk45:k45[k44.length]?=some (.cells Zaa (Zdf eN (ys ++ [⟨i.1.1,i.1.2,a5,ni,c5,e5⟩])) false):=by rw [ik45,hfX]
    have Sk45:Zbb g6.length g6 k45:=⟨by omega,fun j hj=>by rw [tk45 j (by omega) (by omega)]; exact Sk44.eq j hj⟩
    have qk45:=Sk45.le
    have Wk45:=(tk45 _ (Own.lt Wk44) (by omega)).trans Wk44
    have Ik45:=(tk45 _ (Own.lt Ik44) (by omega)).trans Ik44
    refine ⟨by first | (rw [eqx _ Sk45]; done) | (rw [eq1 _ Sk45]; done) | (rw [eq0 _ Sk45]; done) | rw [eqx _ Sk45,eqx _ Sk44] | rw [eq1 _ Sk45,eq1 _ Sk44] | rw [eq0 _ Sk45,eq0 _ Sk44],by first | (rw [eqx _ Sk45]; done) | (rw [eq1 _ Sk45]; done) | (rw [eq0 _ Sk45]; done) | rw [eqx _ Sk45,eqx _ Sk44] | rw [eq1 _ Sk45,eq1 _ Sk44] | rw [eq0 _ Sk45,eq0 _ Sk44],by first | (rw [eqx _ Sk45]; done) | (rw [eq1 _ Sk45]; done) | (rw [eq0 _ Sk45]; done) | rw [eqx _ Sk45,eqx _ Sk44] | rw [eq1 _ Sk45,eq1 _ Sk44] | rw [eq0 _ Sk45,eq0 _ Sk44],?_⟩
    rw [Zay Wk45 (by simp)]
    simp only [Zam,Zbj,List.take_zero,List.length_cons,List.length_nil,List.drop_succ_cons,List.drop_zero,List.drop_nil,List.cons_append,List.nil_append,List.append_nil,Nat.zero_add]
    exact fin _ g6.length k44.length _ _ (Sk45.set' (by omega)) (by omega) (Zbm Wk45) ((Zbn (by omega)).trans Pk45) (by omega) (Nat.le_refl _)
   ·
    generalize hk46:k42 ++ [Zbv.cells Zaa [.str i.1.1,.str i.1.2,.slice a5 ni c5 e5] false]=k46
    have sk46:Zbb k42.length k42 k46:=by rw [← hk46]; exact Zan
    have lk46:k46.length=k42.length + 1:=by rw [← hk46]; simp
    have Sk46:=Sk42.cat sk46
    have qk46:=Sk46.le
    have Wk46:=sk46.get Wk42 (Own.lt Wk42)
    have Ek46:=sk46.get Ek42 (Own.lt Ek42)
    have Ik46:k46[k42.length]?=some (Zbv.cells Zaa [.str i.1.1,.str i.1.2,.slice a5 ni c5 e5] false):=by rw [← hk46]; simp
    refine ⟨by first | (rw [eqx _ Sk46]; done) | (rw [eq1 _ Sk46]; done) | (rw [eq0 _ Sk46]; done) | rw [eqx _ Sk46,eqx _ Sk42] | rw [eq1 _ Sk46,eq1 _ Sk42] | rw [eq0 _ Sk46,eq0 _ Sk42],by first | (rw [eqx _ Sk46]; done) | (rw [eq1 _ Sk46]; done) | (rw [eq0 _ Sk46]; done) | rw [eqx _ Sk46,eqx _ Sk42] | rw [eq1 _ Sk46,eq1 _ Sk42] | rw [eq0 _ Sk46,eq0 _ Sk42],?_⟩
    refine Vec.app0 (n:=0) (m:=n1) (cs:=[]) Ek46 Zdb Zes Zet Zer rfl (rowx k46 Sk46) (Zhv _) (by omega) (fun k47 lk47 ik47 tk47=>?_)
    simp only [Zae,Nat.zero_add]
    have Lk47:k47[k46.length]?=some (.cells Zaa (Zdf eN ys) false):=by rw [ik47]; simp
    have Sk47:Zbb g6.length g6 k47:=⟨by omega,fun j hj=>by rw [tk47 j (by omega) (by omega)]; exact Sk46.eq j hj⟩
    have qk47:=Sk47.le
    have Wk47:=(tk47 _ (Own.lt Wk46) (by omega)).trans Wk46
    have Ik47:=(tk47 _ (Own.lt Ik46) (by omega)).trans Ik46
    refine ⟨by first | (rw [eqx _ Sk47]; done) | (rw [eq1 _ Sk47]; done) | (rw [eq0 _ Sk47]; done) | rw [eqx _ Sk47,eqx _ Sk46] | rw [eq1 _ Sk47,eq1 _ Sk46] | rw [eq0 _ Sk47,eq0 _ Sk46],by first | (rw [eqx _ Sk47]; done) | (rw [eq1 _ Sk47]; done) | (rw [eq0 _ Sk47]; done) | rw [eqx _ Sk47,eqx _ Sk46] | rw [eq1 _ Sk47,eq1 _ Sk46] | rw [eq0 _ Sk47,eq0 _ Sk46],?_⟩
    refine Vec.app0 (n:=n1) (m:=1) Lk47 Zdb Zes Zet Zer hfy (rowi Ik47) rfl (by omega) (fun k48 lk48 ik48 tk48=>?_)
    simp only [Zae]
    have Pk48:k48[k47.length]?=some (.cells Zaa (Zdf eN (ys ++ [⟨i.1.1,i.1.2,a5,ni,c5,e5⟩])) false):=by rw [ik48,hfX]
    have Sk48:Zbb g6.length g6 k48:=⟨by omega,fun j hj=>by rw [tk48 j (by omega) (by omega)]; exact Sk47.eq j hj⟩
    have qk48:=Sk48.le
    have Wk48:=(tk48 _ (Own.lt Wk47) (by omega)).trans Wk47
    have Ik48:=(tk48 _ (Own.lt Ik47) (by omega)).trans Ik47
    refine ⟨by first | (rw [eqx _ Sk48]; done) | (rw [eq1 _ Sk48]; done) | (rw [eq0 _ Sk48]; done) | rw [eqx _ Sk48,eqx _ Sk47] | rw [eq1 _ Sk48,eq1 _ Sk47] | rw [eq0 _ Sk48,eq0 _ Sk47],by first | (rw [eqx _ Sk48]; done) | (rw [eq1 _ Sk48]; done) | (rw [eq0 _ Sk48]; done) | rw [eqx _ Sk48,eqx _ Sk47] | rw [eq1 _ Sk48,eq1 _ Sk47] | rw [eq0 _ Sk48,eq0 _ Sk47],by first | (rw [eqx _ Sk48]; done) | (rw [eq1 _ Sk48]; done) | (rw [eq0 _ Sk48]; done) | rw [eqx _ Sk48,eqx _ Sk47] | rw [eq1 _ Sk48,eq1 _ Sk47] | rw [eq0 _ Sk48,eq0 _ Sk47],?_⟩
    rw [Zay Wk48 (by simp)]
    simp only [Zam,Zbj,List.take_zero,List.length_cons,List.length_nil,List.drop_succ_cons,List.drop_zero,List.drop_nil,List.cons_append,List.nil_append,List.append_nil,Nat.zero_add]
    exact fin _ g6.length k47.length _ _ (Sk48.set' (by omega)) (by omega) (Zbm Wk48) ((Zbn (by omega)).trans Pk48) (by omega) (Nat.le_refl _)
  ·
   generalize hk49:k41 ++ [Zbv.cells Zaa [.str i.1.1,.str i.1.2,.slice a5 ni c5 e5] false]=k49
   have sk49:Zbb k41.length k41 k49:=by rw [← hk49]; exact Zan
   have lk49:k49.length=k41.length + 1:=by rw [← hk49]; simp
   have Sk49:=Sk41.cat sk49
   have qk49:=Sk49.le
   have Wk49:=sk49.get Wk41 (Own.lt Wk41)
   have Ik49:k49[k41.length]?=some (Zbv.cells Zaa [.str i.1.1,.str i.1.2,.slice a5 ni c5 e5] false):=by rw [← hk49]; simp
   refine ⟨by first | (rw [eqx _ Sk49]; done) | (rw [eq1 _ Sk49]; done) | (rw [eq0 _ Sk49]; done) | rw [eqx _ Sk49,eqx _ Sk41] | rw [eq1 _ Sk49,eq1 _ Sk41] | rw [eq0 _ Sk49,eq0 _ Sk41],by first | (rw [eqx _ Sk49]; done) | (rw [eq1 _ Sk49]; done) | (rw [eq0 _ Sk49]; done) | rw [eqx _ Sk49,eqx _ Sk41] | rw [eq1 _ Sk49,eq1 _ Sk41] | rw [eq0 _ Sk49,eq0 _ Sk41],?_⟩
   generalize hk50:k49 ++ [Zbv.cells Zaa [] false]=k50
   have sk50:Zbb k49.length k49 k50:=by rw [← hk50]; exact Zan
   have lk50:k50.length=k49.length + 1:=by rw [← hk50]; simp
   have Sk50:=Sk49.cat sk50
   have qk50:=Sk50.le
   have Wk50:=sk50.get Wk49 (Own.lt Wk49)
   have Ik50:=sk50.get Ik49 (Own.lt Ik49)
   have Ek50:k50[k49.length]?=some (Zbv.cells Zaa [] false):=by rw [← hk50]; simp
   refine ⟨by first | (rw [eqx _ Sk50]; done) | (rw [eq1 _ Sk50]; done) | (rw [eq0 _ Sk50]; done) | rw [eqx _ Sk50,eqx _ Sk49] | rw [eq1 _ Sk50,eq1 _ Sk49] | rw [eq0 _ Sk50,eq0 _ Sk49],by first | (rw [eqx _ Sk50]; done) | (rw [eq1 _ Sk50]; done) | (rw [eq0 _ Sk50]; done) | rw [eqx _ Sk50,eqx _ Sk49] | rw [eq1 _ Sk50,eq1 _ Sk49] | rw [eq0 _ Sk50,eq0 _ Sk49],by first | (rw [eqx _ Sk50]; done) | (rw [eq1 _ Sk50]; done) | (rw [eq0 _ Sk50]; done) | rw [eqx _ Sk50,eqx _ Sk49] | rw [eq1 _ Sk50,eq1 _ Sk49] | rw [eq0 _ Sk50,eq0 _ Sk49],?_⟩
   refine Vec.app0 (n:=0) (m:=n1) (cs:=[]) Ek50 Zdb Zes Zet Zer rfl (rowx k50 Sk50) (Zhv _) (by omega) (fun k51 lk51 ik51 tk51=>?_)
   simp only [Zae,Nat.zero_add]
   have Lk51:k51[k50.length]?=some (.cells Zaa (Zdf eN ys) false):=by rw [ik51]; simp
   have Sk51:Zbb g6.length g6 k51:=⟨by omega,fun j hj=>by rw [tk51 j (by omega) (by omega)]; exact Sk50.eq j hj⟩
   have qk51:=Sk51.le
   have Wk51:=(tk51 _ (Own.lt Wk50) (by omega)).trans Wk50
   have Ik51:=(tk51 _ (Own.lt Ik50) (by omega)).trans Ik50
   refine ⟨by first | (rw [eqx _ Sk51]; done) | (rw [eq1 _ Sk51]; done) | (rw [eq0 _ Sk51]; done) | rw [eqx _ Sk51,eqx _ Sk50] | rw [eq1 _ Sk51,eq1 _ Sk50] | rw [eq0 _ Sk51,eq0 _ Sk50],by first | (rw [eqx _ Sk51]; done) | (rw [eq1 _ Sk51]; done) | (rw [eq0 _ Sk51]; done) | rw [eqx _ Sk51,eqx _ Sk50] | rw [eq1 _ Sk51,eq1 _ Sk50] | rw [eq0 _ Sk51,eq0 _ Sk50],?_⟩
   refine Vec.app0 (n:=n1) (m:=1) Lk51 Zdb Zes Zet Zer hfy (rowi Ik51) rfl (by omega) (fun k52 lk52 ik52 tk52=>?_)
   simp only [Zae]
   have Pk52:k52[k51.length]?=some (.cells Zaa (Zdf eN (ys ++ [⟨i.1.1,i.1.2,a5,ni,c5,e5⟩])) false):=by rw [ik52,hfX]
   have Sk52:Zbb g6.length g6 k52:=⟨by omega,fun j hj=>by rw [tk52 j (by omega) (by omega)]; exact Sk51.eq j hj⟩
   have qk52:=Sk52.le
   have Wk52:=(tk52 _ (Own.lt Wk51) (by omega)).trans Wk51
   have Ik52:=(tk52 _ (Own.lt Ik51) (by omega)).trans Ik51
   refine ⟨by first | (rw [eqx _ Sk52]; done) | (rw [eq1 _ Sk52]; done) | (rw [eq0 _ Sk52]; done) | rw [eqx _ Sk52,eqx _ Sk51] | rw [eq1 _ Sk52,eq1 _ Sk51] | rw [eq0 _ Sk52,eq0 _ Sk51],by first | (rw [eqx _ Sk52]; done) | (rw [eq1 _ Sk52]; done) | (rw [eq0 _ Sk52]; done) | rw [eqx _ Sk52,eqx _ Sk51] | rw [eq1 _ Sk52,eq1 _ Sk51] | rw [eq0 _ Sk52,eq0 _ Sk51],by first | (rw [eqx _ Sk52]; done) | (rw [eq1 _ Sk52]; done) | (rw [eq0 _ Sk52]; done) | rw [eqx _ Sk52,eqx _ Sk51] | rw [eq1 _ Sk52,eq1 _ Sk51] | rw [eq0 _ Sk52,eq0 _ Sk51],?_⟩
   rw [Zay Wk52 (by simp)]
   simp only [Zam,Zbj,List.take_zero,List.length_cons,List.length_nil,List.drop_succ_cons,List.drop_zero,List.drop_nil,List.cons_append,List.nil_append,List.append_nil,Nat.zero_add]
   exact fin _ g6.length k51.length _ _ (Sk52.set' (by omega)) (by omega) (Zbm Wk52) ((Zbn (by omega)).trans Pk52) (by omega) (Nat.le_refl _)
def Ykp (w:Wd) (i:Ins) (h:Zab) (v:Zai) (h':Zab):Prop:=Zbb h.length h h'∧∃ b0 m0 d0 f0 b1 m1 d1 f1 ys,v=.tup [.agg [.slice b0 m0 d0 f0,.slice b1 m1 d1 f1],.bool (Zrm w i)]∧Zfw h.length h' b0 m0 b1 m1 ys (wiR w i)∧m0≤d0∧m1≤d1
theorem Zfw.low {b b':Nat} {h:Zab} {a0 a1:Pt} {n0 n1:Nat} {ys:List EI} {w:Wd} (f:Zfw b h a0 n0 a1 n1 ys w) (hb:b'≤b):Zfw b' h a0 n0 a1 n1 ys w:=
 ⟨f.cls.low hb,f.ins.low hb,f.len,fun k x i hx hi=>⟨(f.need k x i hx hi).1,(f.need k x i hx hi).2.1,(f.need k x i hx hi).2.2.low hb⟩,f.sep,f.nn,f.nc⟩
theorem Zgz {h:Zab} {a0 a1 ai:Pt} {n0 c0 n1 c1 ni ci:Nat} {e0 e1 ei:Bool} {w:Wd} {i:Ins} (r:Zip h a0 n0 c0 a1 n1 c1 w) (b:WB w) (bi:WB1 (wiW w i)) (ri:Row h.length h ai (ni * 2) (Zdf eP i.2)) (hni:ni≤1048576) :
  Zag pg Zdu [.agg [.slice a0 n0 c0 e0,.slice a1 n1 c1 e1],.agg [.str i.1.1,.str i.1.2,.slice ai ni ci ei]] h (Ykp w i h):=by
 apply Zjj.call
 simp only [Zbh]
 generalize hh0:h ++ [Zbv.cells Zac [.slice a0 n0 c0 e0,.slice a1 n1 c1 e1] false]=g0
 generalize hh1:g0 ++ [Zbv.cells Zaa [.str i.1.1,.str i.1.2,.slice ai ni ci ei] false]=g1
 generalize hh2:g1 ++ [Zbv.cells Zac [.slice none 0 0 true,.slice none 0 0 true] false]=g2
 have s0:Zbb h.length h g0:=by rw [← hh0]; exact Zan
 have s1:Zbb g0.length g0 g1:=by rw [← hh1]; exact Zan
 have s2:Zbb g1.length g1 g2:=by rw [← hh2]; exact Zan
 have l0:g0.length=h.length + 1:=by rw [← hh0]; simp
 have l1:g1.length=h.length + 2:=by rw [← hh1]; simp [l0]
 have l2:g2.length=h.length + 3:=by rw [← hh2]; simp [l1]
 have w0:g0[h.length]?=some (Zna a0 n0 c0 e0 a1 n1 c1 e1):=by rw [← hh0]; simp [Zna]
 have w2:=s2.get (s1.get w0 (by omega)) (by omega)
 have x1:g1[g0.length]?=some (.cells Zaa [.str i.1.1,.str i.1.2,.slice ai ni ci ei] false):=by rw [← hh1]; simp
 have x2:=s2.get x1 (by omega)
 have z2:g2[g1.length]?=some (.cells Zac [.slice none 0 0 true,.slice none 0 0 true] false):=by rw [← hh2]; simp
 have S2:=(s0.cat s1).cat s2
 rw [Yca w2,Zdt x2]
 simp only [Zar,Zah,Zal,Zae,Zaj]
 refine (Yak (i:=i) (r.same S2) b bi (ri.same' S2) hni).mono ?_
 rintro v g3 ⟨s3,b0,m0,d0,f0,b1,m1,d1,f1,rfl,r3⟩
 have S3:=S2.cat s3
 have z3:=s3.get z2 (Own.lt z2)
 have le3:=s3.le
 simp only [Zgi,Zah,Zcj,Zal,Zae,Zau]
 rw [Znm]
 simp only [Zam]
 generalize hh4:g3 ++ [Zbv.cells Zac [.slice b0 m0 d0 f0,.slice b1 m1 d1 f1] false]=g4
 have s4:Zbb g3.length g3 g4:=by rw [← hh4]; exact Zan
 have l4:g4.length=g3.length + 1:=by rw [← hh4]; simp
 have u4:g4[g3.length]?=some (.cells Zac [.slice b0 m0 d0 f0,.slice b1 m1 d1 f1] false):=by rw [← hh4]; simp
 have z4:=s4.get z3 (Own.lt z3)
 rw [Zck u4]
 simp only [Zar,Zah,Zal,Zae]
 refine (Zqi (r3.same s4) (Zyr bi)).mono ?_
 rintro v g5 ⟨p0,q0,t0,p1,q1,t1,ys,rfl,s5,F5,hd0,hd1,_,_⟩
 have z5:=s5.get z4 (Own.lt z4)
 have le5:=s5.le
 simp only [Zcj,Zah,Zal,Zae]
 rw [Zay z5 (by simp)]
 simp only [Zam,Zbj,List.take_zero,List.length_cons,List.length_nil,List.drop_succ_cons,List.drop_zero,List.drop_nil,List.cons_append,List.nil_append,List.append_nil,Nat.zero_add]
 rw [Zck (Zbm z5)]
 simp only [Zar,Zah,Zal,Zae]
 generalize hh6:g5.set g1.length (Zbv.cells Zac [.slice p0 m0 q0 t0,.slice p1 m1 q1 t1] false)=g6
 have k6:∀ j,g4.length≤j→j < g5.length→g6[j]?=g5[j]?:=fun j hj _=>by rw [← hh6,Zbn (by omega)]
 have F6:Zfw g4.length g6 p0 m0 p1 m1 ys (wiR w i):=⟨F5.cls.keep (Nat.le_refl _) k6,F5.ins.keep (Nat.le_refl _) k6,F5.len,fun k x i hx hi=>⟨(F5.need k x i hx hi).1,(F5.need k x i hx hi).2.1,(F5.need k x i hx hi).2.2.keep (Nat.le_refl _) k6⟩,F5.sep,F5.nn,F5.nc⟩
 refine ⟨by rw [← hh6]; exact ((S3.cat s4).cat s5).set' (by omega),p0,m0,q0,t0,p1,m1,q1,t1,ys,rfl,F6.low (by have:=S3.le; have:=s4.le; omega),hd0,hd1⟩
end Go.Sim
