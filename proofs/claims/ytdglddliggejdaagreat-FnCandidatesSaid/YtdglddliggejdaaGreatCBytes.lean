/- A part of the proof of a statement of this seat: see the text that holds the theorem. No condition. -/
import Derived.Test.YtdglddliggejdaaGreatPTCDrawV
import Derived.Test.YtdglddliggejdaaGreatCDrawU
import Derived.Test.YtdglddliggejdaaGreatCGrT
import Derived.Test.YtdglddliggejdaaGreatCWVar2
import Derived.Test.YtdglddliggejdaaGreatNm
import Derived.Test.YtdglddliggejdaaGreatCSup2
import Derived.Test.YtdglddliggejdaaGreatPTCIn
import Derived.Test.YtdglddliggejdaaGreatCSTy
import Derived.Test.YtdglddliggejdaaGreatPTCSUn6
set_option linter.unusedVariables false
set_option linter.unusedSimpArgs false
set_option linter.all false
set_option linter.unusedVariables false
set_option linter.unusedSimpArgs false
set_option maxRecDepth 20000
namespace Go.Sim
open Go Go.RowKit

def Yun (i p:Nat) (h:Zaa) (v:Zas) (h':Zaa):Prop:=∃ u w,∃ nd:Nd,v=.tup [.agg u,.agg [.str nd.1,.str nd.2]]∧Yva h h' u w∧WS 1021 w∧nd.1.length≤1000∧nd.2.length≤1000∧RdK i p 300000 h h'
theorem WDr.setN {b:Nat} {h:Zaa} {a0:Pt} {n0 c0 q n1 c1:Nat} {ys:List EI} {w:Wd} {z:Nat} {x:Zcc} (d:WDr b h a0 n0 c0 q n1 c1 ys w) (hz:z < b):WDr b (h.set z x) a0 n0 c0 q n1 c1 ys w:=d.keep fun j hj hl=>Zbl (by omega)
theorem Ymm {h:Zaa} {i p:Nat} (r:Rdr h i p) (hp:p≤500000000000):Zah pg Zly [.ptr (some (i,0))] h (Yun i p h):=by
 have hil:=r.lt
 apply Zib.call
 simp only [Zax]
 generalize hg0:h ++ [Zcc.cells Zad [.slice none 0 0 true,.slice none 0 0 true] false]=g0
 have s0:Zbe h.length h g0:=by rw [← hg0]; exact Zao
 have w0:g0[h.length]?=some (.cells Zad [.slice none 0 0 true,.slice none 0 0 true] false):=by rw [← hg0]; simp
 have l0:g0.length=h.length + 1:=by rw [← hg0]; simp
 generalize hg1:g0 ++ [Zcc.cells Zae [.str [],.str []] false]=g1
 have s1:Zbe g0.length g0 g1:=by rw [← hg1]; exact Zao
 have w1:=s1.get w0 (Own.lt w0)
 have n1':g1[g0.length]?=some (.cells Zae [.str [],.str []] false):=by rw [← hg1]; simp
 have l1:g1.length=g0.length + 1:=by rw [← hg1]; simp
 have S1:=s0.cat s1
 refine (Yni (r.same S1) (by omega)).mono ?_
 rintro v g3 ⟨u,w,rfl,⟨a0,n0,c0,e0,q,n1,c1,e1,ys,rfl,d⟩,ws,K3,p3,hp1,hp2,R3⟩
 have w3:=K3.get w1 (by omega)
 have m3:=K3.get n1' (by omega)
 have l3:=K3.le
 have d:=d.low (show g1.length≤g1.length by omega)
 simp only [Zde,Zaj,Zaf,Zar]
 rw [Zgk]
 simp only [Zat]
 generalize hg4:g3 ++ [Zcc.cells Zad [.slice a0 n0 c0 e0,.slice (some (q,0)) n1 c1 e1] false]=g4
 have s4:Zbe g3.length g3 g4:=by rw [← hg4]; exact Zao
 have y4:g4[g3.length]?=some (.cells Zad [.slice a0 n0 c0 e0,.slice (some (q,0)) n1 c1 e1] false):=by rw [← hg4]; simp
 have l4:g4.length=g3.length + 1:=by rw [← hg4]; simp
 have w4:=s4.get w3 (Own.lt w3)
 have m4:=s4.get m3 (Own.lt m3)
 have d4:=d.same s4
 have KK4:=((Zdp.of_same (i:=i) S1).trans K3).trans (Zdp.of_same s4)
 rw [Zbk y4]
 simp only [Zau,Zaj,Zar,Zaf]
 refine (Yfd (R3.same s4) (by omega) d4 (by omega) ws).mono ?_
 rintro v g5 ⟨s,rfl,hs,K5,p5,hp3,hp4,R5⟩
 simp only [Zam]
 refine (Zdd R5 (by omega) 4).mono ?_
 rintro v g6 ⟨x,rfl,hx0,hx1,_,K6,R6,l6⟩
 have hx1:=hx1 (by omega)
 simp only [Zaq]
 refine (Zdd R6 (by omega) 4).mono ?_
 rintro v g7 ⟨y,rfl,hy0,hy1,_,K7,R7,l7⟩
 simp only [Zaq]
 obtain ⟨dd,rfl⟩:∃ d:Nat,x=d:=⟨x.toNat,by omega⟩
 have hdd:dd≤3:=by omega
 have hB:4 ^ (dd + 1)≤256:=by
  have:dd=0 ∨ dd=1 ∨ dd=2 ∨ dd=3:=by omega
  rcases this with rfl | rfl | rfl | rfl <;> decide
 refine (Zts dd (by omega) R7 (by omega) _).mono ?_
 rintro v g8 ⟨t,rfl,hok,hlen,K8,p8,hp5,hp6,R8⟩
 generalize htt:t.txt=tt at hlen
 have K48:Zdp i g4 g8:=((K5.trans K6).trans K7).trans K8
 have y8:=K48.get y4 (by omega)
 have w8:=K48.get w4 (by omega)
 have m8:=K48.get m4 (by omega)
 have d8:=d4.kp K48 (by omega)
 have KK8:=KK4.trans K48
 simp only [Zam]
 rw [Zgk]
 simp only [Zat]
 generalize hg9:g8 ++ [Zcc.cells Zae [.str s,.str tt] false]=g9
 have s9:Zbe g8.length g8 g9:=by rw [← hg9]; exact Zao
 have v9:g9[g8.length]?=some (.cells Zae [.str s,.str tt] false):=by rw [← hg9]; simp
 have l9:g9.length=g8.length + 1:=by rw [← hg9]; simp
 have y9:=s9.get y8 (Own.lt y8)
 have w9:=s9.get w8 (Own.lt w8)
 have m9:=s9.get m8 (Own.lt m8)
 have d9:=d8.same s9
 have R9:=R8.same s9
 have KK9:=KK8.trans (Zdp.of_same s9)
 have hKl:=KK8.le
 have hK48l:=K48.le
 -- the results
 have out:∀ (G:Zaa) (p':Nat) (nd:Nd),Zdp i h G→Rdr G i p'→p≤p'→p'≤p + 300000→G[h.length]?=some (.cells Zad [.slice a0 n0 c0 e0,.slice (some (q,0)) n1 c1 e1] false)→G[g0.length]?=some (.cells Zae [.str nd.1,.str nd.2] false)→WDr g1.length G a0 n0 c0 q n1 c1 ys w→nd.1.length≤1000→nd.2.length≤1000 →
   Zcb (Zan G (.ptr (some (h.length,0))) 2) fun cs_101=>Zag cs_101 fun c_102 r_103=>xSl (some c_102) fun a_104 n_105 c_106 e_107=>Zag r_103 fun c_108 r_109=>xSl (some c_108) fun a_110 n_111 c_112 e_113=>Zbu r_109 (Zcb (Zan G (.ptr (some (g0.length,0))) 2) fun cs_114=>Zag cs_114 fun c_115 r_116=>Zbn (some c_115) fun s_117=>Zag r_116 fun c_118 r_119=>Zbn (some c_118) fun s_120=>Zbu r_119 (Yun i p h (.tup [.agg [.slice a_104 n_105 c_106 e_107,.slice a_110 n_111 c_112 e_113],.agg [.str s_117,.str s_120]]) G)):=by
  intro G p' nd KG RG h1 h2 wG mG dG hn1 hn2
  rw [Zbk wG,Zbk mG]
  simp only [Zau,Zaj,Zar,Zaf,Zam]
  exact ⟨_,w,nd,rfl,⟨a0,n0,c0,e0,q,n1,c1,e1,ys,rfl,dG.low (by omega)⟩,ws,hn1,hn2,KG,p',h1,h2,RG⟩
 have fin8:∀ (G:Zaa) (p':Nat) (nd:Nd),Zdp i h G→Rdr G i p'→p≤p'→p'≤p + 300000→G[h.length]?=some (.cells Zad [.slice none 0 0 true,.slice none 0 0 true] false)→G[g0.length]?=some (.cells Zae [.str [],.str []] false)→G[g3.length]?=some (.cells Zad [.slice a0 n0 c0 e0,.slice (some (q,0)) n1 c1 e1] false)→G[g8.length]?=some (.cells Zae [.str nd.1,.str nd.2] false) →
   WDr g1.length G a0 n0 c0 q n1 c1 ys w→nd.1.length≤1000→nd.2.length≤1000→Zib.J8 (Yun i p h) g3.length 0 g8.length 0 h.length 0 g0.length 0 G:=by
  intro G p' nd KG RG h1 h2 wG mG yG vG dG hn1 hn2
  apply Zib.J8i
  rw [Zbk yG,Zbk vG]
  simp only [Zau,Zaj,Zar,Zaf,Zam]
  rw [Zba wG (by simp)]
  simp only [Zat,putRow,List.take_zero,List.length_cons,List.length_nil,List.drop_succ_cons,List.drop_zero,List.drop_nil,List.cons_append,List.nil_append,List.append_nil,Nat.zero_add]
  have w1:=Zbv wG (x:=.cells Zad [.slice a0 n0 c0 e0,.slice (some (q,0)) n1 c1 e1] false)
  have m1:(G.set h.length (.cells Zad [.slice a0 n0 c0 e0,.slice (some (q,0)) n1 c1 e1] false))[g0.length]?=some (.cells Zae [.str [],.str []] false):=by rw [Zbl (by omega)]; exact mG
  have v1:(G.set h.length (.cells Zad [.slice a0 n0 c0 e0,.slice (some (q,0)) n1 c1 e1] false))[g8.length]?=some (.cells Zae [.str nd.1,.str nd.2] false):=by rw [Zbl (by omega)]; exact vG
  refine ⟨by rw [Zbk v1],?_⟩
  rw [Zba m1 (by simp)]
  simp only [Zat,putRow,List.take_zero,List.length_cons,List.length_nil,List.drop_succ_cons,List.drop_zero,List.drop_nil,List.cons_append,List.nil_append,List.append_nil,Nat.zero_add]
  have rk:RdK i p 300000 h G:=⟨KG,p',h1,h2,RG⟩
  obtain ⟨KX,pX,hX1,hX2,RX⟩:=(rk.setW (z:=h.length) (x:=.cells Zad [.slice a0 n0 c0 e0,.slice (some (q,0)) n1 c1 e1] false) (Nat.le_refl _) hil).setW (z:=g0.length) (x:=.cells Zae [.str nd.1,.str nd.2] false) (by omega) hil
  exact out _ pX nd KX RX hX1 hX2 (by rw [Zbl (by omega)]; exact w1) (Zbv m1) ((dG.setN (by omega)).setN (by omega)) hn1 hn2
 have fin6:∀ (G:Zaa) (p':Nat),Zdp i g9 G→Rdr G i p'→p≤p'→p'≤p + 250000→Zib.J6 (Yun i p h) (some (i,0)) g8.length 0 g3.length 0 h.length 0 g0.length 0 G:=by
  intro G p' KG RG h1 h2
  apply Zib.J6i
  refine (Zdd RG (by omega) 20).mono ?_
  rintro v k1 ⟨z,rfl,_,_,_,K1,R1,_⟩
  have K91:=KG.trans K1
  have w1:=K91.get w9 (by omega)
  have m1:=K91.get m9 (by omega)
  have y1:=K91.get y9 (by omega)
  have v1:=K91.get v9 (by omega)
  have d1:=d9.kp K91 (by omega)
  simp only [Zaq]
  refine Zcs (fun _=>?_) (fun _=>?_)
  ·refine (Yqf R1 (by omega)).mono ?_
   rintro v k2 ⟨s',rfl,hs',K2,p2,hp7,hp8,R2⟩
   have K92:=K91.trans K2
   have v2:=K2.get v1 (by omega)
   simp only [Zam]
   rw [Zba v2 (by simp)]
   simp only [Zat,putRow,List.take_succ_cons,List.take_zero,List.length_cons,List.length_nil,List.drop_succ_cons,List.drop_zero,List.drop_nil,List.cons_append,List.nil_append,List.append_nil,Nat.zero_add]
   have rk:RdK i p 300000 h k2:=⟨KK9.trans K92,p2,by omega,by omega,R2⟩
   obtain ⟨KX,pX,hX1,hX2,RX⟩:=rk.setW (z:=g8.length) (x:=.cells Zae [.str s,.str s'] false) (by omega) hil
   have dX:WDr g1.length (k2.set g8.length (.cells Zae [.str s,.str s'] false)) a0 n0 c0 q n1 c1 ys w:=by
    have d2:=d1.kp K2 (by omega)
    -- nothing of the world is that need
    have d8':=d8.kp ((Zdp.of_same (i:=i) s9).trans K92) (by omega)
    have hsub:∀ j,g1.length≤j→j < g8.length→(k2.set g8.length (.cells Zae [.str s,.str s'] false))[j]?=g8[j]?:=fun j hj hjl=>by rw [Zbl (by omega),K92.eq j (by omega) (by omega),s9.eq j hjl]
    exact d8.keep hsub
   exact fin8 _ pX (s,s') KX RX hX1 hX2 (by rw [Zbl (by omega)]; exact K2.get w1 (by omega)) (by rw [Zbl (by omega)]; exact K2.get m1 (by omega)) (by rw [Zbl (by omega)]; exact K2.get y1 (by omega)) (Zbv v2) dX hs hs'
  ·exact fin8 k1 _ (s,tt) (KK9.trans K91) R1 (by omega) (by omega) w1 m1 y1 v1 d1 hs (by simp only; omega)
 simp only [Zak y9,Nat.zero_add,List.getElem?_cons_succ,List.getElem?_cons_zero,Zaf]
 refine Zav (fun hpos=>?_) (fun _=>fin6 g9 p8 (Zdp.refl _ _) R9 (by omega) (by omega))
 refine (Zdd R9 (by omega) 2).mono ?_
 rintro v ga ⟨z,rfl,_,_,_,Ka,Ra,la⟩
 simp only [Zaq]
 refine Zcs (fun _=>?_) (fun _=>fin6 ga _ Ka Ra (by omega) (by omega))
 have ya:=Ka.get y9 (by omega)
 have wa:=Ka.get w9 (by omega)
 have ma:=Ka.get m9 (by omega)
 have hya:=Own.lt ya
 -- an instance's form
 have mid:∀ (G:Zaa) (p' z k:Nat) (hk:k < w.is.length) (na:Pt) (nn nc:Nat) (ne:Bool),Zdp i ga G→Rdr G i p'→p≤p'→p'≤p + 250000→ga.length≤z→G[z]?=some (.cells Zac [.str [],.str [],.slice none 0 0 true] false) →
   Zbx (Zbb G (.ptr (some (z,0))) [.str w.is[k].1.1,.str w.is[k].1.2,.slice na nn nc ne]) fun h_80=>Zcb (Zan h_80 (.ptr (some (g3.length,0))) 2) fun cs_81=>Zag cs_81 fun c_82 r_83=>xSl (some c_82) fun a_84 n_85 c_86 e_87=>Zag r_83 fun c_88 r_89=>xSl (some c_88) fun a_90 n_91 c_92 e_93=>Zbu r_89 (Zbn (Zai h_80 (.ptr (some (z,0 + 0 + 0)))) fun s_94=>Zbn (Zai h_80 (.ptr (some (z,0 + 0 + 1)))) fun s_95=>(Zai h_80 (.ptr (some (z,0 + 0 + 0)))=Zai h_80 (.ptr (some (z,0 + 0 + 0))))∧(Zan h_80 (.ptr (some (g3.length,0))) 2=Zan h_80 (.ptr (some (g3.length,0))) 2)∧Zah pg Zju [.ptr (some (i,0)),.str s_95] h_80 fun v_96 h_97=>
    Zbn (some v_96) fun s_98=>(Zai h_97 (.ptr (some (z,0 + 0 + 0)))=Zai h_80 (.ptr (some (z,0 + 0 + 0))))∧(Zan h_97 (.ptr (some (g3.length,0))) 2=Zan h_80 (.ptr (some (g3.length,0))) 2)∧Zbx (Zbb h_97 (.ptr (some (h.length,0))) [.slice a_84 n_85 c_86 e_87,.slice a_90 n_91 c_92 e_93]) fun h_99=>(Zai h_99 (.ptr (some (z,0 + 0 + 0)))=Zai h_97 (.ptr (some (z,0 + 0 + 0))))∧Zbx (Zbb h_99 (.ptr (some (g0.length,0))) [.str s_94,.str s_98]) fun h_100=>Zcb (Zan h_100 (.ptr (some (h.length,0))) 2) fun cs_101=>Zag cs_101 fun c_102 r_103=>xSl (some c_102) fun a_104 n_105 c_106 e_107=>Zag r_103 fun c_108 r_109=>xSl (some c_108) fun a_110 n_111 c_112 e_113=>Zbu r_109 (Zcb (Zan h_100 (.ptr (some (g0.length,0))) 2) fun cs_114=>Zag cs_114 fun c_115 r_116=>Zbn (some c_115) fun s_117=>Zag r_116 fun c_118 r_119=>Zbn (some c_118) fun s_120=>Zbu r_119 (Yun i p h (.tup [.agg [.slice a_104 n_105 c_106 e_107,.slice a_110 n_111 c_112 e_113],.agg [.str s_117,.str s_120]]) h_100))):=by
  intro G p' z k hk na nn nc ne KG RG h1 h2 hz iG
  have hzG:=Own.lt iG
  rw [Zba iG (by simp)]
  simp only [Zat,putRow,List.take_zero,List.length_cons,List.length_nil,List.drop_succ_cons,List.drop_zero,List.drop_nil,List.cons_append,List.nil_append,List.append_nil,Nat.zero_add,Nat.add_zero]
  have i2:=Zbv iG (x:=.cells Zac [.str w.is[k].1.1,.str w.is[k].1.2,.slice na nn nc ne] false)
  have low:∀ j,j≠z→(G.set z (.cells Zac [.str w.is[k].1.1,.str w.is[k].1.2,.slice na nn nc ne] false))[j]?=G[j]?:=fun j hj=>Zbl (fun e=>hj e.symm)
  have l2:(G.set z (.cells Zac [.str w.is[k].1.1,.str w.is[k].1.2,.slice na nn nc ne] false)).length=G.length:=by simp
  generalize G.set z (.cells Zac [.str w.is[k].1.1,.str w.is[k].1.2,.slice na nn nc ne] false)=G2 at i2 low l2 ⊢
  have K9G:=Ka.trans KG
  have KG2:Zdp i ga G2:=⟨by have:=KG.le; omega,fun j hj hji=>by rw [low j (by omega)]; exact KG.eq j hj hji⟩
  have K92:=Ka.trans KG2
  have R2:Rdr G2 i p':=RG.agree (fun j hj=>low j (by have:=Ra.lt; omega)) (by omega)
  have y2:=KG2.get ya (by omega)
  have w2:=KG2.get wa (by omega)
  have m2:=KG2.get ma (by omega)
  have d2:=d9.kp K92 (by omega)
  have hin:=ws.is _ (List.getElem_mem hk)
  rw [Zbk y2]
  simp only [Zau,Zaj,Zar,Zaf,Zak i2,List.getElem?_cons_succ,List.getElem?_cons_zero,Zam,true_and]
  refine (Ylm R2 (by omega) (by omega)).mono ?_
  rintro v G3 ⟨s',rfl,hs',K3',p3',hq1,hq2,R3'⟩
  have K93:=K92.trans K3'
  have i3:=K3'.get i2 (by have:=Ra.lt; omega)
  have y3:=K3'.get y2 (by omega)
  have w3':=K3'.get w2 (by omega)
  have m3':=K3'.get m2 (by omega)
  have d3:=d2.kp K3' (by omega)
  simp only [Zam]
  refine ⟨by rw [Zak i3]; rfl,by rw [Zbk y3],?_⟩
  rw [Zba w3' (by simp)]
  simp only [Zat,putRow,List.take_zero,List.length_cons,List.length_nil,List.drop_succ_cons,List.drop_zero,List.drop_nil,List.cons_append,List.nil_append,List.append_nil,Nat.zero_add]
  have w4':=Zbv w3' (x:=.cells Zad [.slice a0 n0 c0 e0,.slice (some (q,0)) n1 c1 e1] false)
  have hK9:=KK9.le
  have hKa:=Ka.le
  have hzh:h.length≠z:=by omega
  have hzg:g0.length≠z:=by omega
  have m4':(G3.set h.length (.cells Zad [.slice a0 n0 c0 e0,.slice (some (q,0)) n1 c1 e1] false))[g0.length]?=some (.cells Zae [.str [],.str []] false):=by rw [Zbl (by omega)]; exact m3'
  have i4:(G3.set h.length (.cells Zad [.slice a0 n0 c0 e0,.slice (some (q,0)) n1 c1 e1] false))[z]?=some (.cells Zac [.str w.is[k].1.1,.str w.is[k].1.2,.slice na nn nc ne] false):=by rw [Zbl hzh]; exact i3
  refine ⟨by rw [Zak i4,Zak i3],?_⟩
  rw [Zba m4' (by simp)]
  simp only [Zat,putRow,List.take_zero,List.length_cons,List.length_nil,List.drop_succ_cons,List.drop_zero,List.drop_nil,List.cons_append,List.nil_append,List.append_nil,Nat.zero_add]
  have rk:RdK i p 300000 h G3:=⟨KK9.trans K93,p3',by omega,by omega,R3'⟩
  obtain ⟨KX,pX,hX1,hX2,RX⟩:=(rk.setW (z:=h.length) (x:=.cells Zad [.slice a0 n0 c0 e0,.slice (some (q,0)) n1 c1 e1] false) (Nat.le_refl _) hil).setW (z:=g0.length) (x:=.cells Zae [.str w.is[k].1.1,.str s'] false) (by omega) hil
  exact out _ pX (w.is[k].1.1,s') KX RX hX1 hX2 (by rw [Zbl (by omega)]; exact w4') (Zbv m4') ((d3.setN (by omega)).setN (by omega)) hin.1 hs'
 have hn1:(n1:Int)=((n1:Nat):Int):=rfl
 simp only [Zak ya,List.getElem?_cons_succ,List.getElem?_cons_zero,Zaf]
 refine ⟨?_,?_⟩
 ·refine (Zdd Ra (by omega) (n1:Int)).mono ?_
  rintro v gb ⟨x,rfl,hx0,hx1,_,Kb,Rb,lb⟩
  have hx1:=hx1 (by omega)
  obtain ⟨k,rfl⟩:∃ k:Nat,x=k:=⟨x.toNat,by omega⟩
  have yb:=Kb.get ya (by omega)
  obtain ⟨ii,oo,hkl,na,nn,nc,ne,ha,hii,hr,_,_,_,hrow,hln⟩:=(d9.kp (Ka.trans Kb) (by omega)).rep.inst (k:=k) (by omega)
  cases ha
  simp only [Zaq,Zak yb,List.getElem?_cons_succ,List.getElem?_cons_zero,Zaw,Int.toNat_natCast,Nat.zero_add,true_and]
  simp only [Nat.zero_add] at hr
  refine ⟨⟨by omega,by omega⟩,?_⟩
  rw [hr]
  simp only [Zau,Zaj,Zar,Zam,Zaf]
  generalize hgc:gb ++ [Zcc.cells Zac [.str [],.str [],.slice none 0 0 true] false]=gc
  have sc:Zbe gb.length gb gc:=by rw [← hgc]; exact Zao
  have ic:gc[gb.length]?=some (.cells Zac [.str [],.str [],.slice none 0 0 true] false):=by rw [← hgc]; simp
  have yc:=sc.get yb (Own.lt yb)
  have hrc:Zan gc (.ptr (some (q,k * 3))) 3=Zan gb (.ptr (some (q,k * 3))) 3:=by simp only [Zan,sc.eq q hii]
  refine ⟨by rw [hrc,hr],by rw [Zak yc]; rfl,by rw [Zak yc]; rfl,?_⟩
  have:=mid gc _ gb.length k hkl na nn nc ne (Kb.trans (Zdp.of_same sc)) (Rb.same sc) (by omega) (by omega) (by omega) ic
  simpa only [Nat.zero_add,Nat.add_zero,true_and,eq_self] using this
 ·generalize hgc:ga ++ [Zcc.cells Zac [.str [],.str [],.slice none 0 0 true] false]=gc
  have sc:Zbe ga.length ga gc:=by rw [← hgc]; exact Zao
  have ic:gc[ga.length]?=some (.cells Zac [.str [],.str [],.slice none 0 0 true] false):=by rw [← hgc]; simp
  have yc:=sc.get ya (Own.lt ya)
  refine ⟨by rw [Zak yc]; rfl,by rw [Zak yc]; rfl,?_⟩
  refine (Zdd (Ra.same sc) (by omega) (n1:Int)).mono ?_
  rintro v gb ⟨x,rfl,hx0,hx1,_,Kb,Rb,lb⟩
  have hx1:=hx1 (by omega)
  obtain ⟨k,rfl⟩:∃ k:Nat,x=k:=⟨x.toNat,by omega⟩
  have yb:=Kb.get yc (by omega)
  have ib:=Kb.get ic (by have:=Ra.lt; omega)
  have Kcb:=(Zdp.of_same (i:=i) sc).trans Kb
  obtain ⟨ii,oo,hkl,na,nn,nc,ne,ha,hii,hr,_,_,_,hrow,hln⟩:=(d9.kp (Ka.trans Kcb) (by omega)).rep.inst (k:=k) (by omega)
  cases ha
  simp only [Zaq,Zak yb,List.getElem?_cons_succ,List.getElem?_cons_zero,Zaw,Int.toNat_natCast,Nat.zero_add,true_and]
  simp only [Nat.zero_add] at hr
  refine ⟨by rw [Zak yc]; rfl,by rw [Zak yc]; rfl,⟨by omega,by omega⟩,?_⟩
  rw [hr]
  simp only [Zau,Zaj,Zar,Zam,Zaf]
  have:=mid gb _ ga.length k hkl na nn nc ne Kcb Rb (by omega) (by omega) (by omega) ib
  simpa only [Nat.zero_add,Nat.add_zero,true_and,eq_self] using this
end Go.Sim

set_option linter.unusedVariables false
set_option linter.unusedSimpArgs false
set_option maxRecDepth 20000
namespace Go.Sim
open Go Go.RowKit

end Go.Sim

set_option linter.unusedVariables false
set_option linter.unusedSimpArgs false
set_option maxRecDepth 20000
namespace Go.Sim
open Go Go.RowKit
end Go.Sim

set_option linter.unusedVariables false
set_option linter.unusedSimpArgs false
set_option maxRecDepth 20000
namespace Go.Sim
open Go Go.RowKit

end Go.Sim

set_option linter.unusedVariables false
set_option linter.unusedSimpArgs false
set_option maxRecDepth 20000
namespace Go.Sim
open Go Go.RowKit

def DRM (h:Zaa) (v:Zas) (h':Zaa):Prop:=∃ a0 n0 c0 e0 a1 n1 c1 e1 w,∃ nd:Nd,v=.tup [.agg [.slice a0 n0 c0 e0,.slice a1 n1 c1 e1],.agg [.str nd.1,.str nd.2]]∧Zbe h.length h h'∧Zpz h' a0 n0 c0 a1 n1 c1 w∧WB w∧nd.1.length≤1000∧nd.2.length≤1000
theorem Yis {h:Zaa} {a:Pt} {n c:Nat} {e:Bool} {l:List Nat} (r:Row h.length h a n (Zdq eB l)) (hb:∀ b∈l,b < 256) (hnc:n≤c) :
  Zah pg Zkw [.slice a n c e] (h ++ [.cells Zad [.slice none 0 0 true,.slice none 0 0 true] false] ++ [.cells Zae [.str [],.str []] false]) fun v_2 h_3=>
   Zfc (some v_2) fun a_4=>Zah pg Zly [.ptr a_4] h_3 fun v_5 h_6=>
   Zru v_5 fun cs_7=>Zag cs_7 fun c_8 r_9=>Zmv c_8 fun cs_10=>Zag cs_10 fun c_11 r_12=>xSl (some c_11) fun a_13 n_14 c_15 e_16=>Zag r_12 fun c_17 r_18=>xSl (some c_17) fun a_19 n_20 c_21 e_22=>Zbu r_18 (Zag r_9 fun c_23 r_24=>Zmv c_23 fun cs_25=>Zag cs_25 fun c_26 r_27=>Zbn (some c_26) fun s_28=>Zag r_27 fun c_29 r_30=>Zbn (some c_29) fun s_31=>Zbu r_30 (Zbu r_24 (Zbx (Zbb h_6 (.ptr (some (List.length h,0))) [.slice a_13 n_14 c_15 e_16,.slice a_19 n_20 c_21 e_22]) fun h_32=>Zbx (Zbb h_32 (.ptr (some (List.length (h ++ [.cells Zad [.slice none 0 0 true,.slice none 0 0 true] false]),0))) [.str s_28,.str s_31]) fun h_33=>Zcb (Zan h_33 (.ptr (some (List.length h,0))) 2) fun cs_34=>Zag cs_34 fun c_35 r_36=>xSl (some c_35) fun a_37 n_38 c_39 e_40=>Zag r_36 fun c_41 r_42=>xSl (some c_41) fun a_43 n_44 c_45 e_46=>Zbu r_42 (Zcb (Zan h_33 (.ptr (some (List.length (h ++ [.cells Zad [.slice none 0 0 true,.slice none 0 0 true] false]),0))) 2) fun cs_47=>Zag cs_47 fun c_48 r_49=>Zbn (some c_48) fun s_50=>Zag r_49 fun c_51 r_52=>Zbn (some c_51) fun s_53=>Zbu r_52 (DRM h (.tup [.agg [.slice a_37 n_38 c_39 e_40,.slice a_43 n_44 c_45 e_46],.agg [.str s_50,.str s_53]]) h_33))))):=by
 generalize hg0:h ++ [Zcc.cells Zad [.slice none 0 0 true,.slice none 0 0 true] false]=g0
 have s0:Zbe h.length h g0:=by rw [← hg0]; exact Zao
 have w0:g0[h.length]?=some (.cells Zad [.slice none 0 0 true,.slice none 0 0 true] false):=by rw [← hg0]; simp
 have l0:g0.length=h.length + 1:=by rw [← hg0]; simp
 generalize hg1:g0 ++ [Zcc.cells Zae [.str [],.str []] false]=g1
 have s1:Zbe g0.length g0 g1:=by rw [← hg1]; exact Zao
 have w1:=s1.get w0 (Own.lt w0)
 have n1':g1[g0.length]?=some (.cells Zae [.str [],.str []] false):=by rw [← hg1]; simp
 have l1:g1.length=g0.length + 1:=by rw [← hg1]; simp
 have S1:=s0.cat s1
 refine (Yij (r.same' S1) hb hnc).mono ?_
 rintro v g2 ⟨rfl,s2,R2,l2⟩
 simp only [Zdu]
 have w2:=s2.get w1 (Own.lt w1)
 have n2:=s2.get n1' (Own.lt n1')
 refine (Ymm R2 (by omega)).mono ?_
 rintro v g3 ⟨u,w,nd,rfl,⟨a0,n0,c0,e0,q,n1,c1,e1,ys,rfl,d⟩,ws,hn1,hn2,K3,p3,_,_,R3⟩
 have w3:=K3.get w2 (by omega)
 have n3:=K3.get n2 (by omega)
 simp only [Zdx,Zaj,Zde,Zaf,Zam,Zar]
 rw [Zba w3 (by simp)]
 simp only [Zat,putRow,List.take_zero,List.length_cons,List.length_nil,List.drop_succ_cons,List.drop_zero,List.drop_nil,List.cons_append,List.nil_append,List.append_nil,Nat.zero_add]
 have w4:=Zbv w3 (x:=.cells Zad [.slice a0 n0 c0 e0,.slice (some (q,0)) n1 c1 e1] false)
 have n4:(g3.set h.length (.cells Zad [.slice a0 n0 c0 e0,.slice (some (q,0)) n1 c1 e1] false))[g0.length]?=some (.cells Zae [.str [],.str []] false):=by rw [Zbl (by omega)]; exact n3
 rw [Zba n4 (by simp)]
 simp only [Zat,putRow,List.take_zero,List.length_cons,List.length_nil,List.drop_succ_cons,List.drop_zero,List.drop_nil,List.cons_append,List.nil_append,List.append_nil,Nat.zero_add]
 have w5:((g3.set h.length (.cells Zad [.slice a0 n0 c0 e0,.slice (some (q,0)) n1 c1 e1] false)).set g0.length (.cells Zae [.str nd.1,.str nd.2] false))[h.length]?=some (.cells Zad [.slice a0 n0 c0 e0,.slice (some (q,0)) n1 c1 e1] false):=by rw [Zbl (by omega)]; exact w4
 rw [Zbk w5,Zbk (Zbv n4)]
 simp only [Zau,Zaj,Zar,Zaf,Zam]
 have K3l:=K3.le
 exact ⟨a0,n0,c0,e0,_,n1,c1,e1,w,nd,rfl,⟨by simp; omega,fun j hj=>by rw [Zbl (by omega),Zbl (by omega),K3.eq j (by omega) (by omega),s2.eq j (by omega)]; exact S1.eq j hj⟩,((d.setN (by omega)).setN (by omega)).rep,ws.wb (by omega),hn1,hn2⟩
end Go.Sim

set_option linter.unusedVariables false
set_option linter.unusedSimpArgs false
set_option maxRecDepth 20000
namespace Go.Sim
open Go Go.RowKit

end Go.Sim

set_option linter.unusedVariables false
set_option linter.unusedSimpArgs false
set_option maxRecDepth 20000
namespace Go.Sim
open Go Go.RowKit
theorem Ztt {h:Zaa} {a0 a1:Pt} {n0 n1 c0 c1:Nat} {e0 e1:Bool} {l0 l1:List Int} (r0:Row h.length h a0 n0 (Zdq eI l0)) (r1:Row h.length h a1 n1 (Zdq eI l1)) (hn:n0≤4611686018427387904) :
  Zah pg Zdf [.slice a0 n0 c0 e0,.slice a1 n1 c1 e1] h fun v h'=>v=.bool (decide (l0=l1))∧h'=h:=by
 have h0:l0.length=n0:=by have:=r0.1; rw [Zay Zlg] at this; omega
 have h1:l1.length=n1:=by have:=r1.1; rw [Zay Zlg] at this; omega
 apply Zjk.call
 have hm:(if ((n1:Nat):Int) < ((n0:Nat):Int) then ((n1:Nat):Int) else ((n0:Nat):Int))=((min n0 n1:Nat):Int):=by split <;> omega
 rw [hm]
 refine Zjk.L2ind _ _ _ _ _ _ _ _ _ _ (J:=fun (g:Nat) x11 h'=>x11=(g:Int)∧g≤min n0 n1∧h'=h∧l0.take g=l1.take g) (fun g=>min n0 n1 - g) ?_ 0 _ _ ⟨rfl,by omega,rfl,by simp⟩
 rintro g x5 h' ⟨rfl,hg,rfl,ht⟩ R hR
 unfold Zjk.L2t
 refine Zav (fun hlt=>?_) (fun hge=>?_)
 ·obtain ⟨i,o,hgl,rfl,hi,hc⟩:=Row.el1 Zlg r0 (k:=g) (by omega)
  obtain ⟨i',o',hgl',rfl,hi',hc'⟩:=Row.el1 Zlg r1 (k:=g) (by omega)
  simp only [Zaw,Int.toNat_natCast,hc,hc',eI,List.getElem?_cons_zero,Zaq]
  refine ⟨by omega,by omega,by trivial,Zgi (fun hne=>?_) (fun he=>?_)⟩
  ·have:l0≠l1:=fun e=>by subst e; exact hne rfl
   simp [this]
  ·rw [Zbt (by omega)]
   refine hR (g + 1) _ _ (by omega) ⟨rfl,by omega,rfl,?_⟩
   rw [List.take_succ_eq_append_getElem hgl,List.take_succ_eq_append_getElem hgl',ht,he]
 ·apply Zjk.A2x0i
  refine ⟨?_,rfl⟩
  congr 1
  by_cases hnn:n0=n1
  ·subst hnn
   rw [List.take_of_length_le (by omega),List.take_of_length_le (by omega)] at ht
   simp [ht]
  ·have:l0≠l1:=fun e=>by subst e; omega
   simp [this]; omega
end Go.Sim

set_option linter.unusedVariables false
set_option linter.unusedSimpArgs false
set_option maxRecDepth 20000
namespace Go.Sim
open Go Go.RowKit

end Go.Sim

set_option linter.unusedVariables false
set_option linter.unusedSimpArgs false
set_option maxRecDepth 20000
namespace Go.Sim
open Go Go.RowKit
theorem Yen {h:Zaa} {a:Pt} {n c:Nat} {e:Bool} {l:List Nat} (r:Row h.length h a n (Zdq eB l)) (hb:∀ b∈l,b < 256) (hnc:n≤c):Zah pg Zgo [.slice a n c e] h (DRM h):=by
 apply Zjt.call
 simp only [Zax]
 exact Yis r hb hnc
theorem Yom {α:Type} (f:α→Bool) {l:List α} {g:Nat}:∀ m,g≤m→m≤l.length→∃ R,ixs f (l.take m)=ixs f (l.take g) ++ R∧∀ x∈R,(g:Int)≤x:=by
 intro m
 induction m with
 | zero => intro h1 h2; have : g = 0 := by omega
           subst this; exact ⟨[],by simp,by simp⟩
 | succ m ih=>
  intro h1 h2
  by_cases e:g=m + 1
  ·subst e; exact ⟨[],by simp,by simp⟩
  ·obtain ⟨R,hR,hx⟩:=ih (by omega) (by omega)
   refine ⟨R ++ (if f (l[m]'(by omega)) then [(m:Int)] else []),by rw [Zna f (by omega),hR,List.append_assoc],fun x hx'=>?_⟩
   rcases List.mem_append.1 hx' with h | h
   ·exact hx x h
   ·split at h
    ·rw [List.mem_singleton.1 h]; omega
    ·cases h
theorem Yqp {α:Type} (f:α→Bool) {l:List α} {g:Nat} (h:g < l.length) :
  (∀ hp:(ixs f (l.take g)).length < (ixs f l).length,((ixs f l)[(ixs f (l.take g)).length] == (g:Int))=f l[g])∧(¬ (ixs f (l.take g)).length < (ixs f l).length→f l[g]=false):=by
 obtain ⟨R,hR,hx⟩:=Yom f (l:=l) (g:=g + 1) l.length (by omega) (Nat.le_refl _)
 rw [List.take_length,Zna f h,List.append_assoc] at hR
 cases hf:f l[g] with
 | true=>
  rw [hf] at hR
  simp only [if_true] at hR
  refine ⟨fun hp=>?_,fun hn=>absurd (by rw [hR]; simp) hn⟩
  have:(ixs f l)[(ixs f (l.take g)).length]?=some (g:Int):=by rw [hR]; simp
  rw [List.getElem?_eq_getElem hp] at this
  rw [Option.some.inj this]; simp
 | false=>
  rw [hf] at hR
  simp only [Bool.false_eq_true,if_false,List.nil_append] at hR
  refine ⟨fun hp=>?_,fun _=>rfl⟩
  have hm:(ixs f l)[(ixs f (l.take g)).length]∈R:=by
   have:(ixs f l)[(ixs f (l.take g)).length]?=R[0]?:=by rw [hR,List.getElem?_append_right (Nat.le_refl _)]; simp
   rw [List.getElem?_eq_getElem hp] at this
   exact List.mem_of_getElem? this.symm
  have:=hx _ hm
  simp; omega
theorem Yoh {w:Wd} (b:WB w) (n:Nd):(Ymj w n).length≤1048576:=by
 unfold Ymj Ylg
 have:=Zqv (Zig n) w.is; have:=b.li
 split
 ·omega
 ·simp
theorem Ypf {w:Wd} {nd:Nd} {i:Ins} (h:Zep nd i=true):Zig nd i=true:=by
 unfold Zep at h
 simp only [Bool.and_eq_true,decide_eq_true_eq] at h
 unfold Zig
 simp [h.1,Zuf h.2]
theorem Ypa {w:Wd} {nd:Nd} (hw:Zgb w=true) (hn:Zjb w nd=true) (hg:Zjy nd.2=[]):Zvq w nd=Ylg w nd:=by
 unfold Zvq Ylg ixs
 congr 1
 refine List.filter_congr fun p hp=>?_
 have hm:p.1∈w.is:=by
  have:=List.mem_zipIdx hp
  obtain ⟨_,_,h3⟩:=this
  rw [h3]; exact List.getElem_mem _
 have ht:=(Yao hw hm).1
 have hnt:Zkg nd.2=true:=by unfold Zjb at hn; simp only [Bool.and_eq_true] at hn; exact hn.2
 unfold Zep Zig
 congr 1
 cases ha:Zir p.1.1.2 nd.2 with
 | false=>rw [Zyv ht hnt hg ha]; rfl
 | true=>
  cases hi:Zmx p.1.1.2 nd.2 with
  | false=>rfl
  | true=>rw [Zuf hi] at ha; cases ha
theorem lawFCand {h:Zaa} {a:Pt} {n c:Nat} {e:Bool} {l:List Nat} (r:Row h.length h a n (Zdq eB l)) (hb:∀ b∈l,b < 256) (hnc:n≤c) :
  Zah pg Zmu [.slice a n c e] h fun v _=>v=.bool true:=by
 apply Zbq.call
 refine Zav (fun _=>rfl) (fun _=>?_)
 refine (Yen r hb hnc).mono ?_
 rintro v h1 ⟨a0,n0,c0,e0,a1,n1,c1,e1,w,nd,rfl,s1,rep,wb,hn1,hn2⟩
 simp only [Zdx,Zaj,Zde,Zaf,Zam,Zar,Zax]
 generalize hgA:h1 ++ [Zcc.cells Zad [.slice none 0 0 true,.slice none 0 0 true] false]=gA
 have sA:Zbe h1.length h1 gA:=by rw [← hgA]; exact Zao
 have wA:gA[h1.length]?=some (.cells Zad [.slice none 0 0 true,.slice none 0 0 true] false):=by rw [← hgA]; simp
 have lA:gA.length=h1.length + 1:=by rw [← hgA]; simp
 generalize hgB:gA ++ [Zcc.cells Zae [.str [],.str []] false]=gB
 have sB:Zbe gA.length gA gB:=by rw [← hgB]; exact Zao
 have wB:=sB.get wA (Own.lt wA)
 have nB:gB[gA.length]?=some (.cells Zae [.str [],.str []] false):=by rw [← hgB]; simp
 rw [Zba wB (by simp)]
 simp only [Zat,putRow,List.take_zero,List.length_cons,List.length_nil,List.drop_succ_cons,List.drop_zero,List.drop_nil,List.cons_append,List.nil_append,List.append_nil,Nat.zero_add]
 have wC:=Zbv wB (x:=.cells Zad [.slice a0 n0 c0 e0,.slice a1 n1 c1 e1] false)
 have nC:(gB.set h1.length (.cells Zad [.slice a0 n0 c0 e0,.slice a1 n1 c1 e1] false))[gA.length]?=some (.cells Zae [.str [],.str []] false):=by rw [Zbl (by omega)]; exact nB
 rw [Zba nC (by simp)]
 simp only [Zat,putRow,List.take_zero,List.length_cons,List.length_nil,List.drop_succ_cons,List.drop_zero,List.drop_nil,List.cons_append,List.nil_append,List.append_nil,Nat.zero_add]
 have x0:((gB.set h1.length (.cells Zad [.slice a0 n0 c0 e0,.slice a1 n1 c1 e1] false)).set gA.length (.cells Zae [.str nd.1,.str nd.2] false))[h1.length]?=some (.cells Zad [.slice a0 n0 c0 e0,.slice a1 n1 c1 e1] false):=by rw [Zbl (by omega)]; exact wC
 have y0:=Zbv nC (x:=.cells Zae [.str nd.1,.str nd.2] false)
 have S0:Zbe h1.length h1 ((gB.set h1.length (.cells Zad [.slice a0 n0 c0 e0,.slice a1 n1 c1 e1] false)).set gA.length (.cells Zae [.str nd.1,.str nd.2] false)):=((sA.cat sB).set' (Nat.le_refl _)).set' (by omega)
 generalize (gB.set h1.length (.cells Zad [.slice a0 n0 c0 e0,.slice a1 n1 c1 e1] false)).set gA.length (.cells Zae [.str nd.1,.str nd.2] false)=g0 at x0 y0 S0 ⊢
 have R0:=rep.same S0
 rw [Zbk x0,Zbk y0]
 simp only [Zau,Zaj,Zar,Zaf,Zam]
 refine (Zwr (nd:=nd) R0 wb).mono ?_
 rintro v g1 ⟨t1,la,ln,lc,le,rfl,f1⟩
 simp only [Zdx,Zaj,Zaf,Zap,Zar]
 have x1:=t1.get x0 (Own.lt x0)
 have y1:=t1.get y0 (Own.lt y0)
 have R1:=R0.same t1
 rw [Zbk x1,Zbk y1]
 simp only [Zau,Zaj,Zar,Zaf,Zam]
 refine (Yfl (nd:=nd) R1 wb).mono ?_
 rintro v g2 ⟨t2,ma,mn,mc,me,rfl,f2⟩
 simp only [Zdx,Zaj,Zaf,Zap,Zar]
 have x2:=t2.get x1 (Own.lt x1)
 have y2:=t2.get y1 (Own.lt y1)
 have R2:=R1.same t2
 rw [Zbk x2,Zbk y2]
 simp only [Zau,Zaj,Zar,Zaf,Zam]
 refine (Zvp (nd:=nd) R2 wb (by omega)).mono ?_
 rintro v g3 ⟨t3,wa,wn,wc,we,rfl,f3⟩
 simp only [Zdx,Zaj,Zaf,Zap,Zar]
 have x3:=t3.get x2 (Own.lt x2)
 have y3:=t3.get y2 (Own.lt y2)
 have R3:=R2.same t3
 rw [Zbk x3,Zbk y3]
 simp only [Zau,Zaj,Zar,Zaf,Zam]
 refine (Yea (nd:=nd) R3 wb (by omega)).mono ?_
 rintro v g4 ⟨t4,va,vn,vc,ve,rfl,f4⟩
 simp only [Zdx,Zaj,Zaf,Zap,Zar]
 have x4:=t4.get x3 (Own.lt x3)
 have y4:=t4.get y3 (Own.lt y3)
 have R4:=R3.same t4
 have hcl:=Ykg wb nd
 have hml:=Yoh wb nd
 have m1:=f1.1; have m2:=f2.1; have m3:=f3.1; have m4:=f4.1
 have row1:Row g4.length g4 la ln (Zdq eI (Zyl w nd)):=by have:=((((f1.row Zlg).same' t2).same' t3).same' t4); rwa [Nat.mul_one] at this
 have row2:Row g4.length g4 ma mn (Zdq eI (Ymj w nd)):=by have:=(((f2.row Zlg).same' t3).same' t4); rwa [Nat.mul_one] at this
 have row3:Row g4.length g4 wa wn (Zdq eI (Zyl w nd)):=by have:=((f3.row Zlg).same' t4); rwa [Nat.mul_one] at this
 have row4:Row g4.length g4 va vn (Zdq eI (Ymj w nd)):=by have:=f4.row Zlg; rwa [Nat.mul_one] at this
 refine (Ztt row1 row3 (by omega)).mono ?_
 rintro v g5 ⟨rfl,rfl⟩
 simp only [Zap,decide_true,Bool.not_true,Zbj,beq_self_eq_true]
 refine (Ztt row2 row4 (by omega)).mono ?_
 rintro v g5 ⟨rfl,rfl⟩
 simp only [Zap,decide_true,Bool.not_true,Zbj,beq_self_eq_true]
 rw [Zbk x4,Zbk y4]
 simp only [Zau,Zaj,Zar,Zaf,Zam,true_and]
 refine (Zic (ct:=nd.1) (tt:=nd.2) R4 wb).mono ?_
 rintro v g6 ⟨rfl,t6⟩
 simp only [Zap,Bool.not_true,Zbj,beq_self_eq_true]
 have x6:=t6.get x4 (Own.lt x4)
 have y6:=t6.get y4 (Own.lt y4)
 have R6:=R4.same t6
 rw [Zbk x6,Zbk y6]
 simp only [Zau,Zaj,Zar,Zaf,Zam,true_and]
 refine (Zic (ct:=nd.1) (tt:=nd.2) R6 wb).mono ?_
 rintro v g7 ⟨rfl,t7⟩
 have x7:=t7.get x6 (Own.lt x6)
 have y7:=t7.get y6 (Own.lt y6)
 have R7:=R6.same t7
 rw [Zbk x7,Zbk y7]
 simp only [Zap,true_and]
 refine (Znk (ct:=nd.1) (tt:=nd.2) R7 wb (by omega)).mono ?_
 rintro v g8 ⟨rfl,t8⟩
 have x8:=t8.get x7 (Own.lt x7)
 have y8:=t8.get y7 (Own.lt y7)
 have R8:=R7.same t8
 rw [Zbk x8,Zbk y8]
 simp only [Zap,true_and,Bool.not_true,Zbj,beq_self_eq_true]
 have rw1:=((row1.same' t6).same' t7).same' t8
 have rw2:=((row2.same' t6).same' t7).same' t8
 have rw3:=((row3.same' t6).same' t7).same' t8
 have rw4:=((row4.same' t6).same' t7).same' t8
 cases hv:(Zgb w && Zjb w nd) with
 | false=>
  simp only [Bool.not_false,Zby,Zbk x8,Zbk y8,true_and]
  refine (Ztt rw1 rw3 (by omega)).mono ?_
  rintro v g9 ⟨rfl,rfl⟩
  simp only [Zap,decide_true,Zby,beq_self_eq_true]
  refine (Ztt rw2 rw4 (by omega)).mono ?_
  rintro v g9 ⟨rfl,rfl⟩
  simp only [Zap,decide_true,Zby,beq_self_eq_true]
  rw [Zbk x8,Zbk y8]
  simp only [Zau,Zaj,Zar,Zaf,Zam,true_and]
  refine (Zic (ct:=nd.1) (tt:=nd.2) R8 wb).mono ?_
  rintro v gA ⟨rfl,tA⟩
  have xA:=tA.get x8 (Own.lt x8)
  have yA:=tA.get y8 (Own.lt y8)
  have RA:=R8.same tA
  rw [hv]
  simp only [Zap,Zby,beq_self_eq_true]
  rw [Zbk xA,Zbk yA]
  simp only [Zau,Zaj,Zar,Zaf,Zam,true_and]
  refine (Zic (ct:=nd.1) (tt:=nd.2) RA wb).mono ?_
  rintro v gB ⟨rfl,tB⟩
  have xB:=tB.get xA (Own.lt xA)
  have yB:=tB.get yA (Own.lt yA)
  have RB:=RA.same tB
  rw [Zbk xB,Zbk yB]
  simp only [Zap,true_and]
  refine (Znk (ct:=nd.1) (tt:=nd.2) RB wb (by omega)).mono ?_
  rintro v gC ⟨rfl,tC⟩
  rw [Zbk (tC.get xB (Own.lt xB)),Zbk (tC.get yB (Own.lt yB))]
  simp only [Zap,true_and,beq_self_eq_true]
 | true=>
 simp only [Bool.not_true,Zbj]
 have hC:Zyl w nd=Zvq w nd:=by unfold Zyl; rw [if_pos hv]
 have hM:Ymj w nd=Ylg w nd:=by unfold Ymj; rw [if_pos hv]
 rw [hC] at rw1 m1
 rw [hM] at rw2 m2
 simp only [Bool.and_eq_true] at hv
 have hl1:=R8.len1
 have hli:=wb.li
 apply Zbq.J10i
 rw [Zak x8]
 simp only [Nat.zero_add,List.getElem?_cons_succ,List.getElem?_cons_zero,Zaf]
 refine Zbq.L12ind (J:=fun (g:Nat) x13 x14 x128 k=>x128=(g:Int)∧g≤n1∧Zbe g8.length g8 k∧x13=((ixs (Zep nd) (w.is.take g)).length:Int)∧x14=((ixs (Zig nd) (w.is.take g)).length:Int)) (m:=fun g=>n1 - g) (hr:=?_) (g:=0) (hj:=⟨rfl,by omega,Zbe.refl _ _,by simp [ixs],by simp [ixs]⟩) ..
 rintro g x13 x14 x128 k ⟨rfl,hg,tk,rfl,rfl⟩ R hR
 have xk:=tk.get x8 (Own.lt x8)
 have yk:=tk.get y8 (Own.lt y8)
 have Rk:=R8.same tk
 unfold Zbq.L12t
 refine Zav (fun hlt=>?_) (fun hge=>?_)
 ·have hgl:g < w.is.length:=by omega
  obtain ⟨i,o,a2,n2,c2,e2,rfl,_,hr,_,_,hrow,hn⟩:=Ztv Rk hgl
  simp only [Zaw,Int.toNat_natCast,hr,Zau,Zaj,Zar,Zam,Zaf,Zax]
  rw [Zws]
  generalize hq:k ++ [Zcc.cells Zac [.str w.is[g].1.1,.str w.is[g].1.2,.slice a2 n2 c2 e2] false]=k1
  have sq:Zbe k.length k k1:=by rw [← hq]; exact Zao
  have oq:k1[k.length]?=some (.cells Zac [.str w.is[g].1.1,.str w.is[g].1.2,.slice a2 n2 c2 e2] false):=by rw [← hq]; simp
  have yq:=sq.get yk (Own.lt yk)
  simp only [Zat,Zak oq,Zak yq,Nat.zero_add,Nat.add_zero,List.getElem?_cons_succ,List.getElem?_cons_zero,Zam]
  refine ⟨by omega,?_⟩
  have hc1:=Zna (Zep nd) hgl
  have hm1:=Zna (Zig nd) hgl
  have hcl1:=Zqv (Zep nd) (w.is.take g)
  have hml1:=Zqv (Zig nd) (w.is.take g)
  rw [List.length_take] at hcl1 hml1
  -- from the two answers on
  have fin:∀ k2,Zbe k1.length k1 k2→Zbq.J16 (fun v _=>v=.bool true) R (Zep nd w.is[g]) ((ixs (Zep nd) (w.is.take g)).length:Int) la ln lc le (g:Int) (Zig nd w.is[g]) ((ixs (Zig nd) (w.is.take g)).length:Int) ma mn mc me (g:Int) (n1:Int) (some (i,o)) n1 c1 e1 gA.length 0 k2:=by
   intro k2 u2
   have S2:=(tk.cat sq).cat u2
   obtain ⟨ca,cb⟩:=Yqp (Zep nd) hgl
   obtain ⟨ma',mb⟩:=Yqp (Zig nd) hgl
   have nxt:Zbq.J18 (fun v _=>v=.bool true) R (Zep nd w.is[g]) ((ixs (Zep nd) (w.is.take g)).length:Int) (Zig nd w.is[g]) ((ixs (Zig nd) (w.is.take g)).length:Int) (g:Int) (n1:Int) (some (i,o)) n1 c1 e1 gA.length 0 la ln lc le ma mn mc me k2:=by
    have go:Zbq.J22 (fun v _=>v=.bool true) R (g:Int) (n1:Int) (some (i,o)) n1 c1 e1 gA.length 0 ((ixs (Zep nd) (w.is.take (g + 1))).length:Int) la ln lc le ((ixs (Zig nd) (w.is.take (g + 1))).length:Int) ma mn mc me k2:=by
     apply Zbq.J22i
     rw [Zbt (by omega)]
     exact hR (g + 1) _ _ _ _ (by omega) ⟨rfl,by omega,S2,rfl,rfl⟩
    apply Zbq.J18i
    have go2:Zbq.J20 (fun v _=>v=.bool true) R (Zig nd w.is[g]) ((ixs (Zig nd) (w.is.take g)).length:Int) (g:Int) (n1:Int) (some (i,o)) n1 c1 e1 gA.length 0 ((ixs (Zep nd) (w.is.take (g + 1))).length:Int) la ln lc le ma mn mc me k2:=by
     apply Zbq.J20i
     rw [hm1] at go
     refine Zdb (fun hf=>?_) (fun hf=>?_)
     ·rw [hf,if_pos rfl,List.length_append] at go
      rw [Zbt (by omega)]
      exact go
     ·rw [hf] at go
      simpa using go
    rw [hc1] at go2
    refine Zdb (fun hf=>?_) (fun hf=>?_)
    ·rw [hf,if_pos rfl,List.length_append] at go2
     rw [Zbt (by omega)]
     exact go2
    ·rw [hf] at go2
     simpa using go2
   have mid:bcase (Zep nd w.is[g]) (bcase (!Zig nd w.is[g]) ((fun v _=>v=Zas.bool true) (.bool false) k2) (Zbq.J18 (fun v _=>v=.bool true) R (Zep nd w.is[g]) ((ixs (Zep nd) (w.is.take g)).length:Int) (Zig nd w.is[g]) ((ixs (Zig nd) (w.is.take g)).length:Int) (g:Int) (n1:Int) (some (i,o)) n1 c1 e1 gA.length 0 la ln lc le ma mn mc me k2)) (Zbq.J18 (fun v _=>v=.bool true) R (Zep nd w.is[g]) ((ixs (Zep nd) (w.is.take g)).length:Int) (Zig nd w.is[g]) ((ixs (Zig nd) (w.is.take g)).length:Int) (g:Int) (n1:Int) (some (i,o)) n1 c1 e1 gA.length 0 la ln lc le ma mn mc me k2):=by
    refine Zdb (fun hf=>?_) (fun _=>nxt)
    have e1:(!Zig nd w.is[g])=false:=by rw [Ypf (w:=w) hf]; rfl
    rw [e1,Zbj]
    exact nxt
   have may:bcase (decide (((ixs (Zig nd) (w.is.take g)).length:Int) < ((mn:Nat):Int))) ((0≤((ixs (Zig nd) (w.is.take g)).length:Int)∧((ixs (Zig nd) (w.is.take g)).length:Int) < (mn:Nat))∧(Zbi ma fun i_801 o_802=>Zck .i64 (Zai k2 (.ptr (some (i_801,o_802 + (Int.toNat ((ixs (Zig nd) (w.is.take g)).length:Int)) * 1)))) fun x_803=>bcase (!(Zig nd w.is[g] == ((x_803:Int) == (g:Int)))) ((fun v _=>v=Zas.bool true) (.bool false) k2) (bcase (Zep nd w.is[g]) (bcase (!Zig nd w.is[g]) ((fun v _=>v=Zas.bool true) (.bool false) k2) (Zbq.J18 (fun v _=>v=.bool true) R (Zep nd w.is[g]) ((ixs (Zep nd) (w.is.take g)).length:Int) (Zig nd w.is[g]) ((ixs (Zig nd) (w.is.take g)).length:Int) (g:Int) (n1:Int) (some (i,o)) n1 c1 e1 gA.length 0 la ln lc le ma mn mc me k2)) (Zbq.J18 (fun v _=>v=.bool true) R (Zep nd w.is[g]) ((ixs (Zep nd) (w.is.take g)).length:Int) (Zig nd w.is[g]) ((ixs (Zig nd) (w.is.take g)).length:Int) (g:Int) (n1:Int) (some (i,o)) n1 c1 e1 gA.length 0 la ln lc le ma mn mc me k2))))
     (bcase (!(Zig nd w.is[g] == false)) ((fun v _=>v=Zas.bool true) (.bool false) k2) (bcase (Zep nd w.is[g]) (bcase (!Zig nd w.is[g]) ((fun v _=>v=Zas.bool true) (.bool false) k2) (Zbq.J18 (fun v _=>v=.bool true) R (Zep nd w.is[g]) ((ixs (Zep nd) (w.is.take g)).length:Int) (Zig nd w.is[g]) ((ixs (Zig nd) (w.is.take g)).length:Int) (g:Int) (n1:Int) (some (i,o)) n1 c1 e1 gA.length 0 la ln lc le ma mn mc me k2)) (Zbq.J18 (fun v _=>v=.bool true) R (Zep nd w.is[g]) ((ixs (Zep nd) (w.is.take g)).length:Int) (Zig nd w.is[g]) ((ixs (Zig nd) (w.is.take g)).length:Int) (g:Int) (n1:Int) (some (i,o)) n1 c1 e1 gA.length 0 la ln lc le ma mn mc me k2))):=by
    refine Zav (fun hl=>?_) (fun hl=>?_)
    ·have hl':(ixs (Zig nd) (w.is.take g)).length < (Ylg w nd).length:=by omega
     obtain ⟨j,q,hk',rfl,_,hc⟩:=(rw2.same' S2).i64 (k:=(ixs (Zig nd) (w.is.take g)).length) (by omega)
     simp only [Zaw,Int.toNat_natCast,hc,Zaq]
     have:=ma' hk'
     refine ⟨by omega,?_⟩
     rw [show (Ylg w nd)[(ixs (Zig nd) (w.is.take g)).length]=(ixs (Zig nd) w.is)[(ixs (Zig nd) (w.is.take g)).length] from rfl,this]
     simp only [beq_self_eq_true,Bool.not_true,Zbj]
     exact mid
    ·have:=mb fun hp=>hl (by have:(Ylg w nd).length=mn:=m2; unfold Ylg at this; omega)
     have e2:(!(Zig nd w.is[g] == false))=false:=by rw [this]; rfl
     rw [e2,Zbj]
     exact mid
   apply Zbq.J16i
   refine Zav (fun hl=>?_) (fun hl=>?_)
   ·have hl':(ixs (Zep nd) (w.is.take g)).length < (Zvq w nd).length:=by omega
    obtain ⟨j,q,hk',rfl,_,hc⟩:=(rw1.same' S2).i64 (k:=(ixs (Zep nd) (w.is.take g)).length) (by omega)
    simp only [Zaw,Int.toNat_natCast,hc,Zaq]
    have:=ca hk'
    refine ⟨by omega,?_⟩
    rw [show (Zvq w nd)[(ixs (Zep nd) (w.is.take g)).length]=(ixs (Zep nd) w.is)[(ixs (Zep nd) (w.is.take g)).length] from rfl,this]
    simp only [beq_self_eq_true,Bool.not_true,Zbj]
    exact may
   ·have:=cb fun hp=>hl (by have:(Zvq w nd).length=ln:=m1; unfold Zvq at this; omega)
    have e2:(!(Zep nd w.is[g] == false))=false:=by rw [this]; rfl
    rw [e2,Zbj]
    exact may
  have j15:∀ k2,Zbe k1.length k1 k2→Zbq.J15 (fun v _=>v=.bool true) R k.length 0 gA.length 0 (Zep nd w.is[g]) ((ixs (Zep nd) (w.is.take g)).length:Int) la ln lc le (g:Int) ((ixs (Zig nd) (w.is.take g)).length:Int) ma mn mc me (g:Int) (n1:Int) (some (i,o)) n1 c1 e1 k2:=by
   intro k2 u2
   apply Zbq.J15i
   simp only [Zak (u2.get oq (Own.lt oq)),Zak (u2.get yq (Own.lt yq)),Nat.zero_add,Nat.add_zero,List.getElem?_cons_succ,List.getElem?_cons_zero,Zam]
   refine Zav (fun hc=>?_) (fun hc=>?_)
   ·refine (Zye _ _ k2).mono ?_
    rintro v k3 ⟨rfl,u3⟩
    simp only [Zap]
    have:Zig nd w.is[g]=!Zir w.is[g].1.2 nd.2:=by unfold Zig; simp [hc]
    rw [← this]
    exact fin _ (u2.cat u3)
   ·have:=fin _ u2
    have e2:Zig nd w.is[g]=false:=by unfold Zig; simp [hc]
    rw [e2] at this
    exact this
  refine Zav (fun hc=>?_) (fun hc=>?_)
  ·refine (Ztn _ _ k1).mono ?_
   rintro v k2 ⟨rfl,u2⟩
   simp only [Zap]
   have:Zep nd w.is[g]=Zmx w.is[g].1.2 nd.2:=by unfold Zep; simp [hc]
   rw [← this]
   exact j15 _ u2
  ·have:=j15 _ (Zbe.refl _ _)
   have e2:Zep nd w.is[g]=false:=by unfold Zep; simp [hc]
   rw [e2] at this
   exact this
 ·apply Zbq.A12x0i
  simp only [Zak yk,Nat.zero_add,List.getElem?_cons_succ,List.getElem?_cons_zero,Zam]
  refine (Yed nd.2 k).mono ?_
  rintro v k2 ⟨rfl,u2⟩
  simp only [Zap]
  refine Zcq (fun _=>trivial) (fun hgr=>?_)
  simp only [Bool.and_eq_true,decide_eq_true_eq] at hgr
  have:=Ypa hv.1 hv.2 hgr.2
  rw [this] at m1
  have:ln=mn:=by omega
  rw [this]
  simp
end Go.Sim

set_option linter.unusedVariables false
set_option linter.unusedSimpArgs false
set_option maxRecDepth 20000
namespace Go.Sim
open Go Go.RowKit
theorem Ygv {P:Program} {h:Zaa} {f:Nat} {e:TypeId} (he:P.underlying e=some (.int .u8)):∀ (vs:List (List Zas)) (ds:List Dt),ds.length=vs.length→(∀ (i:Nat) (v:List Zas) (x:Dt),vs[i]?=some v→ds[i]?=some x→v.length=P.cellsOf e∧rd P h (f + 1) e v x) →
  ∃ l:List Nat,vs.flatten=Zdq eB l∧∀ z∈l,z < 256
 | [],_,_,_=>⟨[],rfl,by simp⟩
 | v :: vs,[],h,_=>by simp at h
 | v :: vs,d :: ds,hl,hall=>by
  obtain ⟨l,hfl,hs⟩:=Ygv he vs ds (by simpa using hl) fun i v x hv hx=>hall (i + 1) v x (by simpa using hv) (by simpa using hx)
  have h0:=(hall 0 v d rfl rfl).2
  simp only [rd,he] at h0
  obtain ⟨z,rfl,_,hw⟩:=h0
  simp [Lit.wf,IntKind.min,IntKind.max,IntKind.signed,IntKind.bits] at hw
  refine ⟨z.toNat :: l,?_,fun x hx=>?_⟩
  ·simp [hfl,eB]; omega
  ·rcases List.mem_cons.1 hx with rfl | hx
   ·omega
   ·exact hs x hx
theorem rd_bytes {P:Program} {h:Zaa} {f:Nat} {t e:TypeId} {cs:List Zas} {d:Dt} (ht:P.underlying t=some (.slice e)) (he:P.underlying e=some (.int .u8)) (hc:P.cellsOf e=1) (hr:rd P h (f + 2) t cs d) :
  ∃ a n c ex,∃ l:List Nat,cs=[.slice a n c ex]∧Row h.length h a n (Zdq eB l)∧∀ z∈l,z < 256:=by
 unfold rd at hr
 rw [ht] at hr
 obtain ⟨a,n,c,ex,ds,vs,rfl,rfl,hdl,hn,hvl,hrow,hall⟩:=hr
 obtain ⟨l,hfl,hs⟩:=Ygv (f:=f) he vs ds (by omega) hall
 rw [hc,Nat.mul_one,hfl] at hrow
 exact ⟨a,n,c,ex,l,rfl,hrow,hs⟩
end Go.Sim
