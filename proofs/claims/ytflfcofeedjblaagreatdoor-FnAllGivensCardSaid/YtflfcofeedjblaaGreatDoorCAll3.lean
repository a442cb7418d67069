/- A part of the proof of a statement of this seat: see the text that holds the theorem. No condition. -/
import Derived.Test.YtflfcofeedjblaaGreatDoorPTCDrawZ
import Derived.Test.YtflfcofeedjblaaGreatDoorCDrawY
import Derived.Test.YtflfcofeedjblaaGreatDoorPTCDrawV
import Derived.Test.YtflfcofeedjblaaGreatDoorCGrow2
import Derived.Test.YtflfcofeedjblaaGreatDoorPTCInN
import Derived.Test.YtflfcofeedjblaaGreatDoorPDrawW
set_option linter.unusedVariables false
set_option linter.unusedSimpArgs false
set_option linter.all false
set_option linter.unusedVariables false
set_option linter.unusedSimpArgs false
set_option maxRecDepth 20000
namespace Go.Sim
open Go Go.RowKit

theorem Zuu {h l:Zaa} {j o:Nat} (hj:j < h.length):Zag (h ++ l) (.ptr (some (j,o)))=Zag h (.ptr (some (j,o))):=by simp only [Zag,List.getElem?_append_left hj]
def Xbp (I:Ins):Prop:=I.1.1.length≤1000∧I.1.2.length≤1000∧I.2.length≤1000∧∀ q∈I.2,q.1.length≤1000∧q.2.length≤1000
def Yul (i p:Nat) (h:Zaa) (v:Zay) (h':Zaa):Prop:=∃ (I:Ins) (a:Pt) (c:Nat) (e:Bool),v=.agg [.str I.1.1,.str I.1.2,.slice a I.2.length c e]∧I.2.length≤c∧Zds Zab eP h.length h' a I.2.length I.2∧Xbp I∧RdK i p 10000 h h'
theorem Yqm (s:List Nat):(Zre s).length≤6:=by unfold Zre; exact Nat.le_trans (List.length_filter_le _ _) (by decide)
theorem Zyn {h:Zaa} {i p b m:Nat} {a0:Pt} {n0 c0 q n1 c1:Nat} {e0 e1:Bool} {ys:List EI} {w:Wd} (r:Rdr h i p) (hp:p≤800000000000) (d:WDr b h a0 n0 c0 q n1 c1 ys w) (hib:i < b) (hn0:1≤n0) (ws:WS m w) :
  Zak pg Zju [.ptr (some (i,0)),.agg [.slice a0 n0 c0 e0,.slice (some (q,0)) n1 c1 e1]] h (Yul i p h):=by
 have hil:=r.lt
 apply Zdm.call
 simp only [Zaw]
 generalize hg0:h ++ [Zcb.cells Zac [.slice a0 n0 c0 e0,.slice (some (q,0)) n1 c1 e1] false]=g0
 have s0:Zbc h.length h g0:=by rw [← hg0]; exact Zal
 have x0:g0[h.length]?=some (.cells Zac [.slice a0 n0 c0 e0,.slice (some (q,0)) n1 c1 e1] false):=by rw [← hg0]; simp
 have l0:g0.length=h.length + 1:=by rw [← hg0]; simp
 generalize hga:g0 ++ [Zcb.cells Zad [.str [],.str [],.slice none 0 0 true] false]=ga
 have sa:Zbc g0.length g0 ga:=by rw [← hga]; exact Zal
 have xa:=sa.get x0 (Own.lt x0)
 have za:ga[g0.length]?=some (.cells Zad [.str [],.str [],.slice none 0 0 true] false):=by rw [← hga]; simp
 have la:ga.length=g0.length + 1:=by rw [← hga]; simp
 have Sa:=s0.cat sa
 have Ra:=r.same Sa
 refine (Zno (Ra.app _) (by omega) (j:=ga.length) (t:=Zbi) (n:=11) (l:=[[105],[98],[108,40,120,41],[112,40,120,44,121,41],[109,40,120,41],[108,40,105,41],[112,40,120,44,120,41],[112,40,105,44,120,41],[108,40,108,40,120,41,41],[117],[108,40,120,41]]) (by simp [Zdb,eS]) (by omega) rfl (by omega)).mono ?_
 rintro v g1 ⟨hd,hhd,rfl,pg1,Rg1,lg1⟩
 have hhl:hd.length≤10:=by
  simp only [List.mem_cons,List.not_mem_nil,or_false] at hhd
  rcases hhd with rfl | rfl | rfl | rfl | rfl | rfl | rfl | rfl | rfl | rfl | rfl <;> decide
 have Kg1:=(Zem.of_same (i:=i) (Sa.trans (Zbc.app Sa.le [Zcb.cells Zbi [.str [105],.str [98],.str [108,40,120,41],.str [112,40,120,44,121,41],.str [109,40,120,41],.str [108,40,105,41],.str [112,40,120,44,120,41],.str [112,40,105,44,120,41],.str [108,40,108,40,120,41,41],.str [117],.str [108,40,120,41]] false]))).trans pg1
 have xg1:=pg1.get (Zie xa) (by omega)
 have zg1:=pg1.get (Zie za) (by omega)
 simp only [Zah,Zan xg1,Nat.zero_add,List.getElem?_cons_zero,Zaj]
 have Rg1:Rdr g1 i (p + 1):=Rg1
 -- behind the orders
 have fin:∀ (G:Zaa) (zI eX p':Nat) (cl:List Nat),Zem i h G→Rdr G i p'→p≤p'→p'≤p + 2→G[h.length]?=some (.cells Zac [.slice a0 n0 c0 e0,.slice (some (q,0)) n1 c1 e1] false)→G[g0.length]?=some (.cells Zad [.str [],.str [],.slice none 0 0 true] false) →
   G[eX]?=some (.cells Zab [] false)→G[zI]?=some (.cells Zad [.str [],.str [],.slice none 0 0 true] false)→h.length≤eX→g0.length < zI→cl.length≤1000 →
   Zbt (Zbb G (.ptr (some (zI,0))) [.str cl,.str hd,.slice (some (eX,0)) 0 0 true]) fun h_22=>Zak pg Zfm [.ptr (some (i,0)),.slice (some (List.length h_22,0)) 4 4 true] (h_22 ++ [.cells Zkz [.int .i64 1,.int .i64 0,.int .i64 1,.int .i64 2] false]) fun v_24 h_25=>Zec .i64 (some v_24) fun x_26=>Zdm.L4 (Yul i p h) (some (i,0)) h.length 0 g0.length 0 hd zI 0 x_26 0 h_25:=by
  intro G zI eX p' cl KG RG h1 h2 xG zG eG iG hel hzl hcl
  have hzi:=Own.lt iG
  rw [Zbg iG (by simp)]
  simp only [Zas,putRow,List.take_zero,List.length_cons,List.length_nil,List.drop_succ_cons,List.drop_zero,List.drop_nil,List.cons_append,List.nil_append,List.append_nil,Nat.zero_add]
  have i2:=Zce iG (x:=.cells Zad [.str cl,.str hd,.slice (some (eX,0)) 0 0 true] false)
  have n2:∀ j,j≠zI→(G.set zI (.cells Zad [.str cl,.str hd,.slice (some (eX,0)) 0 0 true] false))[j]?=G[j]?:=fun j hj=>Zbw (fun e=>hj e.symm)
  have l2:(G.set zI (.cells Zad [.str cl,.str hd,.slice (some (eX,0)) 0 0 true] false)).length=G.length:=by simp
  generalize G.set zI (.cells Zad [.str cl,.str hd,.slice (some (eX,0)) 0 0 true] false)=G2 at i2 n2 l2 ⊢
  have hez:eX≠zI:=Zgq eG iG (by decide)
  have K2:Zem i h G2:=⟨by have:=KG.le; omega,fun j hj hji=>by rw [n2 j (by omega)]; exact KG.eq j hj hji⟩
  have R2:Rdr G2 i p':=RG.agree (fun j hj=>n2 j (by omega)) (by omega)
  have x2:G2[h.length]?=some (.cells Zac [.slice a0 n0 c0 e0,.slice (some (q,0)) n1 c1 e1] false):=by rw [n2 _ (by omega)]; exact xG
  have z2:G2[g0.length]?=some (.cells Zad [.str [],.str [],.slice none 0 0 true] false):=by rw [n2 _ (by omega)]; exact zG
  have e2:G2[eX]?=some (.cells Zab [] false):=by rw [n2 _ hez]; exact eG
  refine (Yuv (R2.app _) (by omega) (j:=G2.length) (t:=Zkz) (n:=4) (l:=[1,0,1,2]) (by simp [Zdb,eI]) (by have:=R2.lt; omega) rfl (by omega)).mono ?_
  rintro v G3 ⟨x,hx,rfl,K3,R3,l3⟩
  have hR2l:=R2.lt
  simp only [List.mem_cons,List.not_mem_nil,or_false] at hx
  have hxb:0≤x∧x≤2:=by rcases hx with rfl | rfl | rfl | rfl <;> omega
  simp only [Zax]
  have hgl:g0.length≠i:=by omega
  refine Zdm.L4ind (J:=fun (g:Nat) x27 h'=>x27=(g:Int)∧(g:Int)≤x∧Zem i h h'∧(∃ p',p≤p'∧p'≤p + 10 + g * 2000∧Rdr h' i p')∧h'[h.length]?=some (.cells Zac [.slice a0 n0 c0 e0,.slice (some (q,0)) n1 c1 e1] false)∧h'[g0.length]?=some (.cells Zad [.str [],.str [],.slice none 0 0 true] false) ∧
    ∃ (l:List Nd) (y c:Nat) (e:Bool),h'[zI]?=some (.cells Zad [.str cl,.str hd,.slice (some (y,0)) l.length c e] false)∧h'[y]?=some (.cells Zab (Zdb eP l) false)∧h.length≤y∧l.length≤g∧l.length≤c∧∀ q∈l,q.1.length≤1000∧q.2.length≤1000) (m:=fun g=>x.toNat - g) (hr:=?_) (g:=0)
   (hj:=⟨rfl,by omega,(K2.trans (Zem.app i G2 _)).trans K3,⟨_,by omega,by omega,R3⟩,K3.get (Zie x2) (by omega),K3.get (Zie z2) (by omega),[],eX,0,true,K3.get (Zie i2) (by omega),K3.get (Zie e2) (by omega),hel,Nat.le_refl _,Nat.le_refl _,by simp⟩) ..
  rintro g x27 k ⟨rfl,hg,Kk,⟨p4,hp1,hp2,Rk⟩,xk,zk,l,y,c,e,ik,yk,hyl,hlg,hlc,hls⟩ R hR
  unfold Zdm.L4t
  have hkl:=Rk.lt
  refine Zar (fun hlt=>?_) (fun hge=>?_)
  ·refine (Zup hd (by omega)).mono ?_
   rintro v k1 ⟨rfl,t1⟩
   have hvl:(if Zor hd=true then Zre hd else []).length≤6:=by split; exact Yqm _; simp
   have next:∀ (G:Zaa) (p':Nat),Zem i k G→p≤p'→p'≤p4 + 1→Rdr G i p'→Zdm.J7 (Yul i p h) R (g:Int) x hd (some (i,0)) zI 0 h.length 0 g0.length 0 G:=by
    intro G p' KG h1 h2 RG
    apply Zdm.J7i
    rw [Zbm (by omega)]
    exact hR (g + 1) _ _ (by omega) ⟨rfl,by omega,Kk.trans KG,⟨p',h1,by omega,RG⟩,KG.get xk (by omega),KG.get zk (by omega),l,y,c,e,KG.get ik (by omega),KG.get yk (by omega),hyl,by omega,hlc,hls⟩
   have add:∀ (G:Zaa) (p':Nat),Zem i k G→p≤p'→p'≤p4 + 1→Rdr G i p' →
     xSl (Zag G (.ptr (some (zI,0 + 2)))) fun a_87 n_88 c_89 e_90=>Zcd (Zbe G (.ptr (some (h.length,0))) 2) fun cs_91=>Zai cs_91 fun c_92 r_93=>xSl (some c_92) fun a_94 n_95 c_96 e_97=>Zai r_93 fun c_98 r_99=>xSl (some c_98) fun a_100 n_101 c_102 e_103=>Zbq r_99 (Zak pg Zho [.str hd] G fun v_104 h_105=>
      Zbd (some v_104) fun s_106=>(Zbe h_105 (.ptr (some (h.length,0))) 2=Zbe G (.ptr (some (h.length,0))) 2)∧(Zag h_105 (.ptr (some (zI,0 + 2)))=Zag G (.ptr (some (zI,0 + 2))))∧Zak pg Zii [.ptr (some (i,0)),.agg [.slice a_94 n_95 c_96 e_97,.slice a_100 n_101 c_102 e_103],.str s_106] h_105 fun v_107 h_108=>
      Zqi v_107 fun cs_109=>Zai cs_109 fun c_110 r_111=>Zbd (some c_110) fun s_112=>Zai r_111 fun c_113 r_114=>Zbd (some c_113) fun s_115=>Zbq r_114 ((Zag h_108 (.ptr (some (zI,0 + 2)))=Zag h_105 (.ptr (some (zI,0 + 2))))∧((Zbe (h_108 ++ [.cells Zab [.str s_112,.str s_115] false]) (.ptr (some (h.length,0))) 2=Zbe h_108 (.ptr (some (h.length,0))) 2)∧(Zag (h_108 ++ [.cells Zab [.str s_112,.str s_115] false]) (.ptr (some (zI,0 + 2)))=Zag h_108 (.ptr (some (zI,0 + 2))))∧Zci pg Zbo (h_108 ++ [.cells Zab [.str s_112,.str s_115] false]) (.slice a_87 n_88 c_89 e_90) (.slice (some (List.length h_108,0)) 1 1 true) fun v_117 h_118=>xSl (some v_117) fun a_119 n_120 c_121 e_122=>(Zbe h_118 (.ptr (some (h.length,0))) 2=Zbe (h_108 ++ [.cells Zab [.str s_112,.str s_115] false]) (.ptr (some (h.length,0))) 2)∧Zbt (Zbb h_118 (.ptr (some (zI,0 + 2))) [.slice a_119 n_120 c_121 e_122]) fun h_123=>Zdm.J7 (Yul i p h) R (g:Int) x hd (some (i,0)) zI 0 h.length 0 g0.length 0 h_123))):=by
    intro G p' KG h1 h2 RG
    have xG:=KG.get xk (by omega)
    have zG:=KG.get zk (by omega)
    have iG:=KG.get ik (by omega)
    have yG:=KG.get yk (by omega)
    simp only [Zan iG,Nat.zero_add,List.getElem?_cons_succ,List.getElem?_cons_zero,Zaj]
    rw [Zaz xG]
    simp only [Zao,Zae,Zam,Zaj]
    refine (Zup hd (by omega)).mono ?_
    rintro v G1 ⟨rfl,t1⟩
    have xG1:=t1.get xG (Own.lt xG)
    have iG1:=t1.get iG (Own.lt iG)
    have yG1:=t1.get yG (Own.lt yG)
    have zG1:=t1.get zG (Own.lt zG)
    simp only [Zah]
    refine ⟨by rw [Zaz xG1],by rw [Zan iG1]; rfl,?_⟩
    have KK:=Kk.trans KG
    have dG:=((d.kp KK hib).same t1)
    refine (Yfp (RG.same t1) (by omega) dG hib hn0 ws (by omega)).mono ?_
    rintro v G2 ⟨c',t',rfl,hc',ht',K2,p5,hp5,hp6,R5⟩
    have il2:=t1.le
    have xG2:=K2.get xG1 (by omega)
    have iG2:=K2.get iG1 (by omega)
    have yG2:=K2.get yG1 (by omega)
    have zG2:=K2.get zG1 (by omega)
    simp only [Zdt,Zae,Zam,Zah]
    refine ⟨by rw [Zan iG2,Zan iG1],by rw [Zaz (Zie xG2),Zaz xG2],by rw [Zan (Zie iG2),Zan iG2],?_⟩
    have R5l:=R5.lt
    refine (Vec.mk1 (n:=l.length) (c:=c) yG2).pushN (sz:=2) Zhi Zng Znd Znc (by rw [Zat Zcr]) rfl (by omega) rfl (by omega) (fun G4 hl4 hi4 hk4=>?_)
    have keep:∀ {x:Nat} {o:Zcb},G2[x]?=some o→x≠y→G4[x]?=some o:=fun {x o} hx hne=>by rw [hk4 x (Own.lt hx) (fun i hi=>by cases hi; exact hne)]; exact hx
    have xG4:=keep xG2 (Zgq xG2 yG2 (by decide))
    have iG4:=keep iG2 (Zgq iG2 yG2 (by decide))
    have zG4:=keep zG2 (Zgq zG2 yG2 (by decide))
    simp only [Zaj]
    refine ⟨by rw [Zaz xG4,Zaz (Zie xG2)],?_⟩
    rw [Zbg iG4 (by simp)]
    simp only [Zas,putRow,List.take_succ_cons,List.take_zero,List.length_cons,List.length_nil,List.drop_succ_cons,List.drop_zero,List.drop_nil,List.cons_append,List.nil_append,List.append_nil]
    apply Zdm.J7i
    rw [Zbm (by omega)]
    have hiy:i≠y:=by omega
    have R6:Rdr (G4.set zI (.cells Zad [.str cl,.str hd,.slice (some (G2.length + 1,0)) (l.length + 1) (l.length + 1) false] false)) i p5:=R5.agree (fun j hj=>by rw [Zbw (by omega),hk4 j (by omega) (fun i' hi'=>by cases hi'; omega)]) (by simp; omega)
    have K26:Zem i h (G4.set zI (.cells Zad [.str cl,.str hd,.slice (some (G2.length + 1,0)) (l.length + 1) (l.length + 1) false] false)):=by
     have K02:=(KK.trans (Zem.of_same t1)).trans K2
     have:=K02.le
     exact ⟨by simp; omega,fun j hj hji=>by rw [Zbw (by omega),hk4 j (by omega) (fun i' hi'=>by cases hi'; omega)]; exact K02.eq j hj hji⟩
    have KKl:=((KK.trans (Zem.of_same t1)).trans K2).le
    refine hR (g + 1) _ _ (by omega) ⟨rfl,by omega,K26,⟨p5,by omega,by omega,R6⟩,by rw [Zbw (by omega)]; exact xG4,by rw [Zbw (by omega)]; exact zG4,l ++ [(c',t')],G2.length + 1,l.length + 1,false,by simpa using Zce iG4,?_,by omega,by simp; omega,by simp,fun q hq=>?_⟩
    ·rw [Zbw (Zgq iG4 hi4 (by decide))]; simpa [eP] using hi4
    ·rcases List.mem_append.1 hq with hq | hq
     ·exact hls q hq
     ·rw [List.mem_singleton] at hq; subst hq; exact ⟨hc',ht'⟩
   simp only [Zah,Zaw]
   generalize hvv:(if Zor hd=true then Zre hd else [])=vs at hvl
   refine Zbs (fun hv=>?_) (fun hv=>?_)
   ·exact add k1 p4 (Zem.of_same t1) hp1 (by omega) (Rk.same t1)
   ·refine (Zdd (Rk.same t1) (by omega) 4).mono ?_
    rintro v k2 ⟨z,rfl,_,_,_,K2,R2',_⟩
    simp only [Zax]
    refine Zcw (fun _=>?_) (fun _=>?_)
    ·exact add k2 _ ((Zem.of_same t1).trans K2) (by omega) (by omega) R2'
    ·exact next k2 _ ((Zem.of_same t1).trans K2) (by omega) (by omega) R2'
  ·apply Zdm.A4x0i
   rw [Zox ik]
   simp only [Zao,Zae,Zam,Zah,Zaj]
   rw [Zbg zk (by simp)]
   simp only [Zas,putRow,List.take_zero,List.length_cons,List.length_nil,List.drop_succ_cons,List.drop_zero,List.drop_nil,List.cons_append,List.nil_append,List.append_nil,Nat.zero_add]
   rw [Zox (Zce zk)]
   simp only [Zao,Zae,Zam,Zah,Zaj]
   refine ⟨((cl,hd),l),some (y,0),c,e,rfl,hlc,⟨rfl,.inr ⟨y,rfl,hyl,by rw [Zbw (Zgq zk yk (by decide))]; exact yk⟩⟩,⟨hcl,by simp only; omega,by simp only; omega,hls⟩,⟨by have:=Kk.le; simp; omega,fun j hj hji=>by rw [Zbw (by omega)]; exact Kk.eq j hj hji⟩,p4,hp1,by omega,Rk.agree (fun j hj=>by rw [Zbw (by omega)]) (by simp)⟩
 have Rg1':=Rg1.lt
 have hxl:=Own.lt xg1
 have hzl1:=Own.lt zg1
 refine ⟨?_,?_,?_⟩
 ·
  refine (Zdd Rg1 (by omega) (n0:Int)).mono ?_
  rintro v g2 ⟨x,rfl,hx0,hx1,_,pg2,Rg2,lg2⟩
  have hx1:=hx1 (by omega)
  have qg2:=Own.lt xg1
  have q2g2:=Own.lt zg1
  have Kg2:=Kg1.trans pg2
  have xg2:=pg2.get xg1 (by first | omega | (have:=Own.lt xg1; omega))
  have zg2:=pg2.get zg1 (by first | omega | (have:=Own.lt zg1; omega))
  obtain ⟨k,rfl⟩:∃ k:Nat,x=k:=⟨x.toNat,by omega⟩
  obtain ⟨ic,oc,hkc,ha,hicl,_,cg2,_⟩:=(d.kp Kg2 hib).rep.class (k:=k) (by omega)
  subst ha
  have hcl:=(ws.cs _ (List.getElem_mem hkc)).1
  simp only [Zax,Zan xg2,Zan xg1,Zau,Int.toNat_natCast,Nat.add_zero,cg2,Zah,true_and,eq_self,List.getElem?_cons_zero]
  refine ⟨⟨by omega,by omega⟩,?_⟩
  refine ⟨?_,?_⟩
  ·
   generalize hg3:g2 ++ [Zcb.cells Zab [] false]=g3
   have sg3:Zbc g2.length g2 g3:=by rw [← hg3]; exact Zal
   have lg3:g3.length=g2.length + 1:=by rw [← hg3]; simp
   have Kg3:=Kg2.trans (Zem.of_same (i:=i) sg3)
   have Rg3:=Rg2.same sg3
   have xg3:=sg3.get xg2 (Own.lt xg2)
   have zg3:=sg3.get zg2 (Own.lt zg2)
   have eg3:g3[g2.length]?=some (.cells Zab [] false):=by rw [← hg3]; simp
   have qg3:=Own.lt xg2
   have cg3:Zag g3 (.ptr (some (ic,oc + k * 2)))=some (.str w.cs[k].1):=by rw [← hg3,Zuu (by omega)]; exact cg2
   try simp only [Zan xg3,Zan xg2,cg3,cg2,true_and,eq_self,List.getElem?_cons_zero]
   generalize hg4:g3 ++ [Zcb.cells Zad [.str [],.str [],.slice none 0 0 true] false]=g4
   have sg4:Zbc g3.length g3 g4:=by rw [← hg4]; exact Zal
   have lg4:g4.length=g3.length + 1:=by rw [← hg4]; simp
   have Kg4:=Kg3.trans (Zem.of_same (i:=i) sg4)
   have Rg4:=Rg3.same sg4
   have xg4:=sg4.get xg3 (Own.lt xg3)
   have zg4:=sg4.get zg3 (Own.lt zg3)
   have ig4:g4[g3.length]?=some (.cells Zad [.str [],.str [],.slice none 0 0 true] false):=by rw [← hg4]; simp
   have eg4:=sg4.get eg3 (Own.lt eg3)
   have qg4:=Own.lt xg3
   have cg4:Zag g4 (.ptr (some (ic,oc + k * 2)))=some (.str w.cs[k].1):=by rw [← hg4,Zuu (by omega)]; exact cg3
   try simp only [Zan xg4,Zan xg3,cg4,cg3,true_and,eq_self,List.getElem?_cons_zero]
   exact fin g4 g3.length g2.length _ _ Kg4 Rg4 (by omega) (by omega) xg4 zg4 eg4 ig4 (by omega) (by omega) hcl
  ·
   generalize hg5:g2 ++ [Zcb.cells Zad [.str [],.str [],.slice none 0 0 true] false]=g5
   have sg5:Zbc g2.length g2 g5:=by rw [← hg5]; exact Zal
   have lg5:g5.length=g2.length + 1:=by rw [← hg5]; simp
   have Kg5:=Kg2.trans (Zem.of_same (i:=i) sg5)
   have Rg5:=Rg2.same sg5
   have xg5:=sg5.get xg2 (Own.lt xg2)
   have zg5:=sg5.get zg2 (Own.lt zg2)
   have ig5:g5[g2.length]?=some (.cells Zad [.str [],.str [],.slice none 0 0 true] false):=by rw [← hg5]; simp
   have qg5:=Own.lt xg2
   have cg5:Zag g5 (.ptr (some (ic,oc + k * 2)))=some (.str w.cs[k].1):=by rw [← hg5,Zuu (by omega)]; exact cg2
   try simp only [Zan xg5,Zan xg2,cg5,cg2,true_and,eq_self,List.getElem?_cons_zero]
   generalize hg6:g5 ++ [Zcb.cells Zab [] false]=g6
   have sg6:Zbc g5.length g5 g6:=by rw [← hg6]; exact Zal
   have lg6:g6.length=g5.length + 1:=by rw [← hg6]; simp
   have Kg6:=Kg5.trans (Zem.of_same (i:=i) sg6)
   have Rg6:=Rg5.same sg6
   have xg6:=sg6.get xg5 (Own.lt xg5)
   have zg6:=sg6.get zg5 (Own.lt zg5)
   have eg6:g6[g5.length]?=some (.cells Zab [] false):=by rw [← hg6]; simp
   have ig6:=sg6.get ig5 (Own.lt ig5)
   have qg6:=Own.lt xg5
   have cg6:Zag g6 (.ptr (some (ic,oc + k * 2)))=some (.str w.cs[k].1):=by rw [← hg6,Zuu (by omega)]; exact cg5
   try simp only [Zan xg6,Zan xg5,cg6,cg5,true_and,eq_self,List.getElem?_cons_zero]
   exact fin g6 g2.length g5.length _ _ Kg6 Rg6 (by omega) (by omega) xg6 zg6 eg6 ig6 (by omega) (by omega) hcl
 ·
  generalize hg7:g1 ++ [Zcb.cells Zab [] false]=g7
  have sg7:Zbc g1.length g1 g7:=by rw [← hg7]; exact Zal
  have lg7:g7.length=g1.length + 1:=by rw [← hg7]; simp
  have Kg7:=Kg1.trans (Zem.of_same (i:=i) sg7)
  have Rg7:=Rg1.same sg7
  have xg7:=sg7.get xg1 (Own.lt xg1)
  have zg7:=sg7.get zg1 (Own.lt zg1)
  have eg7:g7[g1.length]?=some (.cells Zab [] false):=by rw [← hg7]; simp
  have qg7:=Own.lt xg1
  try simp only [Zan xg7,Zan xg1,true_and,eq_self,List.getElem?_cons_zero]
  refine ⟨?_,?_⟩
  ·
   refine (Zdd Rg7 (by omega) (n0:Int)).mono ?_
   rintro v g8 ⟨x,rfl,hx0,hx1,_,pg8,Rg8,lg8⟩
   have hx1:=hx1 (by omega)
   have qg8:=Own.lt xg7
   have q2g8:=Own.lt zg7
   have Kg8:=Kg7.trans pg8
   have xg8:=pg8.get xg7 (by first | omega | (have:=Own.lt xg7; omega))
   have zg8:=pg8.get zg7 (by first | omega | (have:=Own.lt zg7; omega))
   have eg8:=pg8.get eg7 (by first | omega | (have:=Own.lt eg7; omega))
   obtain ⟨k,rfl⟩:∃ k:Nat,x=k:=⟨x.toNat,by omega⟩
   obtain ⟨ic,oc,hkc,ha,hicl,_,cg8,_⟩:=(d.kp Kg8 hib).rep.class (k:=k) (by omega)
   subst ha
   have hcl:=(ws.cs _ (List.getElem_mem hkc)).1
   simp only [Zax,Zan xg8,Zan xg7,Zau,Int.toNat_natCast,Nat.add_zero,cg8,Zah,true_and,eq_self,List.getElem?_cons_zero]
   refine ⟨⟨by omega,by omega⟩,?_⟩
   generalize hg9:g8 ++ [Zcb.cells Zad [.str [],.str [],.slice none 0 0 true] false]=g9
   have sg9:Zbc g8.length g8 g9:=by rw [← hg9]; exact Zal
   have lg9:g9.length=g8.length + 1:=by rw [← hg9]; simp
   have Kg9:=Kg8.trans (Zem.of_same (i:=i) sg9)
   have Rg9:=Rg8.same sg9
   have xg9:=sg9.get xg8 (Own.lt xg8)
   have zg9:=sg9.get zg8 (Own.lt zg8)
   have ig9:g9[g8.length]?=some (.cells Zad [.str [],.str [],.slice none 0 0 true] false):=by rw [← hg9]; simp
   have eg9:=sg9.get eg8 (Own.lt eg8)
   have qg9:=Own.lt xg8
   have cg9:Zag g9 (.ptr (some (ic,oc + k * 2)))=some (.str w.cs[k].1):=by rw [← hg9,Zuu (by omega)]; exact cg8
   try simp only [Zan xg9,Zan xg8,cg9,cg8,true_and,eq_self,List.getElem?_cons_zero]
   exact fin g9 g8.length g1.length _ _ Kg9 Rg9 (by omega) (by omega) xg9 zg9 eg9 ig9 (by omega) (by omega) hcl
  ·
   generalize hg10:g7 ++ [Zcb.cells Zad [.str [],.str [],.slice none 0 0 true] false]=g10
   have sg10:Zbc g7.length g7 g10:=by rw [← hg10]; exact Zal
   have lg10:g10.length=g7.length + 1:=by rw [← hg10]; simp
   have Kg10:=Kg7.trans (Zem.of_same (i:=i) sg10)
   have Rg10:=Rg7.same sg10
   have xg10:=sg10.get xg7 (Own.lt xg7)
   have zg10:=sg10.get zg7 (Own.lt zg7)
   have ig10:g10[g7.length]?=some (.cells Zad [.str [],.str [],.slice none 0 0 true] false):=by rw [← hg10]; simp
   have eg10:=sg10.get eg7 (Own.lt eg7)
   have qg10:=Own.lt xg7
   try simp only [Zan xg10,Zan xg7,true_and,eq_self,List.getElem?_cons_zero]
   refine (Zdd Rg10 (by omega) (n0:Int)).mono ?_
   rintro v g11 ⟨x,rfl,hx0,hx1,_,pg11,Rg11,lg11⟩
   have hx1:=hx1 (by omega)
   have qg11:=Own.lt xg10
   have q2g11:=Own.lt zg10
   have Kg11:=Kg10.trans pg11
   have xg11:=pg11.get xg10 (by first | omega | (have:=Own.lt xg10; omega))
   have zg11:=pg11.get zg10 (by first | omega | (have:=Own.lt zg10; omega))
   have eg11:=pg11.get eg10 (by first | omega | (have:=Own.lt eg10; omega))
   have ig11:=pg11.get ig10 (by first | omega | (have:=Own.lt ig10; omega))
   obtain ⟨k,rfl⟩:∃ k:Nat,x=k:=⟨x.toNat,by omega⟩
   obtain ⟨ic,oc,hkc,ha,hicl,_,cg11,_⟩:=(d.kp Kg11 hib).rep.class (k:=k) (by omega)
   subst ha
   have hcl:=(ws.cs _ (List.getElem_mem hkc)).1
   simp only [Zax,Zan xg11,Zan xg10,Zau,Int.toNat_natCast,Nat.add_zero,cg11,Zah,true_and,eq_self,List.getElem?_cons_zero]
   refine ⟨⟨by omega,by omega⟩,?_⟩
   exact fin g11 g7.length g1.length _ _ Kg11 Rg11 (by omega) (by omega) xg11 zg11 eg11 ig11 (by omega) (by omega) hcl
 ·
  generalize hg12:g1 ++ [Zcb.cells Zad [.str [],.str [],.slice none 0 0 true] false]=g12
  have sg12:Zbc g1.length g1 g12:=by rw [← hg12]; exact Zal
  have lg12:g12.length=g1.length + 1:=by rw [← hg12]; simp
  have Kg12:=Kg1.trans (Zem.of_same (i:=i) sg12)
  have Rg12:=Rg1.same sg12
  have xg12:=sg12.get xg1 (Own.lt xg1)
  have zg12:=sg12.get zg1 (Own.lt zg1)
  have ig12:g12[g1.length]?=some (.cells Zad [.str [],.str [],.slice none 0 0 true] false):=by rw [← hg12]; simp
  have qg12:=Own.lt xg1
  try simp only [Zan xg12,Zan xg1,true_and,eq_self,List.getElem?_cons_zero]
  refine ⟨?_,?_⟩
  ·
   refine (Zdd Rg12 (by omega) (n0:Int)).mono ?_
   rintro v g13 ⟨x,rfl,hx0,hx1,_,pg13,Rg13,lg13⟩
   have hx1:=hx1 (by omega)
   have qg13:=Own.lt xg12
   have q2g13:=Own.lt zg12
   have Kg13:=Kg12.trans pg13
   have xg13:=pg13.get xg12 (by first | omega | (have:=Own.lt xg12; omega))
   have zg13:=pg13.get zg12 (by first | omega | (have:=Own.lt zg12; omega))
   have ig13:=pg13.get ig12 (by first | omega | (have:=Own.lt ig12; omega))
   obtain ⟨k,rfl⟩:∃ k:Nat,x=k:=⟨x.toNat,by omega⟩
   obtain ⟨ic,oc,hkc,ha,hicl,_,cg13,_⟩:=(d.kp Kg13 hib).rep.class (k:=k) (by omega)
   subst ha
   have hcl:=(ws.cs _ (List.getElem_mem hkc)).1
   simp only [Zax,Zan xg13,Zan xg12,Zau,Int.toNat_natCast,Nat.add_zero,cg13,Zah,true_and,eq_self,List.getElem?_cons_zero]
   refine ⟨⟨by omega,by omega⟩,?_⟩
   generalize hg14:g13 ++ [Zcb.cells Zab [] false]=g14
   have sg14:Zbc g13.length g13 g14:=by rw [← hg14]; exact Zal
   have lg14:g14.length=g13.length + 1:=by rw [← hg14]; simp
   have Kg14:=Kg13.trans (Zem.of_same (i:=i) sg14)
   have Rg14:=Rg13.same sg14
   have xg14:=sg14.get xg13 (Own.lt xg13)
   have zg14:=sg14.get zg13 (Own.lt zg13)
   have eg14:g14[g13.length]?=some (.cells Zab [] false):=by rw [← hg14]; simp
   have ig14:=sg14.get ig13 (Own.lt ig13)
   have qg14:=Own.lt xg13
   have cg14:Zag g14 (.ptr (some (ic,oc + k * 2)))=some (.str w.cs[k].1):=by rw [← hg14,Zuu (by omega)]; exact cg13
   try simp only [Zan xg14,Zan xg13,cg14,cg13,true_and,eq_self,List.getElem?_cons_zero]
   exact fin g14 g1.length g13.length _ _ Kg14 Rg14 (by omega) (by omega) xg14 zg14 eg14 ig14 (by omega) (by omega) hcl
  ·
   generalize hg15:g12 ++ [Zcb.cells Zab [] false]=g15
   have sg15:Zbc g12.length g12 g15:=by rw [← hg15]; exact Zal
   have lg15:g15.length=g12.length + 1:=by rw [← hg15]; simp
   have Kg15:=Kg12.trans (Zem.of_same (i:=i) sg15)
   have Rg15:=Rg12.same sg15
   have xg15:=sg15.get xg12 (Own.lt xg12)
   have zg15:=sg15.get zg12 (Own.lt zg12)
   have eg15:g15[g12.length]?=some (.cells Zab [] false):=by rw [← hg15]; simp
   have ig15:=sg15.get ig12 (Own.lt ig12)
   have qg15:=Own.lt xg12
   try simp only [Zan xg15,Zan xg12,true_and,eq_self,List.getElem?_cons_zero]
   refine (Zdd Rg15 (by omega) (n0:Int)).mono ?_
   rintro v g16 ⟨x,rfl,hx0,hx1,_,pg16,Rg16,lg16⟩
   have hx1:=hx1 (by omega)
   have qg16:=Own.lt xg15
   have q2g16:=Own.lt zg15
   have Kg16:=Kg15.trans pg16
   have xg16:=pg16.get xg15 (by first | omega | (have:=Own.lt xg15; omega))
   have zg16:=pg16.get zg15 (by first | omega | (have:=Own.lt zg15; omega))
   have eg16:=pg16.get eg15 (by first | omega | (have:=Own.lt eg15; omega))
   have ig16:=pg16.get ig15 (by first | omega | (have:=Own.lt ig15; omega))
   obtain ⟨k,rfl⟩:∃ k:Nat,x=k:=⟨x.toNat,by omega⟩
   obtain ⟨ic,oc,hkc,ha,hicl,_,cg16,_⟩:=(d.kp Kg16 hib).rep.class (k:=k) (by omega)
   subst ha
   have hcl:=(ws.cs _ (List.getElem_mem hkc)).1
   simp only [Zax,Zan xg16,Zan xg15,Zau,Int.toNat_natCast,Nat.add_zero,cg16,Zah,true_and,eq_self,List.getElem?_cons_zero]
   refine ⟨⟨by omega,by omega⟩,?_⟩
   exact fin g16 g1.length g12.length _ _ Kg16 Rg16 (by omega) (by omega) xg16 zg16 eg16 ig16 (by omega) (by omega) hcl
--END ORDERS
end Go.Sim

set_option linter.unusedVariables false
set_option linter.unusedSimpArgs false
set_option maxRecDepth 20000
namespace Go.Sim
open Go Go.RowKit

theorem WDr.setW {b:Nat} {h:Zaa} {a0:Pt} {n0 c0 q n1 c1:Nat} {ys:List EI} {w:Wd} {z:Nat} {cs:List Zay} {x:Zcb} (d:WDr b h a0 n0 c0 q n1 c1 ys w) (hz:h[z]?=some (.cells Zac cs false)):WDr b (h.set z x) a0 n0 c0 q n1 c1 ys w:=by
 have off:∀ {j:Nat} {t:TypeId} {c:List Zay},h[j]?=some (.cells t c false)→t≠Zac→(h.set z x)[j]?=some (.cells t c false):=fun {j t c} hj hne=>by rw [Zbw (Zgq hz hj (Ne.symm hne))]; exact hj
 exact ⟨⟨d.cls.1,d.cls.2.imp id fun ⟨i,ha,hb,hi⟩=>⟨i,ha,hb,off hi (by decide)⟩⟩,d.le0,d.bq,off d.ob (by decide),d.len,d.wl,d.le1,fun k x' i hx hi=>⟨(d.need k x' i hx hi).1,(d.need k x' i hx hi).2.1,⟨(d.need k x' i hx hi).2.2.1,(d.need k x' i hx hi).2.2.2.imp id fun ⟨i,ha,hb,hi⟩=>⟨i,ha,hb,off hi (by decide)⟩⟩⟩⟩
theorem RdK.setW {i p k z:Nat} {h h':Zaa} {x:Zcb} (r:RdK i p k h h') (hz:h.length≤z) (hi:i < h.length):RdK i p k h (h'.set z x):=
 ⟨⟨by have:=r.1.le; simp; omega,fun j hj hji=>by rw [Zbw (by omega)]; exact r.1.eq j hj hji⟩,r.2.imp fun p' ⟨h1,h2,h3⟩=>⟨h1,h2,h3.agree (fun j hj=>Zbw (by omega)) (by simp)⟩⟩
def DWQ (i p k m:Nat) (h:Zaa) (v:Zay) (h':Zaa):Prop:=∃ u w,v=.agg u∧Xat h h' u w∧WS m w∧RdK i p k h h'
theorem Ypj {h:Zaa} {i p:Nat} (r:Rdr h i p) (hp:p≤700000000000):Zak pg Zsb [.ptr (some (i,0))] h (DWQ i p 100000 1010 h):=by
 have hil:=r.lt
 apply Zly.call
 simp only [Zaw]
 generalize hg0:h ++ [Zcb.cells Zac [.slice none 0 0 true,.slice none 0 0 true] false]=g0
 have s0:Zbc h.length h g0:=by rw [← hg0]; exact Zal
 have z0:g0[h.length]?=some (.cells Zac [.slice none 0 0 true,.slice none 0 0 true] false):=by rw [← hg0]; simp
 have l0:g0.length=h.length + 1:=by rw [← hg0]; simp
 refine (Zdd (r.same s0) (by omega) 2).mono ?_
 rintro v g1 ⟨x,rfl,_,_,_,K1,R1,l1⟩
 have z1:=K1.get z0 (by omega)
 have KK1:=(Zem.of_same (i:=i) s0).trans K1
 simp only [Zax]
 refine Zcw (fun _=>?_) (fun _=>?_)
 ·refine (Zdd R1 (by omega) 9).mono ?_
  rintro v g2 ⟨y,rfl,hy0,hy1,_,K2,R2,l2⟩
  simp only [Zax]
  refine (Yoy hy0 (hy1 (by omega))).mono ?_
  rintro v g3 ⟨s3,u,w,rfl,⟨a0,n0,c0,e0,q,n1,c1,e1,ys,rfl,d⟩,ws⟩
  have z3:=s3.get (K2.get z1 (by omega)) (by have:=Own.lt z1; omega)
  have K3:=(KK1.trans K2).trans (Zem.of_same s3)
  simp only [Zdt,Zae,Zaj,Zam]
  rw [Zbg z3 (by simp)]
  simp only [Zas,putRow,List.take_zero,List.length_cons,List.length_nil,List.drop_succ_cons,List.drop_zero,List.drop_nil,List.cons_append,List.nil_append,List.append_nil,Nat.zero_add]
  rw [Zaz (Zce z3)]
  simp only [Zao,Zae,Zam,Zaj]
  have rk:RdK i p 100000 h g3:=⟨K3,_,by omega,by omega,R2.same s3⟩
  exact ⟨_,w,rfl,⟨a0,n0,c0,e0,q,n1,c1,e1,ys,rfl,(d.low (by omega)).setW z3⟩,ws.mono (by omega),rk.setW (Nat.le_refl _) hil⟩
 ·have h1l:=R1.lt
  refine (Zno (R1.app _) (by omega) (j:=g1.length) (t:=Zbi) (n:=5) (l:=Zwu) (by simp [Zdb,eS,Zwu]) (by omega) rfl (by omega)).mono ?_
  rintro v g2 ⟨s,hs,rfl,K2,R2,l2⟩
  simp only [Zah]
  have hsz:s.length≤900∧∀ b∈s,b < 256:=by
   simp only [Zwu,List.mem_cons,List.not_mem_nil,or_false] at hs
   rcases hs with rfl | rfl | rfl | rfl | rfl <;> exact ⟨by decide,by decide⟩
  obtain ⟨hcs,his⟩:=Yxb s hs
  have K02:=(KK1.trans (Zem.app i g1 [Zcb.cells Zbi [.str [69],.str [69,32,79,60,69],.str [65,32,66],.str [65,32,66,60,65,32,67,60,65,66],.str [69,32,79,60,69,32,83]] false])).trans K2
  have z2:=K2.get (Zie z1) (by omega)
  refine (Zvr s hsz.1 hsz.2).mono ?_
  rintro v g3 ⟨s3,u,bb,rfl,a0,n0,c0,e0,q,n1,c1,e1,ys,rfl,d⟩
  have z3:=s3.get z2 (Own.lt z2)
  have K03:=K02.trans (Zem.of_same s3)
  simp only [Zco,Zdt,Zae,Zaj,Zam,Zaq]
  rw [Zfb]
  simp only [Zas]
  generalize hg4:g3 ++ [Zcb.cells Zac [.slice a0 n0 c0 e0,.slice (some (q,0)) n1 c1 e1] false]=g4
  have s4:Zbc g3.length g3 g4:=by rw [← hg4]; exact Zal
  have y4:g4[g3.length]?=some (.cells Zac [.slice a0 n0 c0 e0,.slice (some (q,0)) n1 c1 e1] false):=by rw [← hg4]; simp
  have z4:=s4.get z3 (Own.lt z3)
  have K04:=K03.trans (Zem.of_same s4)
  have hz2:=Own.lt z2
  have l3:=s3.le
  have hiz:i≠g3.length:=by omega
  refine (Zdd ((R2.same s3).same s4) (by omega) 6).mono ?_
  rintro v g5 ⟨x5,rfl,hx50,hx51,_,K5,R5,l5⟩
  have hx51:=hx51 (by omega)
  simp only [Zax]
  rw [IntWalk.i64_in (1 + x5) (by omega)]
  have y5:=K5.get y4 (by omega)
  have z5:=K5.get z4 (by omega)
  have K05:=K04.trans K5
  have ws0:=Yaz hsz.1 hsz.2
  have hn0:1≤n0:=by
   have:=d.cls.1
   have h2:(wdP s).cs.length≠0:=fun e=>hcs (List.eq_nil_of_length_eq_zero e)
   omega
  have d5:WDr h.length g5 a0 n0 c0 q n1 c1 ys (wdP s):=(((d.low (by omega)).same s4)).kp K5 (by omega)
  refine Zly.L5ind (J:=fun (g:Nat) x21 k=>x21=(g:Int)∧(g:Int)≤1 + x5∧Zem i h k∧(∃ p',p≤p'∧p'≤p + 10 + g * 10000∧Rdr k i p')∧k[h.length]?=some (.cells Zac [.slice none 0 0 true,.slice none 0 0 true] false) ∧
    ∃ q n1 c1 e1 ys w,k[g3.length]?=some (.cells Zac [.slice a0 n0 c0 e0,.slice (some (q,0)) n1 c1 e1] false)∧WDr h.length k a0 n0 c0 q n1 c1 ys w∧WS (1000 + g) w) (m:=fun g=>(1 + x5).toNat - g) (hr:=?_) (g:=0)
   (hj:=⟨rfl,by omega,K05,⟨_,by omega,by omega,R5⟩,z5,q,n1,c1,e1,ys,_,y5,d5,ws0⟩) ..
  rintro g x21 k ⟨rfl,hg,Kk,⟨p4,hp1,hp2,Rk⟩,zk,q,n1,c1,e1,ys,w,yk,dk,wsk⟩ R hR
  have hkl:=Rk.lt
  have hyl:=Own.lt yk
  have hn1:n1≤2000:=by have:=wsk.li; have:=dk.wl; omega
  unfold Zly.L5t
  refine Zar (fun hlt=>?_) (fun hge=>?_)
  ·simp only [Zan yk,Nat.zero_add,List.getElem?_cons_succ,List.getElem?_cons_zero,Zaj]
   rw [Zaz yk]
   simp only [Zao,Zae,Zam,Zaj,true_and]
   refine (Zyn Rk (by omega) dk (by omega) hn0 wsk).mono ?_
   rintro v k1 ⟨I,na,nc,ne,rfl,hnc,nf,isz,K1',p5,hp3,hp4,R5'⟩
   have yk1:=K1'.get yk (by omega)
   have zk1:=K1'.get zk (by omega)
   have dk1:=dk.kp K1' (by omega)
   have hk1l:=K1'.le
   simp only [Zdt,Zae,Zam,Zah,Zaj,Zaw]
   refine ⟨by rw [Zan yk1]; rfl,by rw [Zan (Zie yk1),Zan yk1],?_⟩
   refine (Vec.mk1 (n:=n1) (c:=c1) dk1.ob).pushN (sz:=3) Zsd Yce Yaq Ybd (by rw [Zat Zrn,dk1.len]) rfl (by omega) rfl (by omega) (fun k2 hl2 hi2 hk2=>?_)
   have hqb:=dk1.bq
   have yk2:k2[g3.length]?=some (.cells Zac [.slice a0 n0 c0 e0,.slice (some (q,0)) n1 c1 e1] false):=by rw [hk2 _ (Own.lt yk1) (fun i hi=>by cases hi; exact Zgq yk1 dk1.ob (by decide))]; exact yk1
   have zk2:k2[h.length]?=some (.cells Zac [.slice none 0 0 true,.slice none 0 0 true] false):=by rw [hk2 _ (Own.lt zk1) (fun i hi=>by cases hi; exact Zgq zk1 dk1.ob (by decide))]; exact zk1
   simp only [Zaj]
   rw [Zbg yk2 (by simp)]
   simp only [Zas,putRow,List.take_succ_cons,List.take_zero,List.length_cons,List.length_nil,List.drop_succ_cons,List.drop_zero,List.drop_nil,List.cons_append,List.nil_append,List.append_nil]
   rw [Zbm (by omega)]
   have dk2:WDr h.length k2 a0 n0 c0 (k1.length + 1) (n1 + 1) (n1 + 1) (ys ++ [⟨I.1.1,I.1.2,na,I.2.length,nc,ne⟩]) ⟨w.cs,w.is ++ [I]⟩:=
    dk1.push (z:=q) (x:=⟨I.1.1,I.1.2,na,I.2.length,nc,ne⟩) ⟨rfl,rfl,nf.low (by omega)⟩ (by omega) (by simpa [eN] using hi2) (fun o ho=>by rw [dk1.ob] at ho; cases ho; exact ⟨_,rfl⟩) (fun j hj hne=>hk2 j hj (fun i hi=>by cases hi; exact hne)) (Nat.le_refl _)
   have K2':Zem i h k2:=by
    have K01:=Kk.trans K1'
    have:=K01.le
    exact ⟨by omega,fun j hj hji=>by rw [hk2 j (by omega) (fun i' hi'=>by cases hi'; omega)]; exact K01.eq j hj hji⟩
   have rk:RdK i p (10 + (g + 1) * 10000) h k2:=⟨K2',p5,by omega,by omega,R5'.agree (fun j hj=>hk2 j (by omega) (fun i' hi'=>by cases hi'; omega)) (by omega)⟩
   obtain ⟨K3',p6,hp5,hp6,R6⟩:=rk.setW (z:=g3.length) (x:=.cells Zac [.slice a0 n0 c0 e0,.slice (some (k1.length + 1,0)) (n1 + 1) (n1 + 1) false] false) (by omega) hil
   exact hR (g + 1) _ _ (by omega) ⟨rfl,by omega,K3',⟨p6,hp5,by omega,R6⟩,by rw [Zbw (by omega)]; exact zk2,k1.length + 1,n1 + 1,n1 + 1,false,_,_,Zce yk2,dk2.setW yk2,wsk.addI isz⟩
  ·apply Zly.A5x0i
   rw [Zaz yk]
   simp only [Zao,Zae,Zam,Zaj]
   rw [Zbg zk (by simp)]
   simp only [Zas,putRow,List.take_zero,List.length_cons,List.length_nil,List.drop_succ_cons,List.drop_zero,List.drop_nil,List.cons_append,List.nil_append,List.append_nil,Nat.zero_add]
   rw [Zaz (Zce zk)]
   simp only [Zao,Zae,Zam,Zaj]
   have rk:RdK i p 100000 h k:=⟨Kk,p4,hp1,by omega,Rk⟩
   exact ⟨_,w,rfl,⟨a0,n0,c0,e0,q,n1,c1,e1,ys,rfl,dk.setW zk⟩,wsk.mono (by omega),rk.setW (Nat.le_refl _) hil⟩
end Go.Sim

set_option linter.unusedVariables false
set_option linter.unusedSimpArgs false
set_option maxRecDepth 20000
namespace Go.Sim
open Go Go.RowKit

def WAt (b:Nat) (h:Zaa) (u:List Zay) (w:Wd):Prop:=∃ a0 n0 c0 e0 q n1 c1 e1 ys,u=[.slice a0 n0 c0 e0,.slice (some (q,0)) n1 c1 e1]∧WDr b h a0 n0 c0 q n1 c1 ys w
theorem RdK.trans {i p k k' p':Nat} {h h1 h2:Zaa} (a:Zem i h h1) (hp:p≤p') (hk:p' + k'≤p + k) (r:RdK i p' k' h1 h2):RdK i p k h h2:=⟨a.trans r.1,r.2.imp fun q ⟨h1,h2,h3⟩=>⟨by omega,by omega,h3⟩⟩
theorem WDr.newCls {b:Nat} {h h':Zaa} {a0:Pt} {n0 c0 q n1 c1:Nat} {ys:List EI} {w:Wd} (d:WDr b h a0 n0 c0 q n1 c1 ys w) (off:∀ {j:Nat} {t:TypeId} {cs:List Zay},t≠Zbj→t≠Zac→h[j]?=some (.cells t cs false)→h'[j]?=some (.cells t cs false))
  {y n c:Nat} {cs':List Nd} (hy:h'[y]?=some (.cells Zbj (Zdb eP cs') false)) (hb:b≤y) (hn:cs'.length=n) (hc:n≤c):WDr b h' (some (y,0)) n c q n1 c1 ys ⟨cs',w.is⟩:=
 ⟨⟨hn,.inr ⟨y,rfl,hb,hy⟩⟩,hc,d.bq,off (by decide) (by decide) d.ob,d.len,d.wl,d.le1,fun k x i hx hi=>⟨(d.need k x i hx hi).1,(d.need k x i hx hi).2.1,⟨(d.need k x i hx hi).2.2.1,(d.need k x i hx hi).2.2.2.imp id fun ⟨j,ha,hb,hj⟩=>⟨j,ha,hb,off (by decide) (by decide) hj⟩⟩⟩⟩
theorem Yux {h:Zaa} {i p b m:Nat} {a0:Pt} {n0 c0 q n1 c1:Nat} {e0 e1:Bool} {ys:List EI} {w:Wd} (r:Rdr h i p) (hp:p≤800000000000) (d:WDr b h a0 n0 c0 q n1 c1 ys w) (hib:i < b) (hbh:b≤h.length) (ws:WS m w) (hm:m≤100000) :
  Zak pg Ztk [.ptr (some (i,0)),.agg [.slice a0 n0 c0 e0,.slice (some (q,0)) n1 c1 e1]] h fun v h'=>∃ u w',v=.agg u∧WAt b h' u w'∧WS (m + 11) w'∧RdK i p 100 h h':=by
 have hil:=r.lt
 have hn0:n0≤100000:=by have:=ws.lc; have:=d.cls.1; omega
 have hn1:n1≤100000:=by have:=ws.li; have:=d.wl; omega
 apply Zjq.call
 simp only [Zaw]
 generalize hg0:h ++ [Zcb.cells Zac [.slice a0 n0 c0 e0,.slice (some (q,0)) n1 c1 e1] false]=g0
 have s0:Zbc h.length h g0:=by rw [← hg0]; exact Zal
 have x0:g0[h.length]?=some (.cells Zac [.slice a0 n0 c0 e0,.slice (some (q,0)) n1 c1 e1] false):=by rw [← hg0]; simp
 have l0:g0.length=h.length + 1:=by rw [← hg0]; simp
 generalize hg1:g0 ++ [Zcb.cells Zac [.slice none 0 0 true,.slice none 0 0 true] false]=g1
 have s1:Zbc g0.length g0 g1:=by rw [← hg1]; exact Zal
 have x1:=s1.get x0 (Own.lt x0)
 have z1:g1[g0.length]?=some (.cells Zac [.slice none 0 0 true,.slice none 0 0 true] false):=by rw [← hg1]; simp
 have l1:g1.length=g0.length + 1:=by rw [← hg1]; simp
 have S1:=s0.cat s1
 refine (Zdd (r.same S1) (by omega) 36).mono ?_
 rintro v g3 ⟨x,rfl,_,_,_,K3,R3,l3⟩
 have x3:=K3.get x1 (by omega)
 have z3:=K3.get z1 (by omega)
 have KK3:=(Zem.of_same (i:=i) S1).trans K3
 have d3:WDr b g3 a0 n0 c0 q n1 c1 ys w:=(d.same S1).kp K3 hib
 simp only [Zax]
 have fin:∀ (G:Zaa) (a0:Pt) (n0 c0:Nat) (e0:Bool) (q n1 c1:Nat) (e1:Bool) (ys:List EI) (w':Wd) (p':Nat),Zem i h G→Rdr G i p'→p≤p'→p'≤p + 100→G[h.length]?=some (.cells Zac [.slice a0 n0 c0 e0,.slice (some (q,0)) n1 c1 e1] false)→G[g0.length]?=some (.cells Zac [.slice none 0 0 true,.slice none 0 0 true] false) →
   WDr b G a0 n0 c0 q n1 c1 ys w'→WS (m + 11) w'→Zjq.J11 (fun v h'=>∃ u w',v=.agg u∧WAt b h' u w'∧WS (m + 11) w'∧RdK i p 100 h h') h.length 0 g0.length 0 G:=by
  intro G a0 n0 c0 e0 q n1 c1 e1 ys w' p' KG RG h1 h2 xG zG dG wG
  apply Zjq.J11i
  rw [Zaz xG]
  simp only [Zao,Zae,Zam,Zaj]
  rw [Zbg zG (by simp)]
  simp only [Zas,putRow,List.take_zero,List.length_cons,List.length_nil,List.drop_succ_cons,List.drop_zero,List.drop_nil,List.cons_append,List.nil_append,List.append_nil,Nat.zero_add]
  rw [Zaz (Zce zG)]
  simp only [Zao,Zae,Zam,Zaj]
  have rk:RdK i p 100 h G:=⟨KG,p',h1,h2,RG⟩
  exact ⟨_,w',rfl,⟨a0,n0,c0,e0,q,n1,c1,e1,ys,rfl,dG.setW zG⟩,wG,rk.setW (by omega) hil⟩
 have h3l:=R3.lt
 have hx3l:=Own.lt x3
 have hz3l:=Own.lt z3
 refine Zcw (fun _=>?_) (fun _=>Zcw (fun _=>?_) (fun _=>Zcw (fun _=>?_) (fun _=>?_)))
 ·-- one class more
  generalize hg5:g3 ++ [Zcb.cells Zbj [] false]=g5
  have s5:Zbc g3.length g3 g5:=by rw [← hg5]; exact Zal
  have c5:g5[g3.length]?=some (.cells Zbj [] false):=by rw [← hg5]; simp
  have l5:g5.length=g3.length + 1:=by rw [← hg5]; simp
  have x5:=s5.get x3 hx3l
  have z5:=s5.get z3 hz3l
  have d5:=d3.same s5
  have R5:=R3.same s5
  simp only [Zan x5,Nat.zero_add,List.getElem?_cons_zero,Zaj]
  refine Vec.app0 (n:=0) (e:=true) c5 Yaa Yli Yln Yly (by simp) ((d5.cls.row Zcr).rowOf) (Zjv (enc:=eP) (fun _=>rfl) w.cs) (by omega) (fun g6 hl6 hi6 hk6=>?_)
  have keep6:∀ {j:Nat} {o:Zcb},g5[j]?=some o→j≠g3.length→g6[j]?=some o:=fun {j o} hj hne=>by rw [hk6 j (Own.lt hj) hne]; exact hj
  have x6:=keep6 x5 (by omega)
  have z6:=keep6 z5 (by omega)
  have d6:WDr b g6 a0 n0 c0 q n1 c1 ys w:=d3.keep fun j hj hjl=>by rw [hk6 j (by omega) (by omega),s5.eq j hjl]
  have K6:Zem i h g6:=by
   have:=(KK3.trans (Zem.of_same s5)).le
   exact ⟨by omega,fun j hj hji=>by rw [hk6 j (by omega) (by have:=KK3.le; omega)]; exact (KK3.trans (Zem.of_same s5)).eq j hj hji⟩
  have R6:Rdr g6 i (p + 1):=R5.agree (fun j hj=>hk6 j (by omega) (by omega)) (by omega)
  have i6:g6[g5.length]?=some (.cells Zbj (Zdb eP w.cs) false):=by simpa using hi6
  simp only [Zaj]
  have h6l:=R6.lt
  refine (Zno (R6.app _) (by omega) (j:=g6.length) (t:=Zbi) (n:=4) (l:=[[69],[73],[],[72]]) (by simp [Zdb,eS]) (by omega) rfl (by omega)).mono ?_
  rintro v g7 ⟨s,hs,rfl,K7,R7,l7⟩
  simp only [Zah]
  have hsz:s.length≤1000∧∀ b∈s,b < 256:=by
   simp only [List.mem_cons,List.not_mem_nil,or_false] at hs
   rcases hs with rfl | rfl | rfl | rfl <;> exact ⟨by decide,by decide⟩
  have h7l:=R7.lt
  refine (Zno (R7.app _) (by omega) (j:=g7.length) (t:=Zbi) (n:=4) (l:=[[],[69],[72],[90]]) (by simp [Zdb,eS]) (by omega) rfl (by omega)).mono ?_
  rintro v g8 ⟨s',hs',rfl,K8,R8,l8⟩
  simp only [Zah]
  have hsz':s'.length≤1000:=by
   simp only [List.mem_cons,List.not_mem_nil,or_false] at hs'
   rcases hs' with rfl | rfl | rfl | rfl <;> decide
  have K68:Zem i g6 g8:=(((Zem.app i g6 _).trans K7).trans (Zem.app i g7 _)).trans K8
  have x8:=K68.get x6 (by omega)
  have z8:=K68.get z6 (by omega)
  have i8:=K68.get i6 (by omega)
  have d8:=d6.kp K68 hib
  have hlcs:w.cs.length=n0:=d.cls.1
  refine (Vec.mk1 (n:=0 + n0) (c:=0 + n0) i8).pushN (sz:=2) Yaa Yli Yln Yly (by rw [Zat Zcr]; omega) rfl (by omega) rfl (by omega) (fun g9 hl9 hi9 hk9=>?_)
  have keep9:∀ {j:Nat} {o:Zcb},g8[j]?=some o→j≠g5.length→g9[j]?=some o:=fun {j o} hj hne=>by rw [hk9 j (Own.lt hj) (fun i hi=>by cases hi; exact hne)]; exact hj
  have x9:=keep9 x8 (by omega)
  have z9:=keep9 z8 (by omega)
  have KK8:=K6.trans K68
  have hKl:=KK8.le
  simp only [Zaj]
  rw [Zbg x9 (by simp)]
  simp only [Zas,putRow,List.take_zero,List.length_cons,List.length_nil,List.drop_succ_cons,List.drop_zero,List.drop_nil,List.cons_append,List.nil_append,List.append_nil]
  have hi9':(g9.set h.length (.cells Zac [.slice (some (g8.length + 1,0)) (0 + n0 + 1) (0 + n0 + 1) false,.slice (some (q,0)) n1 c1 e1] false))[g8.length + 1]?=some (.cells Zbj (Zdb eP (w.cs ++ [(s,s')])) false):=by rw [Zbw (by omega)]; simpa [eP] using hi9
  have rk:RdK i p 100 h g9:=⟨⟨by omega,fun j hj hji=>by rw [hk9 j (by omega) (fun i' hi'=>by cases hi'; have:=KK3.le; omega)]; exact KK8.eq j hj hji⟩,p + 1 + 1 + 1,by omega,by omega,R8.agree (fun j hj=>hk9 j (by omega) (fun i' hi'=>by cases hi'; omega)) (by omega)⟩
  obtain ⟨KW,pW,hW1,hW2,RW⟩:=rk.setW (z:=h.length) (x:=.cells Zac [.slice (some (g8.length + 1,0)) (0 + n0 + 1) (0 + n0 + 1) false,.slice (some (q,0)) n1 c1 e1] false) (Nat.le_refl _) hil
  exact fin _ _ _ _ _ _ _ _ _ ys ⟨w.cs ++ [(s,s')],w.is⟩ pW KW RW hW1 hW2 (Zce x9) (by rw [Zbw (by omega)]; exact z9)
   (d8.newCls (fun {j t cs} h1 h2 hj=>by rw [Zbw (Zgq x9 (keep9 hj (Zgq hj i8 h1)) (Ne.symm h2))]; exact keep9 hj (Zgq hj i8 h1)) hi9' (by omega) (by simp; omega) (Nat.le_refl _)) ((ws.addC (p:=(s,s')) ⟨hsz.1,hsz',hsz.2⟩).mono (by omega))
 ·-- one instance more
  generalize hg5:g3 ++ [Zcb.cells Zad [] false]=g5
  have s5:Zbc g3.length g3 g5:=by rw [← hg5]; exact Zal
  have c5:g5[g3.length]?=some (.cells Zad [] false):=by rw [← hg5]; simp
  have l5:g5.length=g3.length + 1:=by rw [← hg5]; simp
  have x5:=s5.get x3 hx3l
  have z5:=s5.get z3 hz3l
  have d5:=d3.same s5
  have R5:=R3.same s5
  simp only [Zan x5,Nat.zero_add,List.getElem?_cons_succ,List.getElem?_cons_zero,Zaj]
  have row5:rowOf g5 (some (q,0)) (n1 * 3)=some (Zdb eN ys):=((Vec.mk1 (n:=0) (c:=0) d5.ob).row (m:=n1 * 3) (by rw [Zat Zrn,d5.len])).rowOf
  refine Vec.app0 (n:=0) (e:=true) c5 Zsd Yce Yaq Ybd (by simp) row5 (Zjv (enc:=eN) (fun _=>rfl) ys) (by omega) (fun g6 hl6 hi6 hk6=>?_)
  have keep6:∀ {j:Nat} {o:Zcb},g5[j]?=some o→j≠g3.length→g6[j]?=some o:=fun {j o} hj hne=>by rw [hk6 j (Own.lt hj) hne]; exact hj
  have x6:=keep6 x5 (by omega)
  have z6:=keep6 z5 (by omega)
  have d6:WDr b g6 a0 n0 c0 q n1 c1 ys w:=d3.keep fun j hj hjl=>by rw [hk6 j (by omega) (by omega),s5.eq j hjl]
  have K6:Zem i h g6:=by
   have:=(KK3.trans (Zem.of_same s5)).le
   exact ⟨by omega,fun j hj hji=>by rw [hk6 j (by omega) (by have:=KK3.le; omega)]; exact (KK3.trans (Zem.of_same s5)).eq j hj hji⟩
  have R6:Rdr g6 i (p + 1):=R5.agree (fun j hj=>hk6 j (by omega) (by omega)) (by omega)
  have i6:g6[g5.length]?=some (.cells Zad (Zdb eN ys) false):=by simpa using hi6
  simp only [Zaj]
  have h6l:=R6.lt
  refine (Zno (R6.app _) (by omega) (j:=g6.length) (t:=Zbi) (n:=3) (l:=[[69],[72],[65]]) (by simp [Zdb,eS]) (by omega) rfl (by omega)).mono ?_
  rintro v g7 ⟨s,hs,rfl,K7,R7,l7⟩
  simp only [Zah]
  have hsz1:s.length≤1000:=by
   simp only [List.mem_cons,List.not_mem_nil,or_false] at hs
   rcases hs with rfl | rfl | rfl <;> decide
  have h7l:=R7.lt
  refine (Zno (R7.app _) (by omega) (j:=g7.length) (t:=Zbi) (n:=4) (l:=[[120],[113],[105],[108,40,120,41]]) (by simp [Zdb,eS]) (by omega) rfl (by omega)).mono ?_
  rintro v g8 ⟨s',hs',rfl,K8,R8,l8⟩
  simp only [Zah]
  have hsz2:s'.length≤1000:=by
   simp only [List.mem_cons,List.not_mem_nil,or_false] at hs'
   rcases hs' with rfl | rfl | rfl | rfl <;> decide
  have h8l:=R8.lt
  refine (Zno (R8.app _) (by omega) (j:=g8.length) (t:=Zbi) (n:=3) (l:=[[69],[65],[72]]) (by simp [Zdb,eS]) (by omega) rfl (by omega)).mono ?_
  rintro v g9 ⟨s2,hs2,rfl,K9,R9,l9⟩
  simp only [Zah]
  have hsz3:s2.length≤1000:=by
   simp only [List.mem_cons,List.not_mem_nil,or_false] at hs2
   rcases hs2 with rfl | rfl | rfl <;> decide
  have h9l:=R9.lt
  refine (Zno (R9.app _) (by omega) (j:=g9.length) (t:=Zbi) (n:=3) (l:=[[121],[105],[113]]) (by simp [Zdb,eS]) (by omega) rfl (by omega)).mono ?_
  rintro v ga ⟨s3,hs3,rfl,Ka,Ra,la⟩
  simp only [Zah]
  have hsz4:s3.length≤1000:=by
   simp only [List.mem_cons,List.not_mem_nil,or_false] at hs3
   rcases hs3 with rfl | rfl | rfl <;> decide
  have K6a:Zem i g6 ga:=(((((((Zem.app i g6 _).trans K7).trans (Zem.app i g7 _)).trans K8).trans (Zem.app i g8 _)).trans K9).trans (Zem.app i g9 _)).trans Ka
  have hK6a:=K6a.le
  generalize hgb:ga ++ [Zcb.cells Zab [.str s2,.str s3] false]=gb
  have sb:Zbc ga.length ga gb:=by rw [← hgb]; exact Zal
  have nb:gb[ga.length]?=some (.cells Zab (Zdb eP [(s2,s3)]) false):=by rw [← hgb]; simp [eP]
  have lb:gb.length=ga.length + 1:=by rw [← hgb]; simp
  have K6b:=K6a.trans (Zem.of_same sb)
  have xb:=K6b.get x6 (by omega)
  have zb:=K6b.get z6 (by omega)
  have ib:=K6b.get i6 (by omega)
  have db:=d6.kp K6b hib
  have Rb:=Ra.same sb
  have Kb:=K6.trans K6b
  have hKl:=Kb.le
  have hlI:ys.length=n1:=d.len
  have hKl3:=KK3.le
  refine (Vec.mk1 (n:=0 + n1) (c:=0 + n1) ib).pushN (sz:=3) Zsd Yce Yaq Ybd (by rw [Zat Zrn]; omega) rfl (by omega) rfl (by omega) (fun gc hlc hic hkc=>?_)
  have keepc:∀ {j:Nat} {o:Zcb},gb[j]?=some o→j≠g5.length→gc[j]?=some o:=fun {j o} hj hne=>by rw [hkc j (Own.lt hj) (fun i hi=>by cases hi; exact hne)]; exact hj
  have xc:=keepc xb (by omega)
  have zc:=keepc zb (by omega)
  have dc:WDr b gc a0 n0 c0 (gb.length + 1) (n1 + 1) (0 + n1 + 1) (ys ++ [⟨s,s',some (ga.length,0),1,1,true⟩]) ⟨w.cs,w.is ++ [((s,s'),[(s2,s3)])]⟩:=
   db.push (z:=g5.length) (x:=⟨s,s',some (ga.length,0),1,1,true⟩) (i:=((s,s'),[(s2,s3)])) ⟨rfl,rfl,rfl,.inr ⟨ga.length,rfl,by omega,nb⟩⟩ (by omega) (by simpa [eN] using hic) (fun o ho=>by rw [ib] at ho; cases ho; exact ⟨_,rfl⟩) (fun j hj hne=>hkc j hj (fun i hi=>by cases hi; exact hne)) (by omega)
  simp only [Zaj]
  rw [Zbg xc (by simp)]
  simp only [Zas,putRow,List.take_succ_cons,List.take_zero,List.length_cons,List.length_nil,List.drop_succ_cons,List.drop_zero,List.drop_nil,List.cons_append,List.nil_append,List.append_nil]
  have rk:RdK i p 100 h gc:=⟨⟨by omega,fun j hj hji=>by rw [hkc j (by omega) (fun i' hi'=>by cases hi'; omega)]; exact Kb.eq j hj hji⟩,_,by omega,by omega,Rb.agree (fun j hj=>hkc j (by omega) (fun i' hi'=>by cases hi'; omega)) (by omega)⟩
  obtain ⟨KW,pW,hW1,hW2,RW⟩:=rk.setW (z:=h.length) (x:=.cells Zac [.slice a0 n0 c0 e0,.slice (some (gb.length + 1,0)) (0 + n1 + 1) (0 + n1 + 1) false] false) (Nat.le_refl _) hil
  have e01:0 + n1 + 1=n1 + 1:=by omega
  rw [e01] at KW RW dc ⊢
  exact fin _ _ _ _ _ _ _ _ _ _ _ pW KW RW hW1 hW2 (Zce xc) (by rw [Zbw (by omega)]; exact zc) (dc.setW xc) ((ws.addI (i:=((s,s'),[(s2,s3)])) ⟨hsz1,hsz2,by simp,fun q hq=>by simp at hq; subst hq; exact ⟨hsz3,hsz4⟩⟩).mono (by omega))
 ·-- ten instances more
  refine Zjq.L8ind (J:=fun (g:Nat) x50 k=>x50=(g:Int)∧g≤10∧Zem i h k∧Rdr k i (p + 1)∧k[g0.length]?=some (.cells Zac [.slice none 0 0 true,.slice none 0 0 true] false) ∧
    ∃ q n1 c1 e1 ys w',k[h.length]?=some (.cells Zac [.slice a0 n0 c0 e0,.slice (some (q,0)) n1 c1 e1] false)∧WDr b k a0 n0 c0 q n1 c1 ys w'∧WS (m + g) w') (m:=fun g=>10 - g) (hr:=?_) (g:=0)
   (hj:=⟨rfl,by omega,KK3,R3,z3,q,n1,c1,e1,ys,w,x3,d3,ws⟩) ..
  rintro g x50 k ⟨rfl,hg,Kk,Rk,zk,q,n1,c1,e1,ys,w',xk,dk,wk'⟩ R hR
  have hkl:=Rk.lt
  have hxl:=Own.lt xk
  have hzl:=Own.lt zk
  have hn1':n1≤200000:=by have:=wk'.li; have:=dk.wl; omega
  unfold Zjq.L8t
  refine Zar (fun hlt=>?_) (fun hge=>?_)
  ·simp only [Zaw]
   generalize hg5:k ++ [Zcb.cells Zad [] false]=g5
   have s5:Zbc k.length k g5:=by rw [← hg5]; exact Zal
   have c5:g5[k.length]?=some (.cells Zad [] false):=by rw [← hg5]; simp
   have l5:g5.length=k.length + 1:=by rw [← hg5]; simp
   have x5:=s5.get xk hxl
   have z5:=s5.get zk hzl
   have d5:=dk.same s5
   have R5:=Rk.same s5
   simp only [Zan x5,Nat.zero_add,List.getElem?_cons_succ,List.getElem?_cons_zero,Zaj]
   have row5:rowOf g5 (some (q,0)) (n1 * 3)=some (Zdb eN ys):=((Vec.mk1 (n:=0) (c:=0) d5.ob).row (m:=n1 * 3) (by rw [Zat Zrn,d5.len])).rowOf
   refine Vec.app0 (n:=0) (e:=true) c5 Zsd Yce Yaq Ybd (by simp) row5 (Zjv (enc:=eN) (fun _=>rfl) ys) (by omega) (fun g6 hl6 hi6 hk6=>?_)
   have keep6:∀ {j:Nat} {o:Zcb},g5[j]?=some o→j≠k.length→g6[j]?=some o:=fun {j o} hj hne=>by rw [hk6 j (Own.lt hj) hne]; exact hj
   have x6:=keep6 x5 (by omega)
   have z6:=keep6 z5 (by omega)
   have d6:WDr b g6 a0 n0 c0 q n1 c1 ys w':=dk.keep fun j hj hjl=>by rw [hk6 j (by omega) (by omega),s5.eq j hjl]
   have i6:g6[g5.length]?=some (.cells Zad (Zdb eN ys) false):=by simpa using hi6
   simp only [Zaj]
   generalize hga:g6 ++ [Zcb.cells Zab [] false]=ga
   have sa:Zbc g6.length g6 ga:=by rw [← hga]; exact Zal
   have na:ga[g6.length]?=some (.cells Zab [] false):=by rw [← hga]; simp
   have la:ga.length=g6.length + 1:=by rw [← hga]; simp
   have xa:=sa.get x6 (Own.lt x6)
   have za:=sa.get z6 (Own.lt z6)
   have ia:=sa.get i6 (Own.lt i6)
   have da:=d6.same sa
   have hkb:=Kk.le
   have hlI:ys.length=n1:=dk.len
   refine (Vec.mk1 (n:=0 + n1) (c:=0 + n1) ia).pushN (sz:=3) Zsd Yce Yaq Ybd (by rw [Zat Zrn]; omega) rfl (by omega) rfl (by omega) (fun gc hlc hic hkc=>?_)
   have keepc:∀ {j:Nat} {o:Zcb},ga[j]?=some o→j≠g5.length→gc[j]?=some o:=fun {j o} hj hne=>by rw [hkc j (Own.lt hj) (fun i hi=>by cases hi; exact hne)]; exact hj
   have xc:=keepc xa (by omega)
   have zc:=keepc za (by omega)
   have dc:WDr b gc a0 n0 c0 (ga.length + 1) (n1 + 1) (0 + n1 + 1) (ys ++ [⟨[69],[105],some (g6.length,0),0,0,true⟩]) ⟨w'.cs,w'.is ++ [(([69],[105]),[])]⟩:=
    da.push (z:=g5.length) (x:=⟨[69],[105],some (g6.length,0),0,0,true⟩) (i:=(([69],[105]),[])) ⟨rfl,rfl,rfl,.inl rfl⟩ (by omega) (by simpa [eN] using hic) (fun o ho=>by rw [ia] at ho; cases ho; exact ⟨_,rfl⟩) (fun j hj hne=>hkc j hj (fun i hi=>by cases hi; exact hne)) (by omega)
   simp only [Zaj]
   rw [Zbg xc (by simp)]
   simp only [Zas,putRow,List.take_succ_cons,List.take_zero,List.length_cons,List.length_nil,List.drop_succ_cons,List.drop_zero,List.drop_nil,List.cons_append,List.nil_append,List.append_nil]
   rw [Zbm (by omega)]
   have low:∀ j,j < k.length→gc[j]?=k[j]?:=fun j hj=>by rw [hkc j (by omega) (fun i' hi'=>by cases hi'; omega),sa.eq j (by omega),hk6 j (by omega) (by omega),s5.eq j hj]
   have rk:RdK i (p + 1) 0 h gc:=⟨⟨by omega,fun j hj hji=>by rw [low j (by omega)]; exact Kk.eq j hj hji⟩,_,Nat.le_refl _,Nat.le_refl _,Rk.agree (fun j hj=>low j (by omega)) (by omega)⟩
   obtain ⟨KW,pW,hW1,hW2,RW⟩:=rk.setW (z:=h.length) (x:=.cells Zac [.slice a0 n0 c0 e0,.slice (some (ga.length + 1,0)) (0 + n1 + 1) (0 + n1 + 1) false] false) (Nat.le_refl _) hil
   have e01:0 + n1 + 1=n1 + 1:=by omega
   have ep:pW=p + 1:=by omega
   subst ep
   rw [e01] at KW RW dc ⊢
   exact hR (g + 1) _ _ (by omega) ⟨rfl,by omega,KW,RW,by rw [Zbw (by omega)]; exact zc,_,_,_,_,_,_,Zce xc,dc.setW xc,wk'.addI (i:=(([69],[105]),[])) ⟨by simp,by simp,by simp,by simp⟩⟩
  ·apply Zjq.A8x1i
   exact fin k a0 n0 c0 e0 q n1 c1 e1 ys w' (p + 1) Kk Rk (by omega) (by omega) xk zk dk (wk'.mono (by omega))
 ·exact fin g3 a0 n0 c0 e0 q n1 c1 e1 ys w (p + 1) KK3 R3 (by omega) (by omega) x3 z3 d3 (ws.mono (by omega))
theorem Ygv {h:Zaa} {i p:Nat} (r:Rdr h i p) (hp:p≤600000000000):Zak pg Zpa [.ptr (some (i,0))] h (DWQ i p 200000 1021 h):=by
 have hil:=r.lt
 apply Zxj.call
 simp only [Zaw]
 generalize hg0:h ++ [Zcb.cells Zac [.slice none 0 0 true,.slice none 0 0 true] false]=g0
 have s0:Zbc h.length h g0:=by rw [← hg0]; exact Zal
 have z0:g0[h.length]?=some (.cells Zac [.slice none 0 0 true,.slice none 0 0 true] false):=by rw [← hg0]; simp
 have l0:g0.length=h.length + 1:=by rw [← hg0]; simp
 refine (Ypj (r.same s0) (by omega)).mono ?_
 rintro v g1 ⟨u,w,rfl,⟨a0,n0,c0,e0,q,n1,c1,e1,ys,rfl,d⟩,ws,K1,p1,hp1,hp2,R1⟩
 have z1:=K1.get z0 (by omega)
 have l1:=K1.le
 simp only [Zdt,Zae,Zaj,Zam]
 refine (Yux R1 (by omega) (d.low (show h.length≤g0.length by omega)) hil (by omega) ws (by omega)).mono ?_
 rintro v g2 ⟨u,w',rfl,⟨a0,n0,c0,e0,q,n1,c1,e1,ys,rfl,d2⟩,ws2,K2,p2,hp3,hp4,R2⟩
 have z2:=K2.get z1 (by omega)
 simp only [Zdt,Zae,Zaj,Zam]
 rw [Zbg z2 (by simp)]
 simp only [Zas,putRow,List.take_zero,List.length_cons,List.length_nil,List.drop_succ_cons,List.drop_zero,List.drop_nil,List.cons_append,List.nil_append,List.append_nil,Nat.zero_add]
 rw [Zaz (Zce z2)]
 simp only [Zao,Zae,Zam,Zaj]
 have rk:RdK i p 200000 h g2:=⟨((Zem.of_same s0).trans K1).trans K2,p2,by omega,by omega,R2⟩
 exact ⟨_,w',rfl,⟨a0,n0,c0,e0,q,n1,c1,e1,ys,rfl,d2.setW z2⟩,ws2,rk.setW (Nat.le_refl _) hil⟩
theorem Zwd {h:Zaa} {i p b m:Nat} {a0:Pt} {n0 c0 q n1 c1:Nat} {e0 e1:Bool} {ys:List EI} {w:Wd} (r:Rdr h i p) (hp:p≤900000000000) (d:WDr b h a0 n0 c0 q n1 c1 ys w) (hib:i < b) (ws:WS m w) :
  Zak pg Zjn [.ptr (some (i,0)),.agg [.slice a0 n0 c0 e0,.slice (some (q,0)) n1 c1 e1]] h fun v h'=>∃ s:List Nat,v=.str s∧s.length≤1000∧RdK i p 10 h h':=by
 have hil:=r.lt
 apply Zqa.call
 simp only [Zaw]
 generalize hg0:h ++ [Zcb.cells Zac [.slice a0 n0 c0 e0,.slice (some (q,0)) n1 c1 e1] false]=g0
 have s0:Zbc h.length h g0:=by rw [← hg0]; exact Zal
 have x0:g0[h.length]?=some (.cells Zac [.slice a0 n0 c0 e0,.slice (some (q,0)) n1 c1 e1] false):=by rw [← hg0]; simp
 have R0:=r.same s0
 have oth:∀ (G:Zaa) (p':Nat),Zem i h G→Rdr G i p'→p≤p'→p'≤p + 5→Zak pg Zck [.ptr (some (i,0)),.slice (some (List.length G,0)) 4 4 true] (G ++ [.cells Zbi [.str [69],.str [90],.str [],.str [69,79]] false]) fun v_6 h_7=>Zbd (some v_6) fun s_8=>∃ s:List Nat,Zay.str s_8=.str s∧s.length≤1000∧RdK i p 10 h h_7:=by
  intro G p' KG RG h1 h2
  have hGl:=RG.lt
  refine (Zno (RG.app _) (by omega) (j:=G.length) (t:=Zbi) (n:=4) (l:=[[69],[90],[],[69,79]]) (by simp [Zdb,eS]) (by omega) rfl (by omega)).mono ?_
  rintro v g7 ⟨s,hs,rfl,K7,R7,l7⟩
  simp only [Zah]
  refine ⟨s,rfl,?_,⟨(KG.trans (Zem.app i G _)).trans K7,_,by omega,by omega,R7⟩⟩
  simp only [List.mem_cons,List.not_mem_nil,or_false] at hs
  rcases hs with rfl | rfl | rfl | rfl <;> decide
 simp only [Zan x0,Nat.zero_add,List.getElem?_cons_zero,Zaj]
 refine Zcw (fun _=>oth g0 p (Zem.of_same s0) R0 (by omega) (by omega)) (fun hne=>?_)
 refine (Zdd R0 (by omega) 16).mono ?_
 rintro v g1 ⟨x,rfl,_,_,_,K1,R1,l1⟩
 have x1:=K1.get x0 (by omega)
 have KK1:=(Zem.of_same (i:=i) s0).trans K1
 simp only [Zax]
 refine Zcw (fun _=>oth g1 _ KK1 R1 (by omega) (by omega)) (fun _=>?_)
 apply Zqa.J3i
 simp only [Zan x1,Nat.zero_add,List.getElem?_cons_zero,Zaj,true_and]
 refine (Zdd R1 (by omega) (n0:Int)).mono ?_
 rintro v g2 ⟨y,rfl,hy0,hy1,_,K2,R2,l2⟩
 have hy1:=hy1 (by omega)
 have x2:=K2.get x1 (by omega)
 obtain ⟨k,rfl⟩:∃ k:Nat,y=k:=⟨y.toNat,by omega⟩
 have KK2:=KK1.trans K2
 obtain ⟨ic,oc,hkc,ha,_,_,hc,_⟩:=(d.kp KK2 hib).rep.class (k:=k) (by omega)
 subst ha
 have hcl:=(ws.cs _ (List.getElem_mem hkc)).1
 simp only [Zax,Zan x2,List.getElem?_cons_zero,Zau,Int.toNat_natCast,Nat.add_zero,hc,Zah,true_and]
 exact ⟨⟨by omega,by omega⟩,_,rfl,hcl,KK2,_,by omega,by omega,R2⟩
end Go.Sim

set_option linter.unusedVariables false
set_option linter.unusedSimpArgs false
set_option maxRecDepth 20000
namespace Go.Sim
open Go Go.RowKit

theorem WDr.setN {b:Nat} {h:Zaa} {a0:Pt} {n0 c0 q n1 c1:Nat} {ys:List EI} {w:Wd} {z:Nat} {x:Zcb} (d:WDr b h a0 n0 c0 q n1 c1 ys w) (hz:z < b):WDr b (h.set z x) a0 n0 c0 q n1 c1 ys w:=d.keep fun j hj hl=>Zbw (by omega)
end Go.Sim

set_option linter.unusedVariables false
set_option linter.unusedSimpArgs false
set_option maxRecDepth 20000
namespace Go.Sim
open Go Go.RowKit

end Go.Sim

set_option linter.unusedVariables false
set_option linter.unusedSimpArgs false
set_option maxRecDepth 20000
namespace Go.Sim
open Go Go.RowKit

def GvI (i p k b:Nat) (h h':Zaa) (a:Pt) (n c:Nat):Prop:=Zem i h h'∧(∃ p',p≤p'∧p'≤p + k∧Rdr h' i p')∧∃ gs:List Nd,gs.length=n∧Vec Zab h' a n c (Zdb eP gs)∧(∀ g∈gs,g.1.length≤1000∧g.2.length≤1000)∧∀ j,a=some (j,0)→b≤j
theorem Ykv {h:Zaa} {i p b m:Nat} {a0:Pt} {n0 c0 q n1 c1:Nat} {e0 e1:Bool} {ys:List EI} {w:Wd} (r:Rdr h i p) (hp:p≤800000000000) (d:WDr b h a0 n0 c0 q n1 c1 ys w) (hib:i < b) (ws:WS m w) :
  Zak pg Zpt [.ptr (some (i,0)),.agg [.slice a0 n0 c0 e0,.slice (some (q,0)) n1 c1 e1]] h fun v h'=>∃ a n c e,v=.slice a n c e∧n≤10∧GvI i p 1000 (h.length + 1) h h' a n c:=by
 have hil:=r.lt
 apply Zfj.call
 simp only [Zaw]
 generalize hg0:h ++ [Zcb.cells Zac [.slice a0 n0 c0 e0,.slice (some (q,0)) n1 c1 e1] false]=g0
 have s0:Zbc h.length h g0:=by rw [← hg0]; exact Zal
 have x0:g0[h.length]?=some (.cells Zac [.slice a0 n0 c0 e0,.slice (some (q,0)) n1 c1 e1] false):=by rw [← hg0]; simp
 have l0:g0.length=h.length + 1:=by rw [← hg0]; simp
 generalize hg1:g0 ++ [Zcb.cells Zab [] false]=g1
 have s1:Zbc g0.length g0 g1:=by rw [← hg1]; exact Zal
 have x1:=s1.get x0 (Own.lt x0)
 have z1:g1[g0.length]?=some (.cells Zab [] false):=by rw [← hg1]; simp
 refine (Zdd ((r.same s0).same s1) (by omega) 4).mono ?_
 rintro v g2 ⟨x,rfl,hx0,hx1,_,K2,R2,l2⟩
 have hx1:=hx1 (by omega)
 have hl1:g1.length=g0.length + 1:=by rw [← hg1]; simp
 have x2:=K2.get x1 (by omega)
 have z2:=K2.get z1 (by omega)
 have KK2:Zem i h g2:=(Zem.of_same (s0.cat s1)).trans K2
 simp only [Zax]
 refine Zfj.L3ind (J:=fun (g:Nat) a5 n5 c5 e5 x9 h'=>x9=(g:Int)∧(g:Int)≤x∧n5=g∧h'[h.length]?=some (.cells Zac [.slice a0 n0 c0 e0,.slice (some (q,0)) n1 c1 e1] false)∧GvI i p (1 + 20 * g) (h.length + 1) h h' a5 n5 c5) (m:=fun g=>x.toNat - g) (hr:=?_) (g:=0) (a5:=some (g0.length,0)) (n5:=0) (c5:=0) (e5:=true) (x9:=0) (h:=g2)
  (hj:=⟨rfl,by omega,rfl,x2,KK2,⟨_,by omega,by omega,R2⟩,[],rfl,Vec.mk1 z2,by simp,fun j hj=>by cases hj; omega⟩)
 rintro g a5 n5 c5 e5 x9 h3 ⟨rfl,hg,rfl,x3,K3,⟨p3,hp1,hp2,R3⟩,gs,hgl,hv,hgb,hlow⟩ R hR
 unfold Zfj.L3t
 have hx3l:=Own.lt x3
 refine Zar (fun hlt=>?_) (fun hge=>?_)
 ·rw [Zaz x3]
  simp only [Zao,Zae,Zam,Zaj]
  refine (Zwd R3 (by omega) (d.kp K3 hib) hib ws).mono ?_
  rintro v h4 ⟨s,rfl,hs,K4,p4,hp3,hp4,R4⟩
  simp only [Zah,Zaw]
  have hl4:=K4.le
  refine (Zno (R4.app _) (by omega) (j:=h4.length) (t:=Zbi) (n:=6) (l:=[[120],[121],[120],[108,40,120,41],[105],[122]]) (by simp [Zdb,eS]) (by omega) rfl (by omega)).mono ?_
  rintro v h5 ⟨t,ht,rfl,K5,R5,l5⟩
  simp only [Zah]
  have htl:t.length≤1000:=by
   simp only [List.mem_cons,List.not_mem_nil,or_false] at ht
   rcases ht with rfl | rfl | rfl | rfl | rfl | rfl <;> decide
  have K35:Zem i h3 h5:=(K4.trans (Zem.app i h4 _)).trans K5
  have hl5:=K35.le
  have hv5:Vec Zab h5 a5 n5 c5 (Zdb eP gs):=hv.agree fun j hj=>by
   have:=hlow j hj; subst hj
   exact K35.eq j hv.lt (by omega)
  refine hv5.pushN Zhi Zng Znd Znc (by rw [Zat Zcr,hgl]) rfl (by omega) rfl (by omega) (fun h6 hl6 hi6 hk6=>?_)
  simp only [Zaj]
  rw [Zbm (by omega)]
  have x5:=K35.get x3 (by omega)
  have KK5:=K3.trans K35
  refine hR (n5 + 1) _ _ _ _ _ _ (by omega) ⟨rfl,by omega,rfl,by rw [hk6 _ (Own.lt x5) fun j hj=>by have:=hlow j hj; omega]; exact x5,⟨by have:=KK5.le; omega,fun j hj hne=>?_⟩,⟨p4 + 1,by omega,by omega,R5.agree (fun j hj=>hk6 j (by omega) fun q hq=>by have:=hlow q hq; omega) (by omega)⟩,gs ++ [(s,t)],by simp [hgl],Vec.mk1 ?_,?_,fun j hj=>by cases hj; omega⟩
  ·rw [hk6 j (by have:=KK5.le; omega) fun q hq=>by have:=hlow q hq; omega]; exact KK5.eq j hj hne
  ·rw [hi6,Zgv]; rfl
  ·intro y hy
   rcases List.mem_append.1 hy with hy | hy
   ·exact hgb y hy
   ·rw [List.mem_singleton] at hy; subst hy; exact ⟨hs,htl⟩
 ·apply Zfj.A3x0i
  refine (Zdd R3 (by omega) 24).mono ?_
  rintro v h4 ⟨y,rfl,_,_,_,K4,R4,l4⟩
  simp only [Zax]
  have hv4:Vec Zab h4 a5 n5 c5 (Zdb eP gs):=hv.agree fun j hj=>by
   have:=hlow j hj; subst hj
   exact K4.eq j hv.lt (by omega)
  have x4:=K4.get x3 (by omega)
  have KK4:=K3.trans K4
  refine Zcw (fun hy=>?_) (fun hy=>?_)
  ·refine Zfj.L8ind (J:=fun (g:Nat) a7 n7 c7 e7 x25 h'=>x25=(g:Int)∧g≤6∧n7=n5 + g∧h'[h.length]?=some (.cells Zac [.slice a0 n0 c0 e0,.slice (some (q,0)) n1 c1 e1] false)∧GvI i p (70 + 20 * g) (h.length + 1) h h' a7 n7 c7) (m:=fun g=>6 - g) (hr:=?_) (g:=0) (a5:=a5) (n5:=n5) (c5:=c5) (e5:=e5) (x25:=0) (h:=h4)
    (hj:=⟨rfl,by omega,rfl,x4,KK4,⟨_,by omega,by omega,R4⟩,gs,hgl,hv4,hgb,hlow⟩)
   rintro g a7 n7 c7 e7 x25 h5 ⟨rfl,hg6,rfl,x5,K5,⟨p5,hp3,hp4,R5⟩,gs5,hgl5,hv5,hgb5,hlow5⟩ R8 hR8
   unfold Zfj.L8t
   have hx5l:=Own.lt x5
   refine Zar (fun hlt=>?_) (fun hge=>?_)
   ·rw [Zaz x5]
    simp only [Zao,Zae,Zam,Zaj]
    refine (Zwd R5 (by omega) (d.kp K5 hib) hib ws).mono ?_
    rintro v h6 ⟨s,rfl,hs,K6,p6,hp5,hp6,R6⟩
    simp only [Zah,Zaw]
    have hl6:=K6.le
    have hv6:Vec Zab h6 a7 (n5 + g) c7 (Zdb eP gs5):=hv5.agree fun j hj=>by
     have:=hlow5 j hj; subst hj
     exact K6.eq j hv5.lt (by omega)
    refine hv6.pushN Zhi Zng Znd Znc (by rw [Zat Zcr,hgl5]) rfl (by omega) rfl (by omega) (fun h7 hl7 hi7 hk7=>?_)
    simp only [Zaj]
    rw [Zbm (by omega)]
    have x6:=K6.get x5 (by omega)
    have KK6:=K5.trans K6
    have hR6:=R6.lt
    refine hR8 (g + 1) _ _ _ _ _ _ (by omega) ⟨rfl,by omega,by omega,by rw [hk7 _ (Own.lt x6) fun j hj=>by have:=hlow5 j hj; omega]; exact x6,⟨by have:=KK6.le; omega,fun j hj hne=>?_⟩,⟨p6,by omega,by omega,R6.agree (fun j hj=>hk7 j (by omega) fun q hq=>by have:=hlow5 q hq; omega) (by omega)⟩,gs5 ++ [(s,[120])],by rw [List.length_append,hgl5]; rfl,Vec.mk1 ?_,?_,fun j hj=>by cases hj; omega⟩
    ·rw [hk7 j (by have:=KK6.le; omega) fun q hq=>by have:=hlow5 q hq; omega]; exact KK6.eq j hj hne
    ·rw [hi7,Zgv]; rfl
    ·intro y hy
     rcases List.mem_append.1 hy with hy | hy
     ·exact hgb5 y hy
     ·rw [List.mem_singleton] at hy; subst hy; exact ⟨hs,(by decide:([120]:List Nat).length≤1000)⟩
   ·apply Zfj.A8x2i
    apply Zfj.J11i
    exact ⟨_,_,_,_,rfl,by omega,K5,⟨p5,by omega,by omega,R5⟩,gs5,hgl5,hv5,hgb5,hlow5⟩
  ·apply Zfj.J11i
   exact ⟨_,_,_,_,rfl,by omega,KK4,⟨_,by omega,by omega,R4⟩,gs,hgl,hv4,hgb,hlow⟩
def DGQ (h:Zaa) (v:Zay) (h':Zaa):Prop:=∃ a0 n0 c0 e0 q n1 c1 e1 ys w a2 n2 c2 e2,∃ gs:List Nd,v=.tup [.agg [.slice a0 n0 c0 e0,.slice (some (q,0)) n1 c1 e1],.slice a2 n2 c2 e2]∧Zbc h.length h h'∧WDr h.length h' a0 n0 c0 q n1 c1 ys w∧WB w∧gs.length=n2∧Vec Zab h' a2 n2 c2 (Zdb eP gs)∧(∀ j,a2=some (j,0)→h.length≤j)∧n2≤10∧∀ g∈gs,g.1.length≤1000∧g.2.length≤1000
theorem Zwo {h:Zaa} {a:Pt} {n c:Nat} {e:Bool} {l:List Nat} (r:Row h.length h a n (Zdb eB l)) (hb:∀ b∈l,b < 256) (hnc:n≤c):Zak pg Zjd [.slice a n c e] h (DGQ h):=by
 apply Zne.call
 simp only [Zaw]
 generalize hg0:h ++ [Zcb.cells Zac [.slice none 0 0 true,.slice none 0 0 true] false]=g0
 have s0:Zbc h.length h g0:=by rw [← hg0]; exact Zal
 have w0:g0[h.length]?=some (.cells Zac [.slice none 0 0 true,.slice none 0 0 true] false):=by rw [← hg0]; simp
 have l0:g0.length=h.length + 1:=by rw [← hg0]; simp
 refine (Ydv (r.same' s0) hb hnc).mono ?_
 rintro v g2 ⟨rfl,s2,R2,l2⟩
 simp only [Zes]
 have w2:=s2.get w0 (Own.lt w0)
 refine (Ygv R2 (by omega)).mono ?_
 rintro v g3 ⟨u,w,rfl,⟨a0,n0,c0,e0,q,n1,c1,e1,ys,rfl,d⟩,ws,K3,p3,hp1,hp2,R3⟩
 have w3:=K3.get w2 (by omega)
 have l3:=K3.le
 simp only [Zdt,Zae,Zaj,Zam]
 rw [Zfb]
 simp only [Zas]
 generalize hg4:g3 ++ [Zcb.cells Zac [.slice a0 n0 c0 e0,.slice (some (q,0)) n1 c1 e1] false]=g4
 have s4:Zbc g3.length g3 g4:=by rw [← hg4]; exact Zal
 have y4:g4[g3.length]?=some (.cells Zac [.slice a0 n0 c0 e0,.slice (some (q,0)) n1 c1 e1] false):=by rw [← hg4]; simp
 have l4:g4.length=g3.length + 1:=by rw [← hg4]; simp
 have w4:=s4.get w3 (Own.lt w3)
 have d4:=d.same s4
 have R4:=R3.same s4
 rw [Zaz y4]
 simp only [Zao,Zae,Zam,Zaj,true_and]
 refine (Ykv R4 (by omega) d4 (by omega) ws).mono ?_
 rintro v g5 ⟨a2,n2,c2,e2,rfl,hn2,K5,⟨p5,hp3,hp4,R5⟩,gs,hgl,hv5,hgb,hlow⟩
 have y5:=K5.get y4 (by omega)
 have w5:=K5.get w4 (by omega)
 have d5:=d4.kp K5 (by omega)
 have l5:=K5.le
 simp only [Zaj]
 refine ⟨Zaz y5,?_⟩
 rw [Zbg w5 (by simp)]
 simp only [Zas,putRow,List.take_zero,List.length_cons,List.length_nil,List.drop_succ_cons,List.drop_zero,List.drop_nil,List.cons_append,List.nil_append,List.append_nil,Nat.zero_add]
 rw [Zaz (Zce w5)]
 simp only [Zao,Zae,Zam,Zaj]
 refine ⟨a0,n0,c0,e0,_,n1,c1,e1,ys,w,a2,n2,c2,e2,gs,rfl,⟨by simp; omega,fun j hj=>by rw [Zbw (by omega),K5.eq j (by omega) (by omega),s4.eq j (by omega),K3.eq j (by omega) (by omega),s2.eq j (by omega)]; exact s0.eq j hj⟩,(d5.setN (by omega)).low (by omega),ws.wb (by omega),hgl,hv5.agree fun j hj=>(by have:=hlow j hj; rw [Zbw (by omega)]),fun j hj=>(by have:=hlow j hj; omega),hn2,hgb⟩
theorem Zzp {h:Zaa} {a:Pt} {n c:Nat} {e:Bool} {l:List Nat} (r:Row h.length h a n (Zdb eB l)) (hb:∀ b∈l,b < 256) (hnc:n≤c):Zak pg Zkm [.slice a n c e] h (DGQ h):=by
 apply Zoq.call
 simp only [Zaw]
 generalize hg0:h ++ [Zcb.cells Zac [.slice none 0 0 true,.slice none 0 0 true] false]=g0
 have s0:Zbc h.length h g0:=by rw [← hg0]; exact Zal
 have w0:g0[h.length]?=some (.cells Zac [.slice none 0 0 true,.slice none 0 0 true] false):=by rw [← hg0]; simp
 have l0:g0.length=h.length + 1:=by rw [← hg0]; simp
 refine (Zwo (r.same' s0) hb hnc).mono ?_
 rintro v g2 ⟨a0,n0,c0,e0,q,n1,c1,e1,ys,w,a2,n2,c2,e2,gs,rfl,s2,d,wb,hgl,hv,hlow,hn2,hgb⟩
 have w2:=s2.get w0 (Own.lt w0)
 have l2:=s2.le
 simp only [Zco,Zae,Zdt,Zaj,Zam]
 rw [Zbg w2 (by simp)]
 simp only [Zas,putRow,List.take_zero,List.length_cons,List.length_nil,List.drop_succ_cons,List.drop_zero,List.drop_nil,List.cons_append,List.nil_append,List.append_nil,Nat.zero_add]
 rw [Zaz (Zce w2)]
 simp only [Zao,Zae,Zam,Zaj]
 exact ⟨a0,n0,c0,e0,_,n1,c1,e1,ys,w,a2,n2,c2,e2,gs,rfl,⟨by simp; omega,fun j hj=>by rw [Zbw (by omega),s2.eq j (by omega)]; exact s0.eq j hj⟩,(d.setN (by omega)).low (by omega),wb,hgl,hv.agree fun j hj=>(by have:=hlow j hj; rw [Zbw (by omega)]),fun j hj=>(by have:=hlow j hj; omega),hn2,hgb⟩
end Go.Sim

set_option linter.unusedVariables false
set_option linter.unusedSimpArgs false
set_option maxRecDepth 20000
namespace Go.Sim
open Go Go.RowKit

theorem Yiv (w:Wd) (s:List Nat):∀ d∈Zjf w s,65≤d∧d < 85:=by
 intro d hd
 unfold Zjf at hd
 split at hd
 ·unfold Ype at hd
  have:=(List.mem_filter.1 hd).1
  rw [List.mem_range'] at this
  obtain ⟨i,hi,rfl⟩:=this
  omega
 ·simp at hd
theorem Zub (w:Wd) (s:List Nat):(Zjf w s).length≤20:=by
 unfold Zjf
 split
 ·unfold Ype; exact Nat.le_trans (List.length_filter_le _ _) (by simp)
 ·simp
theorem Yia {h:Zaa} {a0 a1:Pt} {n0 c0 n1 c1:Nat} {e0 e1:Bool} {w:Wd} {s:List Nat} (r:Zkr h a0 n0 c0 a1 n1 c1 w) (b:WB w) :
  Zak pg Zpb [.agg [.slice a0 n0 c0 e0,.slice a1 n1 c1 e1],.str s] h fun v h'=>Zbc h.length h h'∧∃ a n c e,v=.slice a n c e∧Row h'.length h' a n (strs ((Zjf w s).map one))∧∀ i o,a=some (i,o)→n≠0→h.length≤i:=by
 apply Zmn.call
 simp only [Zaw]
 generalize hh0:h ++ [Zcb.cells Zac [.slice a0 n0 c0 e0,.slice a1 n1 c1 e1] false]=h0
 generalize hh1:h0 ++ [Zcb.cells Zbi [] false]=h1
 have s0:Zbc h.length h h0:=by rw [← hh0]; exact Zal
 have s1:Zbc h0.length h0 h1:=by rw [← hh1]; exact Zal
 have l0:h0.length=h.length + 1:=by rw [← hh0]; simp
 have l1:h1.length=h.length + 2:=by rw [← hh1]; simp [l0]
 have w0:h0[h.length]?=some (Zlu a0 n0 c0 e0 a1 n1 c1 e1):=by rw [← hh0]; simp [Zlu]
 have w1:=s1.get w0 (Own.lt w0)
 have o1:h1[h0.length]?=some (.cells Zbi [] false):=by rw [← hh1]; simp
 rw [Zth w1]
 simp only [Zao,Zae,Zam,Zaj]
 refine (Yjf (r.same (s0.cat s1)) b).mono ?_
 rintro v h2 ⟨rfl,s2⟩
 simp only [Zah]
 have hsm:=Yiv w s
 have hln:=Zub w s
 generalize Zjf w s=t at hsm hln
 have hle2:=s2.le
 have o2:=s2.get o1 (by omega)
 have S2:=(s0.cat s1).cat s2
 refine Zmn.L3ind _ _ (J:=fun (g:Nat) a5 n5 c5 e5 h'=>g≤t.length∧h'[h2.length]?=some (.iter t g)∧Zbc h.length h h'∧n5=g∧Vec Zbi h' a5 n5 c5 (strs ((t.take g).map one))∧(∀ i,a5=some (i,0)→h.length≤i∧i≠h2.length)) (fun g=>t.length - g) ?_ 0 _ _ _ _ _
  ⟨by omega,by simp,S2.cat Zal,rfl,Vec.mk1 (by rw [Zzg (by omega)]; exact o2),fun i hi=>by cases hi; omega⟩
 rintro g a5 n5 c5 e5 h' ⟨hg,hit,hS,rfl,hv,ha⟩ R hR
 unfold Zmn.L3t
 have hx:∀ K,K t n5→Yfb h' h2.length K:=fun K hK=>by unfold Yfb; rw [hit]; exact hK
 refine hx _ ⟨fun hlt=>?_,fun hge=>?_⟩
 ·have hd:=hsm t[n5] (List.getElem_mem hlt)
  have hitl:=Own.lt hit
  simp only [Zgi hlt,Zaw,Int.toNat_natCast]
  refine ⟨by omega,by omega,?_⟩
  have hv2:Vec Zbi (h'.set h2.length (.iter t (n5 + 1))) a5 n5 c5 (strs ((t.take n5).map one)):=hv.agree fun i hi=>by rw [Zbw (ha i hi).2.symm]
  have hl2:(h'.set h2.length (.iter t (n5 + 1))).length=h'.length:=by simp
  refine hv2.push Zvx Yar Ycg Yac (by simp; omega) rfl (by omega) (fun h4 hl4 hi4 hk4=>?_)
  simp only [Zaj]
  have hle:=hS.le
  refine hR (n5 + 1) _ _ _ _ _ (by omega) ⟨by omega,?_,⟨by omega,fun j hj=>?_⟩,rfl,Vec.mk1 ?_,fun i hi=>by cases hi; omega⟩
  ·rw [hk4 _ (by omega) fun i hi=>(ha i hi).2.symm,Zce hit]
  ·rw [hk4 j (by omega) fun i hi=>by have:=(ha i hi).1; omega,Zbw (by omega)]; exact hS.eq j hj
  ·rw [hi4,List.take_succ_eq_append_getElem hlt,List.map_append]; simp [strs,one]
 ·apply Zmn.A3x0i
  have:n5=t.length:=by omega
  subst this
  rw [List.take_length] at hv
  refine ⟨hS,_,_,_,_,rfl,hv.row (by simp),fun i o hi hn=>?_⟩
  rcases hv with ⟨h0,_⟩ | ⟨j,hj,_⟩
  ·rw [hi] at h0; cases h0
  ·rw [hi] at hj; cases hj; exact (ha i hi).1
noncomputable def Zhr (w:Wd) (g:Nd):List Nd:=g :: (Zjf w g.1).map fun d=>([d],g.2)
noncomputable def Zpq (w:Wd) (gs:List Nd):List Nd:=gs.foldl (fun acc g=>(Zhr w g).foldl Zka acc) []
theorem Zqv (xs:List Nd):∀ (l:List Nd),(xs.foldl Zka l).length≤l.length + xs.length:=by
 induction xs with
 | nil=>intro l; simp
 | cons x xs ih=>intro l; rw [List.foldl_cons]; have:=ih (Zka l x); have:=Yir l x; simp; omega
end Go.Sim

set_option linter.unusedVariables false
set_option linter.unusedSimpArgs false
set_option maxRecDepth 20000
namespace Go.Sim
open Go Go.RowKit

noncomputable def Yqo (w:Wd) (gs:List Nd):List Nd:=if Zgu w gs then Zpq w gs else []
theorem Yad {w:Wd} {gs:List Nd} {g:Nat} (h:g < gs.length):Zpq w (gs.take (g + 1))=(Zhr w gs[g]).foldl Zka (Zpq w (gs.take g)):=by
 unfold Zpq; rw [List.take_succ_eq_append_getElem h,List.foldl_append]; rfl
theorem Zwx (w:Wd) (gs:List Nd):∀ g,(Zpq w (gs.take g)).length≤g * 21
 | 0=>by simp [Zpq]
 | g + 1=>by
  by_cases h:g < gs.length
  ·rw [Yad h]
   have h1:=Zqv (Zhr w gs[g]) (Zpq w (gs.take g))
   have h2:=Zwx w gs g
   have h3:(Zhr w gs[g]).length≤21:=by
    unfold Zhr; have:=Zub w gs[g].1; simp; omega
   omega
  ·rw [List.take_of_length_le (by omega),← List.take_of_length_le (show gs.length≤g by omega)]
   have:=Zwx w gs g; omega
def Xbe (w:Wd) (gs:List Nd) (h:Zaa) (v:Zay) (h':Zaa):Prop:=Zbc h.length h h'∧∃ a n c e,v=.tup [.slice a n c e,.bool (Zgu w gs)]∧n≤c∧Zds Zab eP h.length h' a n (Yqo w gs)
theorem Ycp.fresh {b:Nat} {h:Zaa} {a:Pt} {n c:Nat} {l:List Nd} (f:Ycp b h a n c l):Zds Zab eP b h a n l:=by
 refine ⟨f.len,?_⟩
 rcases f.vec with ⟨rfl,h0,_⟩ | ⟨i,rfl,hi⟩
 ·exact .inl h0
 ·exact .inr ⟨i,rfl,f.low i rfl,hi⟩
theorem Yre {h:Zaa} {x:Nd}:Row (h ++ [Zcb.cells Zab [.str x.1,.str x.2] false]).length (h ++ [.cells Zab [.str x.1,.str x.2] false]) (some (h.length,0)) (1 * 2) (Zdb eP [x]):=
 (Vec.mk1 (n:=0) (c:=0) (ty:=Zab) (cs:=[.str x.1,.str x.2]) (by simp)).row rfl
theorem Yhv {h:Zaa} {a0 a1 a2:Pt} {n0 c0 n1 c1 n2 c2:Nat} {e0 e1 e2:Bool} {w:Wd} {gs:List Nd} (r:Zkr h a0 n0 c0 a1 n1 c1 w) (b:WB w) (r2:Row h.length h a2 (n2 * 2) (Zdb eP gs)) (hn2:n2≤1048576) :
  Zak pg Zod [.agg [.slice a0 n0 c0 e0,.slice a1 n1 c1 e1],.slice a2 n2 c2 e2] h (Xbe w gs h):=by
 have hl:gs.length=n2:=by have:=r2.1; rw [Zat Zcr] at this; omega
 apply Zgc.call
 simp only [Zaw]
 generalize hh0:h ++ [Zcb.cells Zac [.slice a0 n0 c0 e0,.slice a1 n1 c1 e1] false]=h0
 have s0:Zbc h.length h h0:=by rw [← hh0]; exact Zal
 have w0:h0[h.length]?=some (Zlu a0 n0 c0 e0 a1 n1 c1 e1):=by rw [← hh0]; simp [Zlu]
 have l0:h0.length=h.length + 1:=by rw [← hh0]; simp
 rw [Zth w0]
 simp only [Zao,Zae,Zam,Zaj]
 refine (Zix (r.same s0) b (r2.same' s0) hn2).mono ?_
 rintro v h2 ⟨rfl,s2⟩
 have S2:=s0.cat s2
 have w2:=s2.get w0 (Own.lt w0)
 have l2:=s2.le
 simp only [Zaq]
 refine Zbs (fun b1=>⟨S2,_,_,_,_,by rw [b1],Nat.le_refl _,by unfold Yqo; rw [b1]; exact ⟨rfl,.inl rfl⟩⟩) (fun b1=>?_)
 have hg6:gs.length≤6:=by unfold Zgu at b1; simp only [Bool.and_eq_true,decide_eq_true_eq] at b1; exact b1.1.2
 -- nothing below the world's variable and that variable have turned
 refine Zgc.L5ind _ _ _ _ _ _ _ _ (J:=fun (g:Nat) a6 n6 c6 e6 x18 h'=>x18=(g:Int)∧g≤n2∧Zbc h2.length h2 h'∧Ycp h2.length h' a6 n6 c6 (Zpq w (gs.take g))) (fun g=>n2 - g) ?_ 0 _ _ _ _ _ _
  ⟨rfl,by omega,Zal,⟨Vec.mk1 (by simp [Zpq]),rfl,fun i hi=>by cases hi; exact Nat.le_refl _,Nat.le_refl _⟩⟩
 rintro g a6 n6 c6 e6 x18 h' ⟨rfl,hg,hS,hN⟩ R hR
 have SS:=S2.cat hS
 have w3:=hS.get w2 (Own.lt w2)
 have l3:=hS.le
 unfold Zgc.L5t
 refine Zar (fun hlt=>?_) (fun hge=>?_)
 ·obtain ⟨i,o,hgl,rfl,_,hr,_⟩:=(r2.same SS).pr (k:=g) (by omega)
  simp only [Zau,Int.toNat_natCast,hr,Zao,Zae,Zam,Zah,Zaw]
  rw [Zfb]
  generalize hq:h' ++ [Zcb.cells Zab [.str gs[g].1,.str gs[g].2] false]=hq'
  have sq:Zbc h'.length h' hq':=by rw [← hq]; exact Zal
  have iq:hq'[h'.length]?=some (.cells Zab [.str gs[g].1,.str gs[g].2] false):=by rw [← hq]; simp
  have lq:hq'.length=h'.length + 1:=by rw [← hq]; simp
  simp only [Zas]
  rw [Zaz iq]
  simp only [Zao,Zae,Zam,Zah]
  have hal:=Zwx w gs g
  have hNl:=hN.len
  have hN2:=(hN.same sq).same (Zal (h:=hq') (x:=.cells Zab [.str gs[g].1,.str gs[g].2] false))
  refine ⟨by omega,(Ypg (x:=gs[g]) hN2 (by simp; omega) (by omega) Yre).mono ?_⟩
  rintro v h4 ⟨a',n',c',e',rfl,N4,B4,D4⟩
  simp only [Zaj]
  have l4:=B4.1
  simp at l4
  have low:=hN.low
  have keep:∀ j,j < hq'.length→(∀ i,a6=some (i,0)→j≠i)→h4[j]?=hq'[j]?:=fun j hj hne=>by rw [B4.2 j (by simp; omega) hne,Zzg hj]
  have hil:=Own.lt iq
  have vi:∀ i,a6=some (i,0)→i < h'.length:=fun i hi=>by
   rcases hN.vec with ⟨h0,_⟩ | ⟨j,hj,hjj⟩
   ·rw [hi] at h0; cases h0
   ·rw [hi] at hj; cases hj; exact Own.lt hjj
  have w4:h4[h.length]?=some (Zlu a0 n0 c0 e0 a1 n1 c1 e1):=by
   rw [keep _ (by omega) fun i hi=>by have:=low i hi; omega]; exact (sq.get w3 (by omega))
  have i4:h4[h'.length]?=some (.cells Zab [.str gs[g].1,.str gs[g].2] false):=by
   rw [keep _ (by omega) fun i hi=>by have:=vi i hi; omega]; exact iq
  have S4:Zbc h2.length h2 h4:=⟨by omega,fun j hj=>by
   rw [keep j (by omega) fun i hi=>by have:=low i hi; omega,sq.eq j (by omega)]; exact hS.eq j hj⟩
  rw [Zth w4]
  simp only [Zao,Zae,Zam,Zaj,Zan i4,Nat.zero_add,List.getElem?_cons_zero,Zah]
  refine (Yia (s:=gs[g].1) (r.same (S2.cat S4)) b).mono ?_
  rintro v h5 ⟨s5,sa,sn,sc,se,rfl,hsr,hsl⟩
  simp only [Zaj]
  have l5:=s5.le
  have N5:=N4.same s5
  have i5:=s5.get i4 (Own.lt i4)
  have hsn:(Zjf w gs[g].1).length=sn:=by have:=hsr.1; simpa using this
  have hs20:=Zub w gs[g].1
  have hN4l:=N4.len
  have ho1:=Yir (Zpq w (gs.take g)) gs[g]
  refine Zgc.L9ind _ _ _ _ _ _ _ _ _ _ _ _ _ _ _ _ _ (J:=fun (q:Nat) a7 n7 c7 e7 x31 h6=>x31=(q:Int)∧q≤sn∧Zbc h2.length h2 h6∧h6[h'.length]?=some (.cells Zab [.str gs[g].1,.str gs[g].2] false)∧Row h6.length h6 sa sn (strs ((Zjf w gs[g].1).map one)) ∧
   Ycp h2.length h6 a7 n7 c7 ((((Zjf w gs[g].1).take q).map fun d=>(([d],gs[g].2):Nd)).foldl Zka (Zka (Zpq w (gs.take g)) gs[g]))∧(∀ i,a7=some (i,0)→i≠h'.length∧∀ j o,sa=some (j,o)→sn≠0→i≠j)) (fun q=>sn - q) ?_ 0 _ _ _ _ _ _
   ⟨rfl,by omega,S4.cat s5,i5,hsr,N5,?_⟩
  ·rintro q a7 n7 c7 e7 x31 h6 ⟨rfl,hq0,S6,i6,hsr6,N6,D6⟩ R9 hR9
   unfold Zgc.L9t
   have l6:=S6.le
   refine Zar (fun hlt6=>?_) (fun hge6=>?_)
   ·obtain ⟨iv,ov,rfl,hiv,hcv⟩:=hsr6.at (k:=q) (by omega)
    have hqs:q < (Zjf w gs[g].1).length:=by omega
    rw [Yfi,List.getElem?_map,List.getElem?_eq_getElem hqs] at hcv
    simp only [Option.map_some] at hcv
    simp only [Zau,Int.toNat_natCast,Nat.mul_one,hcv,Zah,Nat.zero_add,Zan i6,List.getElem?_cons_succ,List.getElem?_cons_zero,one,Zaw]
    have hlen6:=N6.len
    have hfl:=Zqv ((((Zjf w gs[g].1).take q).map fun d=>(([d],gs[g].2):Nd))) (Zka (Zpq w (gs.take g)) gs[g])
    simp only [List.length_map,List.length_take] at hfl
    have N6':=N6.same (Zal (h:=h6) (x:=.cells Zab [.str [(Zjf w gs[g].1)[q]],.str gs[g].2] false))
    refine ⟨by omega,(Ypg (x:=([(Zjf w gs[g].1)[q]],gs[g].2)) N6' (by simp; omega) (by omega) Yre).mono ?_⟩
    rintro v h7 ⟨a8,n8,c8,e8,rfl,N7,B7,D7⟩
    simp only [Zaj]
    rw [Zbm (by omega)]
    have l7:=B7.1
    simp at l7
    have keep7:∀ j,j < h6.length→(∀ i,a7=some (i,0)→j≠i)→h7[j]?=h6[j]?:=fun j hj hne=>by rw [B7.2 j (by simp; omega) hne,Zzg hj]
    have i6l:=Own.lt i6
    refine hR9 (q + 1) _ _ _ _ _ _ (by omega) ⟨rfl,by omega,⟨by omega,fun j hj=>?_⟩,?_,?_,?_,fun i hi=>?_⟩
    ·rw [keep7 j (by omega) fun i hi=>by have:=N6.low i hi; omega]; exact S6.eq j hj
    ·rw [keep7 _ i6l fun i hi=>(D6 i hi).1.symm]; exact i6
    ·obtain ⟨k1,k2⟩:=hsr6
     refine ⟨k1,k2.imp id ?_⟩
     rintro ⟨i,o',t,all,ro,ha,hb,hi,x⟩
     exact ⟨i,o',t,all,ro,ha,by omega,by rw [keep7 i (Own.lt hi) fun j hj=>((D6 j hj).2 i o' ha (by omega)).symm]; exact hi,x⟩
    ·rw [List.take_succ_eq_append_getElem hqs,List.map_append,List.foldl_append]; exact N7
    ·rcases D7 with rfl | D7
     ·exact D6 i hi
     ·have:=D7 i hi
      simp at this
      exact ⟨by omega,fun j o' hj _=>by cases hj; omega⟩
   ·apply Zgc.A9x2i
    have:q=sn:=by omega
    subst this
    have e9:(Zjf w gs[g].1).take q=Zjf w gs[g].1:=List.take_of_length_le (by omega)
    rw [e9] at N6
    rw [Zbm (by omega)]
    refine hR (g + 1) _ _ _ _ _ _ (by omega) ⟨rfl,by omega,S6,?_⟩
    rw [Yad hgl]
    exact N6
  ·intro i hi
   have hi4:i < h4.length:=by
    rcases N4.vec with ⟨h0,_⟩ | ⟨j,hj,hjj⟩
    ·rw [hi] at h0; cases h0
    ·rw [hi] at hj; cases hj; exact Own.lt hjj
   refine ⟨?_,fun j o' hj hn=>by have:=hsl j o' hj hn; omega⟩
   rcases D4 with rfl | D4
   ·have:=vi i hi; omega
   ·have:=D4 i hi; simp at this; omega
 ·apply Zgc.A5x0i
  have:g=n2:=by omega
  subst this
  have hw:Yqo w gs=Zpq w gs:=by unfold Yqo; rw [b1]; rfl
  rw [List.take_of_length_le (by omega)] at hN
  refine ⟨SS,_,_,_,_,by rw [b1],hN.cap,?_⟩
  rw [hw]
  exact hN.fresh.keep (by omega) fun _ _ _=>rfl
end Go.Sim
