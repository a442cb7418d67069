/- A part of the proof of a statement of this seat: see the text that holds the theorem. No condition. -/
import Derived.Test.YtflfcofeedjblaaGreatPTCDrawZ
import Derived.Test.YtflfcofeedjblaaGreatCDrawY
import Derived.Test.YtflfcofeedjblaaGreatPTCDrawX
import Derived.Test.YtflfcofeedjblaaGreatCSrch
import Derived.Test.YtflfcofeedjblaaGreatCVars
import Derived.Test.YtflfcofeedjblaaGreatCTy
set_option linter.unusedVariables false
set_option linter.unusedSimpArgs false
set_option linter.all false
set_option linter.unusedVariables false
set_option linter.unusedSimpArgs false
set_option maxRecDepth 20000
namespace Go.Sim
open Go Go.RowKit

theorem Zsw {h l:Zaa} {j o:Nat} (hj:j < h.length):Zag (h ++ l) (.ptr (some (j,o)))=Zag h (.ptr (some (j,o))):=by simp only [Zag,List.getElem?_append_left hj]
def Yuk (I:Ins):Prop:=I.1.1.length≤1000∧I.1.2.length≤1000∧I.2.length≤1000∧∀ q∈I.2,q.1.length≤1000∧q.2.length≤1000
def Ypl (i p:Nat) (h:Zaa) (v:Zau) (h':Zaa):Prop:=∃ (I:Ins) (a:Pt) (c:Nat) (e:Bool),v=.agg [.str I.1.1,.str I.1.2,.slice a I.2.length c e]∧I.2.length≤c∧Zdh Zad eP h.length h' a I.2.length I.2∧Yuk I∧RdK i p 10000 h h'
theorem Zxw (s:List Nat):(Zkw s).length≤6:=by unfold Zkw; exact Nat.le_trans (List.length_filter_le _ _) (by decide)
theorem Zvh {h:Zaa} {i p b m:Nat} {a0:Pt} {n0 c0 q n1 c1:Nat} {e0 e1:Bool} {ys:List EI} {w:Wd} (r:Rdr h i p) (hp:p≤800000000000) (d:WDr b h a0 n0 c0 q n1 c1 ys w) (hib:i < b) (hn0:1≤n0) (ws:WS m w) :
  Zah pg Zid [.ptr (some (i,0)),.agg [.slice a0 n0 c0 e0,.slice (some (q,0)) n1 c1 e1]] h (Ypl i p h):=by
 have hil:=r.lt
 apply Zdb.call
 simp only [Zaw]
 generalize hg0:h ++ [Zcd.cells Zab [.slice a0 n0 c0 e0,.slice (some (q,0)) n1 c1 e1] false]=g0
 have s0:Zbc h.length h g0:=by rw [← hg0]; exact Zam
 have x0:g0[h.length]?=some (.cells Zab [.slice a0 n0 c0 e0,.slice (some (q,0)) n1 c1 e1] false):=by rw [← hg0]; simp
 have l0:g0.length=h.length + 1:=by rw [← hg0]; simp
 generalize hga:g0 ++ [Zcd.cells Zac [.str [],.str [],.slice none 0 0 true] false]=ga
 have sa:Zbc g0.length g0 ga:=by rw [← hga]; exact Zam
 have xa:=sa.get x0 (Own.lt x0)
 have za:ga[g0.length]?=some (.cells Zac [.str [],.str [],.slice none 0 0 true] false):=by rw [← hga]; simp
 have la:ga.length=g0.length + 1:=by rw [← hga]; simp
 have Sa:=s0.cat sa
 have Ra:=r.same Sa
 refine (Zmr (Ra.app _) (by omega) (j:=ga.length) (t:=Zbe) (n:=11) (l:=[[105],[98],[108,40,120,41],[112,40,120,44,121,41],[109,40,120,41],[108,40,105,41],[112,40,120,44,120,41],[112,40,105,44,120,41],[108,40,108,40,120,41,41],[117],[108,40,120,41]]) (by simp [Zdn,eS]) (by omega) rfl (by omega)).mono ?_
 rintro v g1 ⟨hd,hhd,rfl,pg1,Rg1,lg1⟩
 have hhl:hd.length≤10:=by
  simp only [List.mem_cons,List.not_mem_nil,or_false] at hhd
  rcases hhd with rfl | rfl | rfl | rfl | rfl | rfl | rfl | rfl | rfl | rfl | rfl <;> decide
 have Kg1:=(Zdu.of_same (i:=i) (Sa.trans (Zbc.app Sa.le [Zcd.cells Zbe [.str [105],.str [98],.str [108,40,120,41],.str [112,40,120,44,121,41],.str [109,40,120,41],.str [108,40,105,41],.str [112,40,120,44,120,41],.str [112,40,105,44,120,41],.str [108,40,108,40,120,41,41],.str [117],.str [108,40,120,41]] false]))).trans pg1
 have xg1:=pg1.get (Zgl xa) (by omega)
 have zg1:=pg1.get (Zgl za) (by omega)
 simp only [Zal,Zao xg1,Nat.zero_add,List.getElem?_cons_zero,Zae]
 have Rg1:Rdr g1 i (p + 1):=Rg1
 -- behind the orders
 have fin:∀ (G:Zaa) (zI eX p':Nat) (cl:List Nat),Zdu i h G→Rdr G i p'→p≤p'→p'≤p + 2→G[h.length]?=some (.cells Zab [.slice a0 n0 c0 e0,.slice (some (q,0)) n1 c1 e1] false)→G[g0.length]?=some (.cells Zac [.str [],.str [],.slice none 0 0 true] false) →
   G[eX]?=some (.cells Zad [] false)→G[zI]?=some (.cells Zac [.str [],.str [],.slice none 0 0 true] false)→h.length≤eX→g0.length < zI→cl.length≤1000 →
   Zbu (Zbb G (.ptr (some (zI,0))) [.str cl,.str hd,.slice (some (eX,0)) 0 0 true]) fun h_22=>Zah pg Zdq [.ptr (some (i,0)),.slice (some (List.length h_22,0)) 4 4 true] (h_22 ++ [.cells Zfs [.int .i64 1,.int .i64 0,.int .i64 1,.int .i64 2] false]) fun v_24 h_25=>Zdo .i64 (some v_24) fun x_26=>Zdb.L4 (Ypl i p h) (some (i,0)) h.length 0 g0.length 0 hd zI 0 x_26 0 h_25:=by
  intro G zI eX p' cl KG RG h1 h2 xG zG eG iG hel hzl hcl
  have hzi:=Own.lt iG
  rw [Zbd iG (by simp)]
  simp only [Zas,putRow,List.take_zero,List.length_cons,List.length_nil,List.drop_succ_cons,List.drop_zero,List.drop_nil,List.cons_append,List.nil_append,List.append_nil,Nat.zero_add]
  have i2:=Zbz iG (x:=.cells Zac [.str cl,.str hd,.slice (some (eX,0)) 0 0 true] false)
  have n2:∀ j,j≠zI→(G.set zI (.cells Zac [.str cl,.str hd,.slice (some (eX,0)) 0 0 true] false))[j]?=G[j]?:=fun j hj=>Zbs (fun e=>hj e.symm)
  have l2:(G.set zI (.cells Zac [.str cl,.str hd,.slice (some (eX,0)) 0 0 true] false)).length=G.length:=by simp
  generalize G.set zI (.cells Zac [.str cl,.str hd,.slice (some (eX,0)) 0 0 true] false)=G2 at i2 n2 l2 ⊢
  have hez:eX≠zI:=Zfn eG iG (by decide)
  have K2:Zdu i h G2:=⟨by have:=KG.le; omega,fun j hj hji=>by rw [n2 j (by omega)]; exact KG.eq j hj hji⟩
  have R2:Rdr G2 i p':=RG.agree (fun j hj=>n2 j (by omega)) (by omega)
  have x2:G2[h.length]?=some (.cells Zab [.slice a0 n0 c0 e0,.slice (some (q,0)) n1 c1 e1] false):=by rw [n2 _ (by omega)]; exact xG
  have z2:G2[g0.length]?=some (.cells Zac [.str [],.str [],.slice none 0 0 true] false):=by rw [n2 _ (by omega)]; exact zG
  have e2:G2[eX]?=some (.cells Zad [] false):=by rw [n2 _ hez]; exact eG
  refine (Yif (R2.app _) (by omega) (j:=G2.length) (t:=Zfs) (n:=4) (l:=[1,0,1,2]) (by simp [Zdn,eI]) (by have:=R2.lt; omega) rfl (by omega)).mono ?_
  rintro v G3 ⟨x,hx,rfl,K3,R3,l3⟩
  have hR2l:=R2.lt
  simp only [List.mem_cons,List.not_mem_nil,or_false] at hx
  have hxb:0≤x∧x≤2:=by rcases hx with rfl | rfl | rfl | rfl <;> omega
  simp only [Zar]
  have hgl:g0.length≠i:=by omega
  refine Zdb.L4ind (J:=fun (g:Nat) x27 h'=>x27=(g:Int)∧(g:Int)≤x∧Zdu i h h'∧(∃ p',p≤p'∧p'≤p + 10 + g * 2000∧Rdr h' i p')∧h'[h.length]?=some (.cells Zab [.slice a0 n0 c0 e0,.slice (some (q,0)) n1 c1 e1] false)∧h'[g0.length]?=some (.cells Zac [.str [],.str [],.slice none 0 0 true] false) ∧
    ∃ (l:List Nd) (y c:Nat) (e:Bool),h'[zI]?=some (.cells Zac [.str cl,.str hd,.slice (some (y,0)) l.length c e] false)∧h'[y]?=some (.cells Zad (Zdn eP l) false)∧h.length≤y∧l.length≤g∧l.length≤c∧∀ q∈l,q.1.length≤1000∧q.2.length≤1000) (m:=fun g=>x.toNat - g) (hr:=?_) (g:=0)
   (hj:=⟨rfl,by omega,(K2.trans (Zdu.app i G2 _)).trans K3,⟨_,by omega,by omega,R3⟩,K3.get (Zgl x2) (by omega),K3.get (Zgl z2) (by omega),[],eX,0,true,K3.get (Zgl i2) (by omega),K3.get (Zgl e2) (by omega),hel,Nat.le_refl _,Nat.le_refl _,by simp⟩) ..
  rintro g x27 k ⟨rfl,hg,Kk,⟨p4,hp1,hp2,Rk⟩,xk,zk,l,y,c,e,ik,yk,hyl,hlg,hlc,hls⟩ R hR
  unfold Zdb.L4t
  have hkl:=Rk.lt
  refine Zat (fun hlt=>?_) (fun hge=>?_)
  ·refine (Zsq hd (by omega)).mono ?_
   rintro v k1 ⟨rfl,t1⟩
   have hvl:(if Zml hd=true then Zkw hd else []).length≤6:=by split; exact Zxw _; simp
   have next:∀ (G:Zaa) (p':Nat),Zdu i k G→p≤p'→p'≤p4 + 1→Rdr G i p'→Zdb.J7 (Ypl i p h) R (g:Int) x hd (some (i,0)) zI 0 h.length 0 g0.length 0 G:=by
    intro G p' KG h1 h2 RG
    apply Zdb.J7i
    rw [Zbl (by omega)]
    exact hR (g + 1) _ _ (by omega) ⟨rfl,by omega,Kk.trans KG,⟨p',h1,by omega,RG⟩,KG.get xk (by omega),KG.get zk (by omega),l,y,c,e,KG.get ik (by omega),KG.get yk (by omega),hyl,by omega,hlc,hls⟩
   have add:∀ (G:Zaa) (p':Nat),Zdu i k G→p≤p'→p'≤p4 + 1→Rdr G i p' →
     xSl (Zag G (.ptr (some (zI,0 + 2)))) fun a_87 n_88 c_89 e_90=>Zco (Zbi G (.ptr (some (h.length,0))) 2) fun cs_91=>Zaj cs_91 fun c_92 r_93=>xSl (some c_92) fun a_94 n_95 c_96 e_97=>Zaj r_93 fun c_98 r_99=>xSl (some c_98) fun a_100 n_101 c_102 e_103=>Zbv r_99 (Zah pg Zgd [.str hd] G fun v_104 h_105=>
      Zbg (some v_104) fun s_106=>(Zbi h_105 (.ptr (some (h.length,0))) 2=Zbi G (.ptr (some (h.length,0))) 2)∧(Zag h_105 (.ptr (some (zI,0 + 2)))=Zag G (.ptr (some (zI,0 + 2))))∧Zah pg Zgm [.ptr (some (i,0)),.agg [.slice a_94 n_95 c_96 e_97,.slice a_100 n_101 c_102 e_103],.str s_106] h_105 fun v_107 h_108=>
      Znx v_107 fun cs_109=>Zaj cs_109 fun c_110 r_111=>Zbg (some c_110) fun s_112=>Zaj r_111 fun c_113 r_114=>Zbg (some c_113) fun s_115=>Zbv r_114 ((Zag h_108 (.ptr (some (zI,0 + 2)))=Zag h_105 (.ptr (some (zI,0 + 2))))∧((Zbi (h_108 ++ [.cells Zad [.str s_112,.str s_115] false]) (.ptr (some (h.length,0))) 2=Zbi h_108 (.ptr (some (h.length,0))) 2)∧(Zag (h_108 ++ [.cells Zad [.str s_112,.str s_115] false]) (.ptr (some (zI,0 + 2)))=Zag h_108 (.ptr (some (zI,0 + 2))))∧Zcz pg Zfu (h_108 ++ [.cells Zad [.str s_112,.str s_115] false]) (.slice a_87 n_88 c_89 e_90) (.slice (some (List.length h_108,0)) 1 1 true) fun v_117 h_118=>xSl (some v_117) fun a_119 n_120 c_121 e_122=>(Zbi h_118 (.ptr (some (h.length,0))) 2=Zbi (h_108 ++ [.cells Zad [.str s_112,.str s_115] false]) (.ptr (some (h.length,0))) 2)∧Zbu (Zbb h_118 (.ptr (some (zI,0 + 2))) [.slice a_119 n_120 c_121 e_122]) fun h_123=>Zdb.J7 (Ypl i p h) R (g:Int) x hd (some (i,0)) zI 0 h.length 0 g0.length 0 h_123))):=by
    intro G p' KG h1 h2 RG
    have xG:=KG.get xk (by omega)
    have zG:=KG.get zk (by omega)
    have iG:=KG.get ik (by omega)
    have yG:=KG.get yk (by omega)
    simp only [Zao iG,Nat.zero_add,List.getElem?_cons_succ,List.getElem?_cons_zero,Zae]
    rw [Zbk xG]
    simp only [Zaq,Zaf,Zan,Zae]
    refine (Zsq hd (by omega)).mono ?_
    rintro v G1 ⟨rfl,t1⟩
    have xG1:=t1.get xG (Own.lt xG)
    have iG1:=t1.get iG (Own.lt iG)
    have yG1:=t1.get yG (Own.lt yG)
    have zG1:=t1.get zG (Own.lt zG)
    simp only [Zal]
    refine ⟨by rw [Zbk xG1],by rw [Zao iG1]; rfl,?_⟩
    have KK:=Kk.trans KG
    have dG:=((d.kp KK hib).same t1)
    refine (Ybe (RG.same t1) (by omega) dG hib hn0 ws (by omega)).mono ?_
    rintro v G2 ⟨c',t',rfl,hc',ht',K2,p5,hp5,hp6,R5⟩
    have il2:=t1.le
    have xG2:=K2.get xG1 (by omega)
    have iG2:=K2.get iG1 (by omega)
    have yG2:=K2.get yG1 (by omega)
    have zG2:=K2.get zG1 (by omega)
    simp only [Zdd,Zaf,Zan,Zal]
    refine ⟨by rw [Zao iG2,Zao iG1],by rw [Zbk (Zgl xG2),Zbk xG2],by rw [Zao (Zgl iG2),Zao iG2],?_⟩
    have R5l:=R5.lt
    refine (Vec.mk1 (n:=l.length) (c:=c) yG2).pushN (sz:=2) Ybw Ynw Ynq Ynn (by rw [Zay Zeb]) rfl (by omega) rfl (by omega) (fun G4 hl4 hi4 hk4=>?_)
    have keep:∀ {x:Nat} {o:Zcd},G2[x]?=some o→x≠y→G4[x]?=some o:=fun {x o} hx hne=>by rw [hk4 x (Own.lt hx) (fun i hi=>by cases hi; exact hne)]; exact hx
    have xG4:=keep xG2 (Zfn xG2 yG2 (by decide))
    have iG4:=keep iG2 (Zfn iG2 yG2 (by decide))
    have zG4:=keep zG2 (Zfn zG2 yG2 (by decide))
    simp only [Zae]
    refine ⟨by rw [Zbk xG4,Zbk (Zgl xG2)],?_⟩
    rw [Zbd iG4 (by simp)]
    simp only [Zas,putRow,List.take_succ_cons,List.take_zero,List.length_cons,List.length_nil,List.drop_succ_cons,List.drop_zero,List.drop_nil,List.cons_append,List.nil_append,List.append_nil]
    apply Zdb.J7i
    rw [Zbl (by omega)]
    have hiy:i≠y:=by omega
    have R6:Rdr (G4.set zI (.cells Zac [.str cl,.str hd,.slice (some (G2.length + 1,0)) (l.length + 1) (l.length + 1) false] false)) i p5:=R5.agree (fun j hj=>by rw [Zbs (by omega),hk4 j (by omega) (fun i' hi'=>by cases hi'; omega)]) (by simp; omega)
    have K26:Zdu i h (G4.set zI (.cells Zac [.str cl,.str hd,.slice (some (G2.length + 1,0)) (l.length + 1) (l.length + 1) false] false)):=by
     have K02:=(KK.trans (Zdu.of_same t1)).trans K2
     have:=K02.le
     exact ⟨by simp; omega,fun j hj hji=>by rw [Zbs (by omega),hk4 j (by omega) (fun i' hi'=>by cases hi'; omega)]; exact K02.eq j hj hji⟩
    have KKl:=((KK.trans (Zdu.of_same t1)).trans K2).le
    refine hR (g + 1) _ _ (by omega) ⟨rfl,by omega,K26,⟨p5,by omega,by omega,R6⟩,by rw [Zbs (by omega)]; exact xG4,by rw [Zbs (by omega)]; exact zG4,l ++ [(c',t')],G2.length + 1,l.length + 1,false,by simpa using Zbz iG4,?_,by omega,by simp; omega,by simp,fun q hq=>?_⟩
    ·rw [Zbs (Zfn iG4 hi4 (by decide))]; simpa [eP] using hi4
    ·rcases List.mem_append.1 hq with hq | hq
     ·exact hls q hq
     ·rw [List.mem_singleton] at hq; subst hq; exact ⟨hc',ht'⟩
   simp only [Zal,Zaw]
   generalize hvv:(if Zml hd=true then Zkw hd else [])=vs at hvl
   refine Zbq (fun hv=>?_) (fun hv=>?_)
   ·exact add k1 p4 (Zdu.of_same t1) hp1 (by omega) (Rk.same t1)
   ·refine (Zcu (Rk.same t1) (by omega) 4).mono ?_
    rintro v k2 ⟨z,rfl,_,_,_,K2,R2',_⟩
    simp only [Zar]
    refine Zcx (fun _=>?_) (fun _=>?_)
    ·exact add k2 _ ((Zdu.of_same t1).trans K2) (by omega) (by omega) R2'
    ·exact next k2 _ ((Zdu.of_same t1).trans K2) (by omega) (by omega) R2'
  ·apply Zdb.A4x0i
   rw [Zne ik]
   simp only [Zaq,Zaf,Zan,Zal,Zae]
   rw [Zbd zk (by simp)]
   simp only [Zas,putRow,List.take_zero,List.length_cons,List.length_nil,List.drop_succ_cons,List.drop_zero,List.drop_nil,List.cons_append,List.nil_append,List.append_nil,Nat.zero_add]
   rw [Zne (Zbz zk)]
   simp only [Zaq,Zaf,Zan,Zal,Zae]
   refine ⟨((cl,hd),l),some (y,0),c,e,rfl,hlc,⟨rfl,.inr ⟨y,rfl,hyl,by rw [Zbs (Zfn zk yk (by decide))]; exact yk⟩⟩,⟨hcl,by simp only; omega,by simp only; omega,hls⟩,⟨by have:=Kk.le; simp; omega,fun j hj hji=>by rw [Zbs (by omega)]; exact Kk.eq j hj hji⟩,p4,hp1,by omega,Rk.agree (fun j hj=>by rw [Zbs (by omega)]) (by simp)⟩
 have Rg1':=Rg1.lt
 have hxl:=Own.lt xg1
 have hzl1:=Own.lt zg1
 refine ⟨?_,?_,?_⟩
 ·
  refine (Zcu Rg1 (by omega) (n0:Int)).mono ?_
  rintro v g2 ⟨x,rfl,hx0,hx1,_,pg2,Rg2,lg2⟩
  have hx1:=hx1 (by omega)
  have qg2:=Own.lt xg1
  have q2g2:=Own.lt zg1
  have Kg2:=Kg1.trans pg2
  have xg2:=pg2.get xg1 (by first | omega | (have:=Own.lt xg1; omega))
  have zg2:=pg2.get zg1 (by first | omega | (have:=Own.lt zg1; omega))
  obtain ⟨k,rfl⟩:∃ k:Nat,x=k:=⟨x.toNat,by omega⟩
  obtain ⟨ic,oc,hkc,ha,hicl,_,cg2,_⟩:=(d.kp Kg2 hib).rep.class (k:=k) (by omega)
  subst ha
  have hcl:=(ws.cs _ (List.getElem_mem hkc)).1
  simp only [Zar,Zao xg2,Zao xg1,Zav,Int.toNat_natCast,Nat.add_zero,cg2,Zal,true_and,eq_self,List.getElem?_cons_zero]
  refine ⟨⟨by omega,by omega⟩,?_⟩
  refine ⟨?_,?_⟩
  ·
   generalize hg3:g2 ++ [Zcd.cells Zad [] false]=g3
   have sg3:Zbc g2.length g2 g3:=by rw [← hg3]; exact Zam
   have lg3:g3.length=g2.length + 1:=by rw [← hg3]; simp
   have Kg3:=Kg2.trans (Zdu.of_same (i:=i) sg3)
   have Rg3:=Rg2.same sg3
   have xg3:=sg3.get xg2 (Own.lt xg2)
   have zg3:=sg3.get zg2 (Own.lt zg2)
   have eg3:g3[g2.length]?=some (.cells Zad [] false):=by rw [← hg3]; simp
   have qg3:=Own.lt xg2
   have cg3:Zag g3 (.ptr (some (ic,oc + k * 2)))=some (.str w.cs[k].1):=by rw [← hg3,Zsw (by omega)]; exact cg2
   try simp only [Zao xg3,Zao xg2,cg3,cg2,true_and,eq_self,List.getElem?_cons_zero]
   generalize hg4:g3 ++ [Zcd.cells Zac [.str [],.str [],.slice none 0 0 true] false]=g4
   have sg4:Zbc g3.length g3 g4:=by rw [← hg4]; exact Zam
   have lg4:g4.length=g3.length + 1:=by rw [← hg4]; simp
   have Kg4:=Kg3.trans (Zdu.of_same (i:=i) sg4)
   have Rg4:=Rg3.same sg4
   have xg4:=sg4.get xg3 (Own.lt xg3)
   have zg4:=sg4.get zg3 (Own.lt zg3)
   have ig4:g4[g3.length]?=some (.cells Zac [.str [],.str [],.slice none 0 0 true] false):=by rw [← hg4]; simp
   have eg4:=sg4.get eg3 (Own.lt eg3)
   have qg4:=Own.lt xg3
   have cg4:Zag g4 (.ptr (some (ic,oc + k * 2)))=some (.str w.cs[k].1):=by rw [← hg4,Zsw (by omega)]; exact cg3
   try simp only [Zao xg4,Zao xg3,cg4,cg3,true_and,eq_self,List.getElem?_cons_zero]
   exact fin g4 g3.length g2.length _ _ Kg4 Rg4 (by omega) (by omega) xg4 zg4 eg4 ig4 (by omega) (by omega) hcl
  ·
   generalize hg5:g2 ++ [Zcd.cells Zac [.str [],.str [],.slice none 0 0 true] false]=g5
   have sg5:Zbc g2.length g2 g5:=by rw [← hg5]; exact Zam
   have lg5:g5.length=g2.length + 1:=by rw [← hg5]; simp
   have Kg5:=Kg2.trans (Zdu.of_same (i:=i) sg5)
   have Rg5:=Rg2.same sg5
   have xg5:=sg5.get xg2 (Own.lt xg2)
   have zg5:=sg5.get zg2 (Own.lt zg2)
   have ig5:g5[g2.length]?=some (.cells Zac [.str [],.str [],.slice none 0 0 true] false):=by rw [← hg5]; simp
   have qg5:=Own.lt xg2
   have cg5:Zag g5 (.ptr (some (ic,oc + k * 2)))=some (.str w.cs[k].1):=by rw [← hg5,Zsw (by omega)]; exact cg2
   try simp only [Zao xg5,Zao xg2,cg5,cg2,true_and,eq_self,List.getElem?_cons_zero]
   generalize hg6:g5 ++ [Zcd.cells Zad [] false]=g6
   have sg6:Zbc g5.length g5 g6:=by rw [← hg6]; exact Zam
   have lg6:g6.length=g5.length + 1:=by rw [← hg6]; simp
   have Kg6:=Kg5.trans (Zdu.of_same (i:=i) sg6)
   have Rg6:=Rg5.same sg6
   have xg6:=sg6.get xg5 (Own.lt xg5)
   have zg6:=sg6.get zg5 (Own.lt zg5)
   have eg6:g6[g5.length]?=some (.cells Zad [] false):=by rw [← hg6]; simp
   have ig6:=sg6.get ig5 (Own.lt ig5)
   have qg6:=Own.lt xg5
   have cg6:Zag g6 (.ptr (some (ic,oc + k * 2)))=some (.str w.cs[k].1):=by rw [← hg6,Zsw (by omega)]; exact cg5
   try simp only [Zao xg6,Zao xg5,cg6,cg5,true_and,eq_self,List.getElem?_cons_zero]
   exact fin g6 g2.length g5.length _ _ Kg6 Rg6 (by omega) (by omega) xg6 zg6 eg6 ig6 (by omega) (by omega) hcl
 ·
  generalize hg7:g1 ++ [Zcd.cells Zad [] false]=g7
  have sg7:Zbc g1.length g1 g7:=by rw [← hg7]; exact Zam
  have lg7:g7.length=g1.length + 1:=by rw [← hg7]; simp
  have Kg7:=Kg1.trans (Zdu.of_same (i:=i) sg7)
  have Rg7:=Rg1.same sg7
  have xg7:=sg7.get xg1 (Own.lt xg1)
  have zg7:=sg7.get zg1 (Own.lt zg1)
  have eg7:g7[g1.length]?=some (.cells Zad [] false):=by rw [← hg7]; simp
  have qg7:=Own.lt xg1
  try simp only [Zao xg7,Zao xg1,true_and,eq_self,List.getElem?_cons_zero]
  refine ⟨?_,?_⟩
  ·
   refine (Zcu Rg7 (by omega) (n0:Int)).mono ?_
   rintro v g8 ⟨x,rfl,hx0,hx1,_,pg8,Rg8,lg8⟩
   have hx1:=hx1 (by omega)
   have qg8:=Own.lt xg7
   have q2g8:=Own.lt zg7
   have Kg8:=Kg7.trans pg8
   have xg8:=pg8.get xg7 (by first | omega | (have:=Own.lt xg7; omega))
   have zg8:=pg8.get zg7 (by first | omega | (have:=Own.lt zg7; omega))
   have eg8:=pg8.get eg7 (by first | omega | (have:=Own.lt eg7; omega))
   obtain ⟨k,rfl⟩:∃ k:Nat,x=k:=⟨x.toNat,by omega⟩
   obtain ⟨ic,oc,hkc,ha,hicl,_,cg8,_⟩:=(d.kp Kg8 hib).rep.class (k:=k) (by omega)
   subst ha
   have hcl:=(ws.cs _ (List.getElem_mem hkc)).1
   simp only [Zar,Zao xg8,Zao xg7,Zav,Int.toNat_natCast,Nat.add_zero,cg8,Zal,true_and,eq_self,List.getElem?_cons_zero]
   refine ⟨⟨by omega,by omega⟩,?_⟩
   generalize hg9:g8 ++ [Zcd.cells Zac [.str [],.str [],.slice none 0 0 true] false]=g9
   have sg9:Zbc g8.length g8 g9:=by rw [← hg9]; exact Zam
   have lg9:g9.length=g8.length + 1:=by rw [← hg9]; simp
   have Kg9:=Kg8.trans (Zdu.of_same (i:=i) sg9)
   have Rg9:=Rg8.same sg9
   have xg9:=sg9.get xg8 (Own.lt xg8)
   have zg9:=sg9.get zg8 (Own.lt zg8)
   have ig9:g9[g8.length]?=some (.cells Zac [.str [],.str [],.slice none 0 0 true] false):=by rw [← hg9]; simp
   have eg9:=sg9.get eg8 (Own.lt eg8)
   have qg9:=Own.lt xg8
   have cg9:Zag g9 (.ptr (some (ic,oc + k * 2)))=some (.str w.cs[k].1):=by rw [← hg9,Zsw (by omega)]; exact cg8
   try simp only [Zao xg9,Zao xg8,cg9,cg8,true_and,eq_self,List.getElem?_cons_zero]
   exact fin g9 g8.length g1.length _ _ Kg9 Rg9 (by omega) (by omega) xg9 zg9 eg9 ig9 (by omega) (by omega) hcl
  ·
   generalize hg10:g7 ++ [Zcd.cells Zac [.str [],.str [],.slice none 0 0 true] false]=g10
   have sg10:Zbc g7.length g7 g10:=by rw [← hg10]; exact Zam
   have lg10:g10.length=g7.length + 1:=by rw [← hg10]; simp
   have Kg10:=Kg7.trans (Zdu.of_same (i:=i) sg10)
   have Rg10:=Rg7.same sg10
   have xg10:=sg10.get xg7 (Own.lt xg7)
   have zg10:=sg10.get zg7 (Own.lt zg7)
   have ig10:g10[g7.length]?=some (.cells Zac [.str [],.str [],.slice none 0 0 true] false):=by rw [← hg10]; simp
   have eg10:=sg10.get eg7 (Own.lt eg7)
   have qg10:=Own.lt xg7
   try simp only [Zao xg10,Zao xg7,true_and,eq_self,List.getElem?_cons_zero]
   refine (Zcu Rg10 (by omega) (n0:Int)).mono ?_
   rintro v g11 ⟨x,rfl,hx0,hx1,_,pg11,Rg11,lg11⟩
   have hx1:=hx1 (by omega)
   have qg11:=Own.lt xg10
   have q2g11:=Own.lt zg10
   have Kg11:=Kg10.trans pg11
   have xg11:=pg11.get xg10 (by first | omega | (have:=Own.lt xg10; omega))
   have zg11:=pg11.get zg10 (by first | omega | (have:=Own.lt zg10; omega))
   have eg11:=pg11.get eg10 (by first | omega | (have:=Own.lt eg10; omega))
   have ig11:=pg11.get ig10 (by first | omega | (have:=Own.lt ig10; omega))
   obtain ⟨k,rfl⟩:∃ k:Nat,x=k:=⟨x.toNat,by omega⟩
   obtain ⟨ic,oc,hkc,ha,hicl,_,cg11,_⟩:=(d.kp Kg11 hib).rep.class (k:=k) (by omega)
   subst ha
   have hcl:=(ws.cs _ (List.getElem_mem hkc)).1
   simp only [Zar,Zao xg11,Zao xg10,Zav,Int.toNat_natCast,Nat.add_zero,cg11,Zal,true_and,eq_self,List.getElem?_cons_zero]
   refine ⟨⟨by omega,by omega⟩,?_⟩
   exact fin g11 g7.length g1.length _ _ Kg11 Rg11 (by omega) (by omega) xg11 zg11 eg11 ig11 (by omega) (by omega) hcl
 ·
  generalize hg12:g1 ++ [Zcd.cells Zac [.str [],.str [],.slice none 0 0 true] false]=g12
  have sg12:Zbc g1.length g1 g12:=by rw [← hg12]; exact Zam
  have lg12:g12.length=g1.length + 1:=by rw [← hg12]; simp
  have Kg12:=Kg1.trans (Zdu.of_same (i:=i) sg12)
  have Rg12:=Rg1.same sg12
  have xg12:=sg12.get xg1 (Own.lt xg1)
  have zg12:=sg12.get zg1 (Own.lt zg1)
  have ig12:g12[g1.length]?=some (.cells Zac [.str [],.str [],.slice none 0 0 true] false):=by rw [← hg12]; simp
  have qg12:=Own.lt xg1
  try simp only [Zao xg12,Zao xg1,true_and,eq_self,List.getElem?_cons_zero]
  refine ⟨?_,?_⟩
  ·
   refine (Zcu Rg12 (by omega) (n0:Int)).mono ?_
   rintro v g13 ⟨x,rfl,hx0,hx1,_,pg13,Rg13,lg13⟩
   have hx1:=hx1 (by omega)
   have qg13:=Own.lt xg12
   have q2g13:=Own.lt zg12
   have Kg13:=Kg12.trans pg13
   have xg13:=pg13.get xg12 (by first | omega | (have:=Own.lt xg12; omega))
   have zg13:=pg13.get zg12 (by first | omega | (have:=Own.lt zg12; omega))
   have ig13:=pg13.get ig12 (by first | omega | (have:=Own.lt ig12; omega))
   obtain ⟨k,rfl⟩:∃ k:Nat,x=k:=⟨x.toNat,by omega⟩
   obtain ⟨ic,oc,hkc,ha,hicl,_,cg13,_⟩:=(d.kp Kg13 hib).rep.class (k:=k) (by omega)
   subst ha
   have hcl:=(ws.cs _ (List.getElem_mem hkc)).1
   simp only [Zar,Zao xg13,Zao xg12,Zav,Int.toNat_natCast,Nat.add_zero,cg13,Zal,true_and,eq_self,List.getElem?_cons_zero]
   refine ⟨⟨by omega,by omega⟩,?_⟩
   generalize hg14:g13 ++ [Zcd.cells Zad [] false]=g14
   have sg14:Zbc g13.length g13 g14:=by rw [← hg14]; exact Zam
   have lg14:g14.length=g13.length + 1:=by rw [← hg14]; simp
   have Kg14:=Kg13.trans (Zdu.of_same (i:=i) sg14)
   have Rg14:=Rg13.same sg14
   have xg14:=sg14.get xg13 (Own.lt xg13)
   have zg14:=sg14.get zg13 (Own.lt zg13)
   have eg14:g14[g13.length]?=some (.cells Zad [] false):=by rw [← hg14]; simp
   have ig14:=sg14.get ig13 (Own.lt ig13)
   have qg14:=Own.lt xg13
   have cg14:Zag g14 (.ptr (some (ic,oc + k * 2)))=some (.str w.cs[k].1):=by rw [← hg14,Zsw (by omega)]; exact cg13
   try simp only [Zao xg14,Zao xg13,cg14,cg13,true_and,eq_self,List.getElem?_cons_zero]
   exact fin g14 g1.length g13.length _ _ Kg14 Rg14 (by omega) (by omega) xg14 zg14 eg14 ig14 (by omega) (by omega) hcl
  ·
   generalize hg15:g12 ++ [Zcd.cells Zad [] false]=g15
   have sg15:Zbc g12.length g12 g15:=by rw [← hg15]; exact Zam
   have lg15:g15.length=g12.length + 1:=by rw [← hg15]; simp
   have Kg15:=Kg12.trans (Zdu.of_same (i:=i) sg15)
   have Rg15:=Rg12.same sg15
   have xg15:=sg15.get xg12 (Own.lt xg12)
   have zg15:=sg15.get zg12 (Own.lt zg12)
   have eg15:g15[g12.length]?=some (.cells Zad [] false):=by rw [← hg15]; simp
   have ig15:=sg15.get ig12 (Own.lt ig12)
   have qg15:=Own.lt xg12
   try simp only [Zao xg15,Zao xg12,true_and,eq_self,List.getElem?_cons_zero]
   refine (Zcu Rg15 (by omega) (n0:Int)).mono ?_
   rintro v g16 ⟨x,rfl,hx0,hx1,_,pg16,Rg16,lg16⟩
   have hx1:=hx1 (by omega)
   have qg16:=Own.lt xg15
   have q2g16:=Own.lt zg15
   have Kg16:=Kg15.trans pg16
   have xg16:=pg16.get xg15 (by first | omega | (have:=Own.lt xg15; omega))
   have zg16:=pg16.get zg15 (by first | omega | (have:=Own.lt zg15; omega))
   have eg16:=pg16.get eg15 (by first | omega | (have:=Own.lt eg15; omega))
   have ig16:=pg16.get ig15 (by first | omega | (have:=Own.lt ig15; omega))
   obtain ⟨k,rfl⟩:∃ k:Nat,x=k:=⟨x.toNat,by omega⟩
   obtain ⟨ic,oc,hkc,ha,hicl,_,cg16,_⟩:=(d.kp Kg16 hib).rep.class (k:=k) (by omega)
   subst ha
   have hcl:=(ws.cs _ (List.getElem_mem hkc)).1
   simp only [Zar,Zao xg16,Zao xg15,Zav,Int.toNat_natCast,Nat.add_zero,cg16,Zal,true_and,eq_self,List.getElem?_cons_zero]
   refine ⟨⟨by omega,by omega⟩,?_⟩
   exact fin g16 g1.length g12.length _ _ Kg16 Rg16 (by omega) (by omega) xg16 zg16 eg16 ig16 (by omega) (by omega) hcl
--END ORDERS
end Go.Sim

set_option linter.unusedVariables false
set_option linter.unusedSimpArgs false
set_option maxRecDepth 20000
namespace Go.Sim
open Go Go.RowKit

theorem WDr.setW {b:Nat} {h:Zaa} {a0:Pt} {n0 c0 q n1 c1:Nat} {ys:List EI} {w:Wd} {z:Nat} {cs:List Zau} {x:Zcd} (d:WDr b h a0 n0 c0 q n1 c1 ys w) (hz:h[z]?=some (.cells Zab cs false)):WDr b (h.set z x) a0 n0 c0 q n1 c1 ys w:=by
 have off:∀ {j:Nat} {t:TypeId} {c:List Zau},h[j]?=some (.cells t c false)→t≠Zab→(h.set z x)[j]?=some (.cells t c false):=fun {j t c} hj hne=>by rw [Zbs (Zfn hz hj (Ne.symm hne))]; exact hj
 exact ⟨⟨d.cls.1,d.cls.2.imp id fun ⟨i,ha,hb,hi⟩=>⟨i,ha,hb,off hi (by decide)⟩⟩,d.le0,d.bq,off d.ob (by decide),d.len,d.wl,d.le1,fun k x' i hx hi=>⟨(d.need k x' i hx hi).1,(d.need k x' i hx hi).2.1,⟨(d.need k x' i hx hi).2.2.1,(d.need k x' i hx hi).2.2.2.imp id fun ⟨i,ha,hb,hi⟩=>⟨i,ha,hb,off hi (by decide)⟩⟩⟩⟩
theorem RdK.setW {i p k z:Nat} {h h':Zaa} {x:Zcd} (r:RdK i p k h h') (hz:h.length≤z) (hi:i < h.length):RdK i p k h (h'.set z x):=
 ⟨⟨by have:=r.1.le; simp; omega,fun j hj hji=>by rw [Zbs (by omega)]; exact r.1.eq j hj hji⟩,r.2.imp fun p' ⟨h1,h2,h3⟩=>⟨h1,h2,h3.agree (fun j hj=>Zbs (by omega)) (by simp)⟩⟩
def DWQ (i p k m:Nat) (h:Zaa) (v:Zau) (h':Zaa):Prop:=∃ u w,v=.agg u∧Yug h h' u w∧WS m w∧RdK i p k h h'
theorem Ykj {h:Zaa} {i p:Nat} (r:Rdr h i p) (hp:p≤700000000000):Zah pg Zqi [.ptr (some (i,0))] h (DWQ i p 100000 1010 h):=by
 have hil:=r.lt
 apply Zkk.call
 simp only [Zaw]
 generalize hg0:h ++ [Zcd.cells Zab [.slice none 0 0 true,.slice none 0 0 true] false]=g0
 have s0:Zbc h.length h g0:=by rw [← hg0]; exact Zam
 have z0:g0[h.length]?=some (.cells Zab [.slice none 0 0 true,.slice none 0 0 true] false):=by rw [← hg0]; simp
 have l0:g0.length=h.length + 1:=by rw [← hg0]; simp
 refine (Zcu (r.same s0) (by omega) 2).mono ?_
 rintro v g1 ⟨x,rfl,_,_,_,K1,R1,l1⟩
 have z1:=K1.get z0 (by omega)
 have KK1:=(Zdu.of_same (i:=i) s0).trans K1
 simp only [Zar]
 refine Zcx (fun _=>?_) (fun _=>?_)
 ·refine (Zcu R1 (by omega) 9).mono ?_
  rintro v g2 ⟨y,rfl,hy0,hy1,_,K2,R2,l2⟩
  simp only [Zar]
  refine (Yjs hy0 (hy1 (by omega))).mono ?_
  rintro v g3 ⟨s3,u,w,rfl,⟨a0,n0,c0,e0,q,n1,c1,e1,ys,rfl,d⟩,ws⟩
  have z3:=s3.get (K2.get z1 (by omega)) (by have:=Own.lt z1; omega)
  have K3:=(KK1.trans K2).trans (Zdu.of_same s3)
  simp only [Zdd,Zaf,Zae,Zan]
  rw [Zbd z3 (by simp)]
  simp only [Zas,putRow,List.take_zero,List.length_cons,List.length_nil,List.drop_succ_cons,List.drop_zero,List.drop_nil,List.cons_append,List.nil_append,List.append_nil,Nat.zero_add]
  rw [Zbk (Zbz z3)]
  simp only [Zaq,Zaf,Zan,Zae]
  have rk:RdK i p 100000 h g3:=⟨K3,_,by omega,by omega,R2.same s3⟩
  exact ⟨_,w,rfl,⟨a0,n0,c0,e0,q,n1,c1,e1,ys,rfl,(d.low (by omega)).setW z3⟩,ws.mono (by omega),rk.setW (Nat.le_refl _) hil⟩
 ·have h1l:=R1.lt
  refine (Zmr (R1.app _) (by omega) (j:=g1.length) (t:=Zbe) (n:=5) (l:=Zus) (by simp [Zdn,eS,Zus]) (by omega) rfl (by omega)).mono ?_
  rintro v g2 ⟨s,hs,rfl,K2,R2,l2⟩
  simp only [Zal]
  have hsz:s.length≤900∧∀ b∈s,b < 256:=by
   simp only [Zus,List.mem_cons,List.not_mem_nil,or_false] at hs
   rcases hs with rfl | rfl | rfl | rfl | rfl <;> exact ⟨by decide,by decide⟩
  obtain ⟨hcs,his⟩:=Yrr s hs
  have K02:=(KK1.trans (Zdu.app i g1 [Zcd.cells Zbe [.str [69],.str [69,32,79,60,69],.str [65,32,66],.str [65,32,66,60,65,32,67,60,65,66],.str [69,32,79,60,69,32,83]] false])).trans K2
  have z2:=K2.get (Zgl z1) (by omega)
  refine (Ztd s hsz.1 hsz.2).mono ?_
  rintro v g3 ⟨s3,u,bb,rfl,a0,n0,c0,e0,q,n1,c1,e1,ys,rfl,d⟩
  have z3:=s3.get z2 (Own.lt z2)
  have K03:=K02.trans (Zdu.of_same s3)
  simp only [Zct,Zdd,Zaf,Zae,Zan,Zap]
  rw [Zfk]
  simp only [Zas]
  generalize hg4:g3 ++ [Zcd.cells Zab [.slice a0 n0 c0 e0,.slice (some (q,0)) n1 c1 e1] false]=g4
  have s4:Zbc g3.length g3 g4:=by rw [← hg4]; exact Zam
  have y4:g4[g3.length]?=some (.cells Zab [.slice a0 n0 c0 e0,.slice (some (q,0)) n1 c1 e1] false):=by rw [← hg4]; simp
  have z4:=s4.get z3 (Own.lt z3)
  have K04:=K03.trans (Zdu.of_same s4)
  have hz2:=Own.lt z2
  have l3:=s3.le
  have hiz:i≠g3.length:=by omega
  refine (Zcu ((R2.same s3).same s4) (by omega) 6).mono ?_
  rintro v g5 ⟨x5,rfl,hx50,hx51,_,K5,R5,l5⟩
  have hx51:=hx51 (by omega)
  simp only [Zar]
  rw [IntWalk.i64_in (1 + x5) (by omega)]
  have y5:=K5.get y4 (by omega)
  have z5:=K5.get z4 (by omega)
  have K05:=K04.trans K5
  have ws0:=Zyz hsz.1 hsz.2
  have hn0:1≤n0:=by
   have:=d.cls.1
   have h2:(wdP s).cs.length≠0:=fun e=>hcs (List.eq_nil_of_length_eq_zero e)
   omega
  have d5:WDr h.length g5 a0 n0 c0 q n1 c1 ys (wdP s):=(((d.low (by omega)).same s4)).kp K5 (by omega)
  refine Zkk.L5ind (J:=fun (g:Nat) x21 k=>x21=(g:Int)∧(g:Int)≤1 + x5∧Zdu i h k∧(∃ p',p≤p'∧p'≤p + 10 + g * 10000∧Rdr k i p')∧k[h.length]?=some (.cells Zab [.slice none 0 0 true,.slice none 0 0 true] false) ∧
    ∃ q n1 c1 e1 ys w,k[g3.length]?=some (.cells Zab [.slice a0 n0 c0 e0,.slice (some (q,0)) n1 c1 e1] false)∧WDr h.length k a0 n0 c0 q n1 c1 ys w∧WS (1000 + g) w) (m:=fun g=>(1 + x5).toNat - g) (hr:=?_) (g:=0)
   (hj:=⟨rfl,by omega,K05,⟨_,by omega,by omega,R5⟩,z5,q,n1,c1,e1,ys,_,y5,d5,ws0⟩) ..
  rintro g x21 k ⟨rfl,hg,Kk,⟨p4,hp1,hp2,Rk⟩,zk,q,n1,c1,e1,ys,w,yk,dk,wsk⟩ R hR
  have hkl:=Rk.lt
  have hyl:=Own.lt yk
  have hn1:n1≤2000:=by have:=wsk.li; have:=dk.wl; omega
  unfold Zkk.L5t
  refine Zat (fun hlt=>?_) (fun hge=>?_)
  ·simp only [Zao yk,Nat.zero_add,List.getElem?_cons_succ,List.getElem?_cons_zero,Zae]
   rw [Zbk yk]
   simp only [Zaq,Zaf,Zan,Zae,true_and]
   refine (Zvh Rk (by omega) dk (by omega) hn0 wsk).mono ?_
   rintro v k1 ⟨I,na,nc,ne,rfl,hnc,nf,isz,K1',p5,hp3,hp4,R5'⟩
   have yk1:=K1'.get yk (by omega)
   have zk1:=K1'.get zk (by omega)
   have dk1:=dk.kp K1' (by omega)
   have hk1l:=K1'.le
   simp only [Zdd,Zaf,Zan,Zal,Zae,Zaw]
   refine ⟨by rw [Zao yk1]; rfl,by rw [Zao (Zgl yk1),Zao yk1],?_⟩
   refine (Vec.mk1 (n:=n1) (c:=c1) dk1.ob).pushN (sz:=3) Zqu Zyn Zyh Zyt (by rw [Zay Zpj,dk1.len]) rfl (by omega) rfl (by omega) (fun k2 hl2 hi2 hk2=>?_)
   have hqb:=dk1.bq
   have yk2:k2[g3.length]?=some (.cells Zab [.slice a0 n0 c0 e0,.slice (some (q,0)) n1 c1 e1] false):=by rw [hk2 _ (Own.lt yk1) (fun i hi=>by cases hi; exact Zfn yk1 dk1.ob (by decide))]; exact yk1
   have zk2:k2[h.length]?=some (.cells Zab [.slice none 0 0 true,.slice none 0 0 true] false):=by rw [hk2 _ (Own.lt zk1) (fun i hi=>by cases hi; exact Zfn zk1 dk1.ob (by decide))]; exact zk1
   simp only [Zae]
   rw [Zbd yk2 (by simp)]
   simp only [Zas,putRow,List.take_succ_cons,List.take_zero,List.length_cons,List.length_nil,List.drop_succ_cons,List.drop_zero,List.drop_nil,List.cons_append,List.nil_append,List.append_nil]
   rw [Zbl (by omega)]
   have dk2:WDr h.length k2 a0 n0 c0 (k1.length + 1) (n1 + 1) (n1 + 1) (ys ++ [⟨I.1.1,I.1.2,na,I.2.length,nc,ne⟩]) ⟨w.cs,w.is ++ [I]⟩:=
    dk1.push (z:=q) (x:=⟨I.1.1,I.1.2,na,I.2.length,nc,ne⟩) ⟨rfl,rfl,nf.low (by omega)⟩ (by omega) (by simpa [eN] using hi2) (fun o ho=>by rw [dk1.ob] at ho; cases ho; exact ⟨_,rfl⟩) (fun j hj hne=>hk2 j hj (fun i hi=>by cases hi; exact hne)) (Nat.le_refl _)
   have K2':Zdu i h k2:=by
    have K01:=Kk.trans K1'
    have:=K01.le
    exact ⟨by omega,fun j hj hji=>by rw [hk2 j (by omega) (fun i' hi'=>by cases hi'; omega)]; exact K01.eq j hj hji⟩
   have rk:RdK i p (10 + (g + 1) * 10000) h k2:=⟨K2',p5,by omega,by omega,R5'.agree (fun j hj=>hk2 j (by omega) (fun i' hi'=>by cases hi'; omega)) (by omega)⟩
   obtain ⟨K3',p6,hp5,hp6,R6⟩:=rk.setW (z:=g3.length) (x:=.cells Zab [.slice a0 n0 c0 e0,.slice (some (k1.length + 1,0)) (n1 + 1) (n1 + 1) false] false) (by omega) hil
   exact hR (g + 1) _ _ (by omega) ⟨rfl,by omega,K3',⟨p6,hp5,by omega,R6⟩,by rw [Zbs (by omega)]; exact zk2,k1.length + 1,n1 + 1,n1 + 1,false,_,_,Zbz yk2,dk2.setW yk2,wsk.addI isz⟩
  ·apply Zkk.A5x0i
   rw [Zbk yk]
   simp only [Zaq,Zaf,Zan,Zae]
   rw [Zbd zk (by simp)]
   simp only [Zas,putRow,List.take_zero,List.length_cons,List.length_nil,List.drop_succ_cons,List.drop_zero,List.drop_nil,List.cons_append,List.nil_append,List.append_nil,Nat.zero_add]
   rw [Zbk (Zbz zk)]
   simp only [Zaq,Zaf,Zan,Zae]
   have rk:RdK i p 100000 h k:=⟨Kk,p4,hp1,by omega,Rk⟩
   exact ⟨_,w,rfl,⟨a0,n0,c0,e0,q,n1,c1,e1,ys,rfl,dk.setW zk⟩,wsk.mono (by omega),rk.setW (Nat.le_refl _) hil⟩
end Go.Sim

set_option linter.unusedVariables false
set_option linter.unusedSimpArgs false
set_option maxRecDepth 20000
namespace Go.Sim
open Go Go.RowKit

def WAt (b:Nat) (h:Zaa) (u:List Zau) (w:Wd):Prop:=∃ a0 n0 c0 e0 q n1 c1 e1 ys,u=[.slice a0 n0 c0 e0,.slice (some (q,0)) n1 c1 e1]∧WDr b h a0 n0 c0 q n1 c1 ys w
theorem RdK.trans {i p k k' p':Nat} {h h1 h2:Zaa} (a:Zdu i h h1) (hp:p≤p') (hk:p' + k'≤p + k) (r:RdK i p' k' h1 h2):RdK i p k h h2:=⟨a.trans r.1,r.2.imp fun q ⟨h1,h2,h3⟩=>⟨by omega,by omega,h3⟩⟩
theorem WDr.newCls {b:Nat} {h h':Zaa} {a0:Pt} {n0 c0 q n1 c1:Nat} {ys:List EI} {w:Wd} (d:WDr b h a0 n0 c0 q n1 c1 ys w) (off:∀ {j:Nat} {t:TypeId} {cs:List Zau},t≠Zbf→t≠Zab→h[j]?=some (.cells t cs false)→h'[j]?=some (.cells t cs false))
  {y n c:Nat} {cs':List Nd} (hy:h'[y]?=some (.cells Zbf (Zdn eP cs') false)) (hb:b≤y) (hn:cs'.length=n) (hc:n≤c):WDr b h' (some (y,0)) n c q n1 c1 ys ⟨cs',w.is⟩:=
 ⟨⟨hn,.inr ⟨y,rfl,hb,hy⟩⟩,hc,d.bq,off (by decide) (by decide) d.ob,d.len,d.wl,d.le1,fun k x i hx hi=>⟨(d.need k x i hx hi).1,(d.need k x i hx hi).2.1,⟨(d.need k x i hx hi).2.2.1,(d.need k x i hx hi).2.2.2.imp id fun ⟨j,ha,hb,hj⟩=>⟨j,ha,hb,off (by decide) (by decide) hj⟩⟩⟩⟩
theorem Ypp {h:Zaa} {i p b m:Nat} {a0:Pt} {n0 c0 q n1 c1:Nat} {e0 e1:Bool} {ys:List EI} {w:Wd} (r:Rdr h i p) (hp:p≤800000000000) (d:WDr b h a0 n0 c0 q n1 c1 ys w) (hib:i < b) (hbh:b≤h.length) (ws:WS m w) (hm:m≤100000) :
  Zah pg Zrw [.ptr (some (i,0)),.agg [.slice a0 n0 c0 e0,.slice (some (q,0)) n1 c1 e1]] h fun v h'=>∃ u w',v=.agg u∧WAt b h' u w'∧WS (m + 11) w'∧RdK i p 100 h h':=by
 have hil:=r.lt
 have hn0:n0≤100000:=by have:=ws.lc; have:=d.cls.1; omega
 have hn1:n1≤100000:=by have:=ws.li; have:=d.wl; omega
 apply Zhs.call
 simp only [Zaw]
 generalize hg0:h ++ [Zcd.cells Zab [.slice a0 n0 c0 e0,.slice (some (q,0)) n1 c1 e1] false]=g0
 have s0:Zbc h.length h g0:=by rw [← hg0]; exact Zam
 have x0:g0[h.length]?=some (.cells Zab [.slice a0 n0 c0 e0,.slice (some (q,0)) n1 c1 e1] false):=by rw [← hg0]; simp
 have l0:g0.length=h.length + 1:=by rw [← hg0]; simp
 generalize hg1:g0 ++ [Zcd.cells Zab [.slice none 0 0 true,.slice none 0 0 true] false]=g1
 have s1:Zbc g0.length g0 g1:=by rw [← hg1]; exact Zam
 have x1:=s1.get x0 (Own.lt x0)
 have z1:g1[g0.length]?=some (.cells Zab [.slice none 0 0 true,.slice none 0 0 true] false):=by rw [← hg1]; simp
 have l1:g1.length=g0.length + 1:=by rw [← hg1]; simp
 have S1:=s0.cat s1
 refine (Zcu (r.same S1) (by omega) 36).mono ?_
 rintro v g3 ⟨x,rfl,_,_,_,K3,R3,l3⟩
 have x3:=K3.get x1 (by omega)
 have z3:=K3.get z1 (by omega)
 have KK3:=(Zdu.of_same (i:=i) S1).trans K3
 have d3:WDr b g3 a0 n0 c0 q n1 c1 ys w:=(d.same S1).kp K3 hib
 simp only [Zar]
 have fin:∀ (G:Zaa) (a0:Pt) (n0 c0:Nat) (e0:Bool) (q n1 c1:Nat) (e1:Bool) (ys:List EI) (w':Wd) (p':Nat),Zdu i h G→Rdr G i p'→p≤p'→p'≤p + 100→G[h.length]?=some (.cells Zab [.slice a0 n0 c0 e0,.slice (some (q,0)) n1 c1 e1] false)→G[g0.length]?=some (.cells Zab [.slice none 0 0 true,.slice none 0 0 true] false) →
   WDr b G a0 n0 c0 q n1 c1 ys w'→WS (m + 11) w'→Zhs.J11 (fun v h'=>∃ u w',v=.agg u∧WAt b h' u w'∧WS (m + 11) w'∧RdK i p 100 h h') h.length 0 g0.length 0 G:=by
  intro G a0 n0 c0 e0 q n1 c1 e1 ys w' p' KG RG h1 h2 xG zG dG wG
  apply Zhs.J11i
  rw [Zbk xG]
  simp only [Zaq,Zaf,Zan,Zae]
  rw [Zbd zG (by simp)]
  simp only [Zas,putRow,List.take_zero,List.length_cons,List.length_nil,List.drop_succ_cons,List.drop_zero,List.drop_nil,List.cons_append,List.nil_append,List.append_nil,Nat.zero_add]
  rw [Zbk (Zbz zG)]
  simp only [Zaq,Zaf,Zan,Zae]
  have rk:RdK i p 100 h G:=⟨KG,p',h1,h2,RG⟩
  exact ⟨_,w',rfl,⟨a0,n0,c0,e0,q,n1,c1,e1,ys,rfl,dG.setW zG⟩,wG,rk.setW (by omega) hil⟩
 have h3l:=R3.lt
 have hx3l:=Own.lt x3
 have hz3l:=Own.lt z3
 refine Zcx (fun _=>?_) (fun _=>Zcx (fun _=>?_) (fun _=>Zcx (fun _=>?_) (fun _=>?_)))
 ·-- one class more
  generalize hg5:g3 ++ [Zcd.cells Zbf [] false]=g5
  have s5:Zbc g3.length g3 g5:=by rw [← hg5]; exact Zam
  have c5:g5[g3.length]?=some (.cells Zbf [] false):=by rw [← hg5]; simp
  have l5:g5.length=g3.length + 1:=by rw [← hg5]; simp
  have x5:=s5.get x3 hx3l
  have z5:=s5.get z3 hz3l
  have d5:=d3.same s5
  have R5:=R3.same s5
  simp only [Zao x5,Nat.zero_add,List.getElem?_cons_zero,Zae]
  refine Vec.app0 (n:=0) (e:=true) c5 Zxi Yhe Yhy Ygz (by simp) ((d5.cls.row Zeb).rowOf) (Zru (enc:=eP) (fun _=>rfl) w.cs) (by omega) (fun g6 hl6 hi6 hk6=>?_)
  have keep6:∀ {j:Nat} {o:Zcd},g5[j]?=some o→j≠g3.length→g6[j]?=some o:=fun {j o} hj hne=>by rw [hk6 j (Own.lt hj) hne]; exact hj
  have x6:=keep6 x5 (by omega)
  have z6:=keep6 z5 (by omega)
  have d6:WDr b g6 a0 n0 c0 q n1 c1 ys w:=d3.keep fun j hj hjl=>by rw [hk6 j (by omega) (by omega),s5.eq j hjl]
  have K6:Zdu i h g6:=by
   have:=(KK3.trans (Zdu.of_same s5)).le
   exact ⟨by omega,fun j hj hji=>by rw [hk6 j (by omega) (by have:=KK3.le; omega)]; exact (KK3.trans (Zdu.of_same s5)).eq j hj hji⟩
  have R6:Rdr g6 i (p + 1):=R5.agree (fun j hj=>hk6 j (by omega) (by omega)) (by omega)
  have i6:g6[g5.length]?=some (.cells Zbf (Zdn eP w.cs) false):=by simpa using hi6
  simp only [Zae]
  have h6l:=R6.lt
  refine (Zmr (R6.app _) (by omega) (j:=g6.length) (t:=Zbe) (n:=4) (l:=[[69],[73],[],[72]]) (by simp [Zdn,eS]) (by omega) rfl (by omega)).mono ?_
  rintro v g7 ⟨s,hs,rfl,K7,R7,l7⟩
  simp only [Zal]
  have hsz:s.length≤1000∧∀ b∈s,b < 256:=by
   simp only [List.mem_cons,List.not_mem_nil,or_false] at hs
   rcases hs with rfl | rfl | rfl | rfl <;> exact ⟨by decide,by decide⟩
  have h7l:=R7.lt
  refine (Zmr (R7.app _) (by omega) (j:=g7.length) (t:=Zbe) (n:=4) (l:=[[],[69],[72],[90]]) (by simp [Zdn,eS]) (by omega) rfl (by omega)).mono ?_
  rintro v g8 ⟨s',hs',rfl,K8,R8,l8⟩
  simp only [Zal]
  have hsz':s'.length≤1000:=by
   simp only [List.mem_cons,List.not_mem_nil,or_false] at hs'
   rcases hs' with rfl | rfl | rfl | rfl <;> decide
  have K68:Zdu i g6 g8:=(((Zdu.app i g6 _).trans K7).trans (Zdu.app i g7 _)).trans K8
  have x8:=K68.get x6 (by omega)
  have z8:=K68.get z6 (by omega)
  have i8:=K68.get i6 (by omega)
  have d8:=d6.kp K68 hib
  have hlcs:w.cs.length=n0:=d.cls.1
  refine (Vec.mk1 (n:=0 + n0) (c:=0 + n0) i8).pushN (sz:=2) Zxi Yhe Yhy Ygz (by rw [Zay Zeb]; omega) rfl (by omega) rfl (by omega) (fun g9 hl9 hi9 hk9=>?_)
  have keep9:∀ {j:Nat} {o:Zcd},g8[j]?=some o→j≠g5.length→g9[j]?=some o:=fun {j o} hj hne=>by rw [hk9 j (Own.lt hj) (fun i hi=>by cases hi; exact hne)]; exact hj
  have x9:=keep9 x8 (by omega)
  have z9:=keep9 z8 (by omega)
  have KK8:=K6.trans K68
  have hKl:=KK8.le
  simp only [Zae]
  rw [Zbd x9 (by simp)]
  simp only [Zas,putRow,List.take_zero,List.length_cons,List.length_nil,List.drop_succ_cons,List.drop_zero,List.drop_nil,List.cons_append,List.nil_append,List.append_nil]
  have hi9':(g9.set h.length (.cells Zab [.slice (some (g8.length + 1,0)) (0 + n0 + 1) (0 + n0 + 1) false,.slice (some (q,0)) n1 c1 e1] false))[g8.length + 1]?=some (.cells Zbf (Zdn eP (w.cs ++ [(s,s')])) false):=by rw [Zbs (by omega)]; simpa [eP] using hi9
  have rk:RdK i p 100 h g9:=⟨⟨by omega,fun j hj hji=>by rw [hk9 j (by omega) (fun i' hi'=>by cases hi'; have:=KK3.le; omega)]; exact KK8.eq j hj hji⟩,p + 1 + 1 + 1,by omega,by omega,R8.agree (fun j hj=>hk9 j (by omega) (fun i' hi'=>by cases hi'; omega)) (by omega)⟩
  obtain ⟨KW,pW,hW1,hW2,RW⟩:=rk.setW (z:=h.length) (x:=.cells Zab [.slice (some (g8.length + 1,0)) (0 + n0 + 1) (0 + n0 + 1) false,.slice (some (q,0)) n1 c1 e1] false) (Nat.le_refl _) hil
  exact fin _ _ _ _ _ _ _ _ _ ys ⟨w.cs ++ [(s,s')],w.is⟩ pW KW RW hW1 hW2 (Zbz x9) (by rw [Zbs (by omega)]; exact z9)
   (d8.newCls (fun {j t cs} h1 h2 hj=>by rw [Zbs (Zfn x9 (keep9 hj (Zfn hj i8 h1)) (Ne.symm h2))]; exact keep9 hj (Zfn hj i8 h1)) hi9' (by omega) (by simp; omega) (Nat.le_refl _)) ((ws.addC (p:=(s,s')) ⟨hsz.1,hsz',hsz.2⟩).mono (by omega))
 ·-- one instance more
  generalize hg5:g3 ++ [Zcd.cells Zac [] false]=g5
  have s5:Zbc g3.length g3 g5:=by rw [← hg5]; exact Zam
  have c5:g5[g3.length]?=some (.cells Zac [] false):=by rw [← hg5]; simp
  have l5:g5.length=g3.length + 1:=by rw [← hg5]; simp
  have x5:=s5.get x3 hx3l
  have z5:=s5.get z3 hz3l
  have d5:=d3.same s5
  have R5:=R3.same s5
  simp only [Zao x5,Nat.zero_add,List.getElem?_cons_succ,List.getElem?_cons_zero,Zae]
  have row5:rowOf g5 (some (q,0)) (n1 * 3)=some (Zdn eN ys):=((Vec.mk1 (n:=0) (c:=0) d5.ob).row (m:=n1 * 3) (by rw [Zay Zpj,d5.len])).rowOf
  refine Vec.app0 (n:=0) (e:=true) c5 Zqu Zyn Zyh Zyt (by simp) row5 (Zru (enc:=eN) (fun _=>rfl) ys) (by omega) (fun g6 hl6 hi6 hk6=>?_)
  have keep6:∀ {j:Nat} {o:Zcd},g5[j]?=some o→j≠g3.length→g6[j]?=some o:=fun {j o} hj hne=>by rw [hk6 j (Own.lt hj) hne]; exact hj
  have x6:=keep6 x5 (by omega)
  have z6:=keep6 z5 (by omega)
  have d6:WDr b g6 a0 n0 c0 q n1 c1 ys w:=d3.keep fun j hj hjl=>by rw [hk6 j (by omega) (by omega),s5.eq j hjl]
  have K6:Zdu i h g6:=by
   have:=(KK3.trans (Zdu.of_same s5)).le
   exact ⟨by omega,fun j hj hji=>by rw [hk6 j (by omega) (by have:=KK3.le; omega)]; exact (KK3.trans (Zdu.of_same s5)).eq j hj hji⟩
  have R6:Rdr g6 i (p + 1):=R5.agree (fun j hj=>hk6 j (by omega) (by omega)) (by omega)
  have i6:g6[g5.length]?=some (.cells Zac (Zdn eN ys) false):=by simpa using hi6
  simp only [Zae]
  have h6l:=R6.lt
  refine (Zmr (R6.app _) (by omega) (j:=g6.length) (t:=Zbe) (n:=3) (l:=[[69],[72],[65]]) (by simp [Zdn,eS]) (by omega) rfl (by omega)).mono ?_
  rintro v g7 ⟨s,hs,rfl,K7,R7,l7⟩
  simp only [Zal]
  have hsz1:s.length≤1000:=by
   simp only [List.mem_cons,List.not_mem_nil,or_false] at hs
   rcases hs with rfl | rfl | rfl <;> decide
  have h7l:=R7.lt
  refine (Zmr (R7.app _) (by omega) (j:=g7.length) (t:=Zbe) (n:=4) (l:=[[120],[113],[105],[108,40,120,41]]) (by simp [Zdn,eS]) (by omega) rfl (by omega)).mono ?_
  rintro v g8 ⟨s',hs',rfl,K8,R8,l8⟩
  simp only [Zal]
  have hsz2:s'.length≤1000:=by
   simp only [List.mem_cons,List.not_mem_nil,or_false] at hs'
   rcases hs' with rfl | rfl | rfl | rfl <;> decide
  have h8l:=R8.lt
  refine (Zmr (R8.app _) (by omega) (j:=g8.length) (t:=Zbe) (n:=3) (l:=[[69],[65],[72]]) (by simp [Zdn,eS]) (by omega) rfl (by omega)).mono ?_
  rintro v g9 ⟨s2,hs2,rfl,K9,R9,l9⟩
  simp only [Zal]
  have hsz3:s2.length≤1000:=by
   simp only [List.mem_cons,List.not_mem_nil,or_false] at hs2
   rcases hs2 with rfl | rfl | rfl <;> decide
  have h9l:=R9.lt
  refine (Zmr (R9.app _) (by omega) (j:=g9.length) (t:=Zbe) (n:=3) (l:=[[121],[105],[113]]) (by simp [Zdn,eS]) (by omega) rfl (by omega)).mono ?_
  rintro v ga ⟨s3,hs3,rfl,Ka,Ra,la⟩
  simp only [Zal]
  have hsz4:s3.length≤1000:=by
   simp only [List.mem_cons,List.not_mem_nil,or_false] at hs3
   rcases hs3 with rfl | rfl | rfl <;> decide
  have K6a:Zdu i g6 ga:=(((((((Zdu.app i g6 _).trans K7).trans (Zdu.app i g7 _)).trans K8).trans (Zdu.app i g8 _)).trans K9).trans (Zdu.app i g9 _)).trans Ka
  have hK6a:=K6a.le
  generalize hgb:ga ++ [Zcd.cells Zad [.str s2,.str s3] false]=gb
  have sb:Zbc ga.length ga gb:=by rw [← hgb]; exact Zam
  have nb:gb[ga.length]?=some (.cells Zad (Zdn eP [(s2,s3)]) false):=by rw [← hgb]; simp [eP]
  have lb:gb.length=ga.length + 1:=by rw [← hgb]; simp
  have K6b:=K6a.trans (Zdu.of_same sb)
  have xb:=K6b.get x6 (by omega)
  have zb:=K6b.get z6 (by omega)
  have ib:=K6b.get i6 (by omega)
  have db:=d6.kp K6b hib
  have Rb:=Ra.same sb
  have Kb:=K6.trans K6b
  have hKl:=Kb.le
  have hlI:ys.length=n1:=d.len
  have hKl3:=KK3.le
  refine (Vec.mk1 (n:=0 + n1) (c:=0 + n1) ib).pushN (sz:=3) Zqu Zyn Zyh Zyt (by rw [Zay Zpj]; omega) rfl (by omega) rfl (by omega) (fun gc hlc hic hkc=>?_)
  have keepc:∀ {j:Nat} {o:Zcd},gb[j]?=some o→j≠g5.length→gc[j]?=some o:=fun {j o} hj hne=>by rw [hkc j (Own.lt hj) (fun i hi=>by cases hi; exact hne)]; exact hj
  have xc:=keepc xb (by omega)
  have zc:=keepc zb (by omega)
  have dc:WDr b gc a0 n0 c0 (gb.length + 1) (n1 + 1) (0 + n1 + 1) (ys ++ [⟨s,s',some (ga.length,0),1,1,true⟩]) ⟨w.cs,w.is ++ [((s,s'),[(s2,s3)])]⟩:=
   db.push (z:=g5.length) (x:=⟨s,s',some (ga.length,0),1,1,true⟩) (i:=((s,s'),[(s2,s3)])) ⟨rfl,rfl,rfl,.inr ⟨ga.length,rfl,by omega,nb⟩⟩ (by omega) (by simpa [eN] using hic) (fun o ho=>by rw [ib] at ho; cases ho; exact ⟨_,rfl⟩) (fun j hj hne=>hkc j hj (fun i hi=>by cases hi; exact hne)) (by omega)
  simp only [Zae]
  rw [Zbd xc (by simp)]
  simp only [Zas,putRow,List.take_succ_cons,List.take_zero,List.length_cons,List.length_nil,List.drop_succ_cons,List.drop_zero,List.drop_nil,List.cons_append,List.nil_append,List.append_nil]
  have rk:RdK i p 100 h gc:=⟨⟨by omega,fun j hj hji=>by rw [hkc j (by omega) (fun i' hi'=>by cases hi'; omega)]; exact Kb.eq j hj hji⟩,_,by omega,by omega,Rb.agree (fun j hj=>hkc j (by omega) (fun i' hi'=>by cases hi'; omega)) (by omega)⟩
  obtain ⟨KW,pW,hW1,hW2,RW⟩:=rk.setW (z:=h.length) (x:=.cells Zab [.slice a0 n0 c0 e0,.slice (some (gb.length + 1,0)) (0 + n1 + 1) (0 + n1 + 1) false] false) (Nat.le_refl _) hil
  have e01:0 + n1 + 1=n1 + 1:=by omega
  rw [e01] at KW RW dc ⊢
  exact fin _ _ _ _ _ _ _ _ _ _ _ pW KW RW hW1 hW2 (Zbz xc) (by rw [Zbs (by omega)]; exact zc) (dc.setW xc) ((ws.addI (i:=((s,s'),[(s2,s3)])) ⟨hsz1,hsz2,by simp,fun q hq=>by simp at hq; subst hq; exact ⟨hsz3,hsz4⟩⟩).mono (by omega))
 ·-- ten instances more
  refine Zhs.L8ind (J:=fun (g:Nat) x50 k=>x50=(g:Int)∧g≤10∧Zdu i h k∧Rdr k i (p + 1)∧k[g0.length]?=some (.cells Zab [.slice none 0 0 true,.slice none 0 0 true] false) ∧
    ∃ q n1 c1 e1 ys w',k[h.length]?=some (.cells Zab [.slice a0 n0 c0 e0,.slice (some (q,0)) n1 c1 e1] false)∧WDr b k a0 n0 c0 q n1 c1 ys w'∧WS (m + g) w') (m:=fun g=>10 - g) (hr:=?_) (g:=0)
   (hj:=⟨rfl,by omega,KK3,R3,z3,q,n1,c1,e1,ys,w,x3,d3,ws⟩) ..
  rintro g x50 k ⟨rfl,hg,Kk,Rk,zk,q,n1,c1,e1,ys,w',xk,dk,wk'⟩ R hR
  have hkl:=Rk.lt
  have hxl:=Own.lt xk
  have hzl:=Own.lt zk
  have hn1':n1≤200000:=by have:=wk'.li; have:=dk.wl; omega
  unfold Zhs.L8t
  refine Zat (fun hlt=>?_) (fun hge=>?_)
  ·simp only [Zaw]
   generalize hg5:k ++ [Zcd.cells Zac [] false]=g5
   have s5:Zbc k.length k g5:=by rw [← hg5]; exact Zam
   have c5:g5[k.length]?=some (.cells Zac [] false):=by rw [← hg5]; simp
   have l5:g5.length=k.length + 1:=by rw [← hg5]; simp
   have x5:=s5.get xk hxl
   have z5:=s5.get zk hzl
   have d5:=dk.same s5
   have R5:=Rk.same s5
   simp only [Zao x5,Nat.zero_add,List.getElem?_cons_succ,List.getElem?_cons_zero,Zae]
   have row5:rowOf g5 (some (q,0)) (n1 * 3)=some (Zdn eN ys):=((Vec.mk1 (n:=0) (c:=0) d5.ob).row (m:=n1 * 3) (by rw [Zay Zpj,d5.len])).rowOf
   refine Vec.app0 (n:=0) (e:=true) c5 Zqu Zyn Zyh Zyt (by simp) row5 (Zru (enc:=eN) (fun _=>rfl) ys) (by omega) (fun g6 hl6 hi6 hk6=>?_)
   have keep6:∀ {j:Nat} {o:Zcd},g5[j]?=some o→j≠k.length→g6[j]?=some o:=fun {j o} hj hne=>by rw [hk6 j (Own.lt hj) hne]; exact hj
   have x6:=keep6 x5 (by omega)
   have z6:=keep6 z5 (by omega)
   have d6:WDr b g6 a0 n0 c0 q n1 c1 ys w':=dk.keep fun j hj hjl=>by rw [hk6 j (by omega) (by omega),s5.eq j hjl]
   have i6:g6[g5.length]?=some (.cells Zac (Zdn eN ys) false):=by simpa using hi6
   simp only [Zae]
   generalize hga:g6 ++ [Zcd.cells Zad [] false]=ga
   have sa:Zbc g6.length g6 ga:=by rw [← hga]; exact Zam
   have na:ga[g6.length]?=some (.cells Zad [] false):=by rw [← hga]; simp
   have la:ga.length=g6.length + 1:=by rw [← hga]; simp
   have xa:=sa.get x6 (Own.lt x6)
   have za:=sa.get z6 (Own.lt z6)
   have ia:=sa.get i6 (Own.lt i6)
   have da:=d6.same sa
   have hkb:=Kk.le
   have hlI:ys.length=n1:=dk.len
   refine (Vec.mk1 (n:=0 + n1) (c:=0 + n1) ia).pushN (sz:=3) Zqu Zyn Zyh Zyt (by rw [Zay Zpj]; omega) rfl (by omega) rfl (by omega) (fun gc hlc hic hkc=>?_)
   have keepc:∀ {j:Nat} {o:Zcd},ga[j]?=some o→j≠g5.length→gc[j]?=some o:=fun {j o} hj hne=>by rw [hkc j (Own.lt hj) (fun i hi=>by cases hi; exact hne)]; exact hj
   have xc:=keepc xa (by omega)
   have zc:=keepc za (by omega)
   have dc:WDr b gc a0 n0 c0 (ga.length + 1) (n1 + 1) (0 + n1 + 1) (ys ++ [⟨[69],[105],some (g6.length,0),0,0,true⟩]) ⟨w'.cs,w'.is ++ [(([69],[105]),[])]⟩:=
    da.push (z:=g5.length) (x:=⟨[69],[105],some (g6.length,0),0,0,true⟩) (i:=(([69],[105]),[])) ⟨rfl,rfl,rfl,.inl rfl⟩ (by omega) (by simpa [eN] using hic) (fun o ho=>by rw [ia] at ho; cases ho; exact ⟨_,rfl⟩) (fun j hj hne=>hkc j hj (fun i hi=>by cases hi; exact hne)) (by omega)
   simp only [Zae]
   rw [Zbd xc (by simp)]
   simp only [Zas,putRow,List.take_succ_cons,List.take_zero,List.length_cons,List.length_nil,List.drop_succ_cons,List.drop_zero,List.drop_nil,List.cons_append,List.nil_append,List.append_nil]
   rw [Zbl (by omega)]
   have low:∀ j,j < k.length→gc[j]?=k[j]?:=fun j hj=>by rw [hkc j (by omega) (fun i' hi'=>by cases hi'; omega),sa.eq j (by omega),hk6 j (by omega) (by omega),s5.eq j hj]
   have rk:RdK i (p + 1) 0 h gc:=⟨⟨by omega,fun j hj hji=>by rw [low j (by omega)]; exact Kk.eq j hj hji⟩,_,Nat.le_refl _,Nat.le_refl _,Rk.agree (fun j hj=>low j (by omega)) (by omega)⟩
   obtain ⟨KW,pW,hW1,hW2,RW⟩:=rk.setW (z:=h.length) (x:=.cells Zab [.slice a0 n0 c0 e0,.slice (some (ga.length + 1,0)) (0 + n1 + 1) (0 + n1 + 1) false] false) (Nat.le_refl _) hil
   have e01:0 + n1 + 1=n1 + 1:=by omega
   have ep:pW=p + 1:=by omega
   subst ep
   rw [e01] at KW RW dc ⊢
   exact hR (g + 1) _ _ (by omega) ⟨rfl,by omega,KW,RW,by rw [Zbs (by omega)]; exact zc,_,_,_,_,_,_,Zbz xc,dc.setW xc,wk'.addI (i:=(([69],[105]),[])) ⟨by simp,by simp,by simp,by simp⟩⟩
  ·apply Zhs.A8x1i
   exact fin k a0 n0 c0 e0 q n1 c1 e1 ys w' (p + 1) Kk Rk (by omega) (by omega) xk zk dk (wk'.mono (by omega))
 ·exact fin g3 a0 n0 c0 e0 q n1 c1 e1 ys w (p + 1) KK3 R3 (by omega) (by omega) x3 z3 d3 (ws.mono (by omega))
theorem Zue {h:Zaa} {i p:Nat} (r:Rdr h i p) (hp:p≤600000000000):Zah pg Zij [.ptr (some (i,0))] h (DWQ i p 200000 1021 h):=by
 have hil:=r.lt
 apply Zuq.call
 simp only [Zaw]
 generalize hg0:h ++ [Zcd.cells Zab [.slice none 0 0 true,.slice none 0 0 true] false]=g0
 have s0:Zbc h.length h g0:=by rw [← hg0]; exact Zam
 have z0:g0[h.length]?=some (.cells Zab [.slice none 0 0 true,.slice none 0 0 true] false):=by rw [← hg0]; simp
 have l0:g0.length=h.length + 1:=by rw [← hg0]; simp
 refine (Ykj (r.same s0) (by omega)).mono ?_
 rintro v g1 ⟨u,w,rfl,⟨a0,n0,c0,e0,q,n1,c1,e1,ys,rfl,d⟩,ws,K1,p1,hp1,hp2,R1⟩
 have z1:=K1.get z0 (by omega)
 have l1:=K1.le
 simp only [Zdd,Zaf,Zae,Zan]
 refine (Ypp R1 (by omega) (d.low (show h.length≤g0.length by omega)) hil (by omega) ws (by omega)).mono ?_
 rintro v g2 ⟨u,w',rfl,⟨a0,n0,c0,e0,q,n1,c1,e1,ys,rfl,d2⟩,ws2,K2,p2,hp3,hp4,R2⟩
 have z2:=K2.get z1 (by omega)
 simp only [Zdd,Zaf,Zae,Zan]
 rw [Zbd z2 (by simp)]
 simp only [Zas,putRow,List.take_zero,List.length_cons,List.length_nil,List.drop_succ_cons,List.drop_zero,List.drop_nil,List.cons_append,List.nil_append,List.append_nil,Nat.zero_add]
 rw [Zbk (Zbz z2)]
 simp only [Zaq,Zaf,Zan,Zae]
 have rk:RdK i p 200000 h g2:=⟨((Zdu.of_same s0).trans K1).trans K2,p2,by omega,by omega,R2⟩
 exact ⟨_,w',rfl,⟨a0,n0,c0,e0,q,n1,c1,e1,ys,rfl,d2.setW z2⟩,ws2,rk.setW (Nat.le_refl _) hil⟩
end Go.Sim

set_option linter.unusedVariables false
set_option linter.unusedSimpArgs false
set_option maxRecDepth 20000
namespace Go.Sim
open Go Go.RowKit

theorem WDr.setN {b:Nat} {h:Zaa} {a0:Pt} {n0 c0 q n1 c1:Nat} {ys:List EI} {w:Wd} {z:Nat} {x:Zcd} (d:WDr b h a0 n0 c0 q n1 c1 ys w) (hz:z < b):WDr b (h.set z x) a0 n0 c0 q n1 c1 ys w:=d.keep fun j hj hl=>Zbs (by omega)
end Go.Sim

set_option linter.unusedVariables false
set_option linter.unusedSimpArgs false
set_option maxRecDepth 20000
namespace Go.Sim
open Go Go.RowKit

theorem Zvu {h:Zaa} {i p:Nat} {a0 a1:Pt} {n0 c0 n1 c1:Nat} {e0 e1:Bool} (r:Rdr h i p) (hp:p≤900000000000) :
  Zah pg Zji [.ptr (some (i,0)),.agg [.slice a0 n0 c0 e0,.slice a1 n1 c1 e1]] h fun v h'=>∃ x,v=.int .i64 x∧RdK i p 5 h h':=by
 have hil:=r.lt
 apply Zpd.call
 simp only [Zaw]
 generalize hg0:h ++ [Zcd.cells Zab [.slice a0 n0 c0 e0,.slice a1 n1 c1 e1] false]=g0
 have s0:Zbc h.length h g0:=by rw [← hg0]; exact Zam
 have x0:g0[h.length]?=some (.cells Zab [.slice a0 n0 c0 e0,.slice a1 n1 c1 e1] false):=by rw [← hg0]; simp
 have R0:=r.same s0
 have oth:∀ (G:Zaa) (p':Nat),Zdu i h G→Rdr G i p'→p≤p'→p'≤p + 3→Zah pg Zdq [.ptr (some (i,0)),.slice (some (List.length G,0)) 4 4 true] (G ++ [.cells Zfs [.int .i64 0,.int .i64 (-1),.int .i64 10,.int .i64 9223372036854775807] false]) fun v_6 h_7=>Zdo .i64 (some v_6) fun x_8=>∃ x,Zau.int .i64 x_8=.int .i64 x∧RdK i p 5 h h_7:=by
  intro G p' KG RG h1 h2
  have hGl:=RG.lt
  refine (Yif (RG.app _) (by omega) (j:=G.length) (t:=Zfs) (n:=4) (l:=[0,-1,10,9223372036854775807]) (by simp [Zdn,eI]) (by omega) rfl (by omega)).mono ?_
  rintro v g7 ⟨x,hx,rfl,K7,R7,l7⟩
  simp only [Zar]
  exact ⟨x,rfl,(KG.trans (Zdu.app i G _)).trans K7,_,by omega,by omega,R7⟩
 simp only [Zao x0,Nat.zero_add,List.getElem?_cons_succ,List.getElem?_cons_zero,Zae]
 refine Zcx (fun _=>oth g0 p (Zdu.of_same s0) R0 (by omega) (by omega)) (fun hne=>?_)
 refine (Zcu R0 (by omega) 10).mono ?_
 rintro v g1 ⟨x,rfl,_,_,_,K1,R1,l1⟩
 have x1:=K1.get x0 (by omega)
 have KK1:=(Zdu.of_same (i:=i) s0).trans K1
 simp only [Zar]
 refine Zcx (fun _=>oth g1 _ KK1 R1 (by omega) (by omega)) (fun _=>?_)
 apply Zpd.J3i
 simp only [Zao x1,Nat.zero_add,List.getElem?_cons_succ,List.getElem?_cons_zero,Zae]
 refine (Zcu R1 (by omega) (n1:Int)).mono ?_
 rintro v g2 ⟨y,rfl,_,_,_,K2,R2,l2⟩
 simp only [Zar]
 exact ⟨y,rfl,KK1.trans K2,_,by omega,by omega,R2⟩
def DWT (h:Zaa) (v:Zau) (h':Zaa):Prop:=∃ a0 n0 c0 e0 a1 n1 c1 e1 w x,∃ t:List Nat,v=.tup [.agg [.slice a0 n0 c0 e0,.slice a1 n1 c1 e1],.int .i64 x,.str t]∧Zbc h.length h h'∧Zmb h' a0 n0 c0 a1 n1 c1 w∧WB w∧t.length≤1000
theorem Zzr {h:Zaa} {a:Pt} {n c:Nat} {e:Bool} {l:List Nat} (r:Row h.length h a n (Zdn eB l)) (hb:∀ b∈l,b < 256) (hnc:n≤c):Zah pg Zkn [.slice a n c e] h (DWT h):=by
 apply Zhn.call
 simp only [Zaw]
 generalize hg0:h ++ [Zcd.cells Zab [.slice none 0 0 true,.slice none 0 0 true] false]=g0
 have s0:Zbc h.length h g0:=by rw [← hg0]; exact Zam
 have w0:g0[h.length]?=some (.cells Zab [.slice none 0 0 true,.slice none 0 0 true] false):=by rw [← hg0]; simp
 have l0:g0.length=h.length + 1:=by rw [← hg0]; simp
 refine (Zsy (r.same' s0) hb hnc).mono ?_
 rintro v g2 ⟨rfl,s2,R2,l2⟩
 simp only [Zif]
 have w2:=s2.get w0 (Own.lt w0)
 refine (Zue R2 (by omega)).mono ?_
 rintro v g3 ⟨u,w,rfl,⟨a0,n0,c0,e0,q,n1,c1,e1,ys,rfl,d⟩,ws,K3,p3,hp1,hp2,R3⟩
 have w3:=K3.get w2 (by omega)
 have l3:=K3.le
 simp only [Zdd,Zaf,Zae,Zan]
 rw [Zfk]
 simp only [Zas]
 generalize hg4:g3 ++ [Zcd.cells Zab [.slice a0 n0 c0 e0,.slice (some (q,0)) n1 c1 e1] false]=g4
 have s4:Zbc g3.length g3 g4:=by rw [← hg4]; exact Zam
 have y4:g4[g3.length]?=some (.cells Zab [.slice a0 n0 c0 e0,.slice (some (q,0)) n1 c1 e1] false):=by rw [← hg4]; simp
 have w4:=s4.get w3 (Own.lt w3)
 have d4:=d.same s4
 have R4:=R3.same s4
 rw [Zbk y4]
 simp only [Zaq,Zaf,Zan,Zae]
 refine (Zvu R4 (by omega)).mono ?_
 rintro v g5 ⟨x,rfl,K5,p5,hp3,hp4,R5⟩
 have y5:=K5.get y4 (by omega)
 have w5:=K5.get w4 (by omega)
 have d5:=d4.kp K5 (by omega)
 have hl4:=s4.le
 have hl5:=K5.le
 simp only [Zar,Zao y5,Nat.zero_add,List.getElem?_cons_succ,List.getElem?_cons_zero,Zae]
 have hn1:n1≤1021:=by have:=ws.li; have:=d.wl; omega
 rw [IntWalk.i64_in _ (by omega)]
 have S5:∀ j,j < h.length→g5[j]?=h[j]?:=fun j hj=>by rw [K5.eq j (by omega) (by omega),s4.eq j (by omega),K3.eq j (by omega) (by omega),s2.eq j (by omega)]; exact s0.eq j hj
 -- the last part
 have fin:∀ (G:Zaa) (t:List Nat),Zdu g0.length g5 G→t.length≤1000→Zbu (Zbb G (.ptr (some (h.length,0))) [.slice a0 n0 c0 e0,.slice (some (q,0)) n1 c1 e1]) fun h_100=>Zco (Zbi h_100 (.ptr (some (h.length,0))) 2) fun cs_101=>Zaj cs_101 fun c_102 r_103=>xSl (some c_102) fun a_104 n_105 c_106 e_107=>Zaj r_103 fun c_108 r_109=>xSl (some c_108) fun a_110 n_111 c_112 e_113=>Zbv r_109 (DWT h (.tup [.agg [.slice a_104 n_105 c_106 e_107,.slice a_110 n_111 c_112 e_113],.int .i64 x,.str t]) h_100):=by
  intro G t KG ht
  have w6:=KG.get w5 (by omega)
  have d6:=d5.kp KG (by omega)
  have hlG:=KG.le
  rw [Zbd w6 (by simp)]
  simp only [Zas,putRow,List.take_zero,List.length_cons,List.length_nil,List.drop_succ_cons,List.drop_zero,List.drop_nil,List.cons_append,List.nil_append,List.append_nil,Nat.zero_add]
  rw [Zbk (Zbz w6)]
  simp only [Zaq,Zaf,Zan,Zae]
  exact ⟨a0,n0,c0,e0,_,n1,c1,e1,w,x,t,rfl,⟨by simp; omega,fun j hj=>by rw [Zbs (by omega),KG.eq j (by omega) (by omega)]; exact S5 j hj⟩,(d6.setN (by omega)).rep,ws.wb (by omega),ht⟩
 have j6:∀ (G:Zaa) (p':Nat),Zdu g0.length g5 G→Rdr G g0.length p'→p'≤300000→Zhn.J6 (DWT h) g3.length 0 x (some (g0.length,0)) h.length 0 G:=by
  intro G p' KG RG hp
  apply Zhn.J6i
  have yG:=KG.get y5 (by omega)
  rw [Zbk yG]
  simp only [Zaq,Zaf,Zan,Zae]
  refine (Yhj RG (by omega)).mono ?_
  rintro v g7 ⟨s,rfl,hs,K7,p7,_,_,R7⟩
  simp only [Zal]
  exact ⟨Zbk (K7.get yG (by omega)),fin g7 s (KG.trans K7) hs⟩
 refine Zvt.mono ?_
 rintro v h3 ⟨rfl,rfl⟩
 simp only [Zap]
 refine Zat (fun hin=>?_) (fun _=>j6 _ p5 (Zdu.refl _ _) R5 (by omega))
 refine (Zcu R5 (by omega) 4).mono ?_
 rintro v g6 ⟨z,rfl,_,_,_,K6,R6,l6⟩
 simp only [Zar]
 refine Zat (fun _=>?_) (fun _=>j6 _ _ K6 R6 (by omega))
 have y6:=K6.get y5 (by omega)
 have d6:=d5.kp K6 (by omega)
 obtain ⟨k,rfl⟩:∃ k:Nat,x=k:=⟨x.toNat,by omega⟩
 have hk:k < w.is.length:=by have:=d.wl; omega
 obtain ⟨i,o,ka,kn,kc,ke,he,hi,hr3,_,hc,_⟩:=Zhm d6.rep hk
 cases he
 rw [Zbk y6]
 simp only [Zaq,Zaf,Zan,Zae,Zao y6,Nat.zero_add,Nat.add_zero,List.getElem?_cons_succ,List.getElem?_cons_zero,Zav,Int.toNat_natCast,true_and]
 simp only [Nat.zero_add] at hc
 rw [hc]
 simp only [Zal]
 refine ⟨by omega,?_⟩
 have hin:=ws.is _ (List.getElem_mem hk)
 refine (Yek R6 (by omega) (by omega)).mono ?_
 rintro v g7 ⟨s,rfl,hs,K7,p7,_,_,R7⟩
 simp only [Zal]
 exact ⟨Zbk (K7.get y6 (by omega)),fin g7 s (K6.trans K7) hs⟩
end Go.Sim

set_option linter.unusedVariables false
set_option linter.unusedSimpArgs false
set_option maxRecDepth 20000
namespace Go.Sim
open Go Go.RowKit
theorem Yan {h:Zaa} {a0 a1:Pt} {n0 n1 c0 c1:Nat} {e0 e1:Bool} {l0 l1:List Nd} (r0:Row h.length h a0 (n0 * 2) (Zdn eP l0)) (r1:Row h.length h a1 (n1 * 2) (Zdn eP l1)) (hn:n0≤4611686018427387904) :
  Zah pg Zhi [.slice a0 n0 c0 e0,.slice a1 n1 c1 e1] h fun v h'=>v=.bool (decide (l0=l1))∧h'=h:=by
 have h0:l0.length=n0:=by have:=r0.1; rw [Zay Zeb] at this; omega
 have h1:l1.length=n1:=by have:=r1.1; rw [Zay Zeb] at this; omega
 apply Zjc.call
 have hm:(if ((n1:Nat):Int) < ((n0:Nat):Int) then ((n1:Nat):Int) else ((n0:Nat):Int))=((min n0 n1:Nat):Int):=by split <;> omega
 rw [hm]
 refine Zjc.L2ind _ _ _ _ _ _ _ _ _ _ (J:=fun (g:Nat) x11 h'=>x11=(g:Int)∧g≤min n0 n1∧h'=h∧l0.take g=l1.take g) (fun g=>min n0 n1 - g) ?_ 0 _ _ ⟨rfl,by omega,rfl,by simp⟩
 rintro g x5 h' ⟨rfl,hg,rfl,ht⟩ R hR
 unfold Zjc.L2t
 refine Zat (fun hlt=>?_) (fun hge=>?_)
 ·obtain ⟨i,o,hgl,rfl,hi,hc,_⟩:=r0.pr (k:=g) (by omega)
  obtain ⟨i',o',hgl',rfl,hi',hc',_⟩:=r1.pr (k:=g) (by omega)
  simp only [Zav,Int.toNat_natCast,hc,hc',Zaq,Zaf,Zal,Zan]
  refine ⟨by omega,by omega,by trivial,Zbq (fun hne=>?_) (fun he=>?_)⟩
  ·have:l0≠l1:=fun e=>by subst e; simp at hne
   simp [this]
  ·rw [Zbl (by omega)]
   refine hR (g + 1) _ _ (by omega) ⟨rfl,by omega,rfl,?_⟩
   simp only [Bool.and_eq_true,decide_eq_true_eq] at he
   rw [List.take_succ_eq_append_getElem hgl,List.take_succ_eq_append_getElem hgl',ht,Prod.ext he.1 he.2]
 ·apply Zjc.A2x0i
  refine ⟨?_,rfl⟩
  congr 1
  by_cases hnn:n0=n1
  ·subst hnn
   rw [List.take_of_length_le (by omega),List.take_of_length_le (by omega)] at ht
   simp [ht]
  ·have:l0≠l1:=fun e=>by subst e; omega
   simp [this]; omega
theorem Zsk {α:Type} {l:List α} {g:Nat} (hg:g < l.length) {x:α}:x∈l.take (g + 1) ↔ x∈l.take g ∨ l[g]=x:=by
 rw [List.take_succ_eq_append_getElem hg,List.mem_append,List.mem_singleton]
 constructor
 ·rintro (h | h)
  ·exact .inl h
  ·exact .inr h.symm
 ·rintro (h | h)
  ·exact .inl h
  ·exact .inr h.symm
theorem Ycp {x0 x1:List Nat} {h:Zaa} (h0:x0.length≤1048576) (h1:x1.length≤1048576):Zah pg Zms [.str x0,.str x1] h fun v h'=>v=.bool (x0.all fun c=>decide (c∈x1))∧h'=h:=by
 apply Zec.call
 refine Zec.L2ind _ _ _ _ (J:=fun (g:Nat) x h'=>x=(g:Int)∧g≤x0.length∧h'=h∧(x0.take g).all (fun c=>decide (c∈x1))=true) (fun g=>x0.length - g) ?_ 0 _ _ ⟨rfl,by omega,rfl,by simp⟩
 rintro g x k ⟨rfl,hg,rfl,ht⟩ R hR
 unfold Zec.L2t
 refine Zat (fun hlt=>?_) (fun hge=>?_)
 ·have hgl:g < x0.length:=by omega
  refine Zec.L6ind _ _ _ _ _ _ _ _ (J:=fun (j:Nat) b x h'=>x=(j:Int)∧j≤x1.length∧h'=k∧b=decide (x0[g]∈x1.take j)) (fun j=>x1.length - j) ?_ 0 _ _ _ ⟨rfl,by omega,rfl,by simp⟩
  rintro j b x k' ⟨rfl,hj,rfl,rfl⟩ R6 hR6
  unfold Zec.L6t
  refine Zat (fun hlt2=>?_) (fun hge2=>?_)
  ·have hjl:j < x1.length:=by omega
   have nxt:∀ q,q=decide (x0[g]∈x1.take (j + 1))→Zec.J9 (fun v h'=>v=.bool (x0.all fun c=>decide (c∈x1))∧h'=k') R R6 (j:Int) (x1.length:Int) q x0 (g:Int) x1 (g:Int) (x0.length:Int) k':=by
    rintro q rfl
    apply Zec.J9i
    rw [Zbl (by omega)]
    exact hR6 (j + 1) _ _ _ (by omega) ⟨rfl,by omega,rfl,rfl⟩
   refine Zcv (fun ht=>?_) (fun hf=>?_)
   ·exact nxt true (decide_eq_true ((Zsk hjl).2 (.inl (of_decide_eq_true ht)))).symm
   ·unfold Zir
    refine ⟨⟨by omega,by omega⟩,⟨by omega,by omega⟩,?_⟩
    refine nxt _ ?_
    have hno:=of_decide_eq_false hf
    simp only [Int.toNat_natCast,Zfd hgl,Zfd hjl]
    rw [Bool.eq_iff_iff,beq_iff_eq,decide_eq_true_eq,Zsk hjl]
    exact ⟨fun e=>.inr (by omega),fun h=>by have:=h.resolve_left hno; omega⟩
  ·apply Zec.A6x2i
   have:j=x1.length:=by omega
   subst this
   rw [List.take_of_length_le (by omega)]
   refine Zpw (fun hno=>?_) (fun hin=>?_)
   ·refine ⟨?_,rfl⟩
    rw [Zqr (f:=fun c=>decide (c∈x1)) hgl (decide_eq_false hno)]
   ·rw [Zbl (by omega)]
    exact hR (g + 1) _ _ (by omega) ⟨rfl,by omega,rfl,Zfr hgl ht (decide_eq_true hin)⟩
 ·apply Zec.A2x0i
  have:g=x0.length:=by omega
  subst this
  rw [List.take_of_length_le (by omega)] at ht
  exact ⟨by rw [ht],rfl⟩
end Go.Sim

set_option linter.unusedSimpArgs false
set_option linter.unusedVariables false
namespace Go.Sim
theorem Zuh {f:Nat→Option Ty} (hf:∀ v,Zcs v=false→f v=none):∀ {a:Ty} {v:Nat},v∈Zlg (subst f a) ↔ ∃ c∈Zlg a,v∈Zlg ((f c).getD (.k c))
 | .k c,v=>by
  simp only [subst]
  by_cases hv:Zcs c=true
  ·simp [Zlg,hv]
  ·rw [hf c (by simpa using hv)]; simp [Zlg,hv]
 | .u c a,v=>by simp only [subst,Zlg]; exact Zuh hf
 | .w c a b,v=>by
  simp only [subst,Zlg,List.mem_append,Zuh hf (a:=a),Zuh hf (a:=b)]
  constructor
  ·rintro (⟨c,h1,h2⟩ | ⟨c,h1,h2⟩)
   ·exact ⟨c,.inl h1,h2⟩
   ·exact ⟨c,.inr h1,h2⟩
  ·rintro ⟨c,h1 | h1,h2⟩
   ·exact .inl ⟨c,h1,h2⟩
   ·exact .inr ⟨c,h1,h2⟩
theorem Zrt:∀ {a:Ty} {v:Nat},v∈Zlg a→Zcs v=true
 | .k c,v,h=>by
  simp only [Zlg] at h
  split at h
  ·rename_i hc; simp at h; subst h; exact hc
  ·cases h
 | .u c a,v,h=>Zrt (a:=a) h
 | .w c a b,v,h=>by
  simp only [Zlg,List.mem_append] at h
  rcases h with h | h
  ·exact Zrt h
  ·exact Zrt h
theorem Zxy {s:List Nat} {t:Ty} (h:Zhk s=some t) {v:Nat}:v∈Zkw s ↔ v∈Zlg t:=by
 obtain ⟨h1,h2,h3⟩:=Zdt.1 h
 unfold Zkw
 rw [List.mem_filter,Znv,decide_eq_true_eq,h2]
 constructor
 ·rintro ⟨hv,hm⟩; exact (Zyb h1 v hv).1 hm
 ·intro hm; have hv:=Zrt hm; exact ⟨hv,(Zyb h1 v hv).2 hm⟩
theorem Ykq {w:Wd} (hw:Zee w=true) {i:Ins} (hi:i∈w.is) {t:List Nat} {ms:List Nd} (h:Zke i t=some ms) :
  ∃ m,Zho i.1.2 t=some m∧ms.length=i.2.length∧∀ (k:Nat) (h1:k < ms.length) (h2:k < i.2.length),(ms[k]'h1).1=(i.2[k]'h2).1∧Zfl (bdL m) (i.2[k]'h2).2=some (ms[k]'h1).2∧∀ v∈Zkw (ms[k]'h1).2,v∈Zkw t:=by
 unfold Zee at hw
 simp only [Bool.and_eq_true,List.all_eq_true] at hw
 have h3:=hw.2 i hi
 unfold Zmq at h3
 simp only [Bool.and_eq_true,List.all_eq_true,decide_eq_true_eq] at h3
 unfold Zke at h
 split at h
 ·cases h
 ·rename_i m hm
  split at h
  ·rename_i hall
   cases h
   refine ⟨m,hm,by simp,fun k h1 h2=>?_⟩
   have hn:=h3.2 _ (List.getElem_mem h2)
   have hs:=List.all_eq_true.1 hall _ (List.getElem_mem h2)
   simp only [List.getElem_map]
   generalize i.2[k]=n at hn hs
   unfold Zjg at hn
   simp only [Bool.and_eq_true,List.all_eq_true,decide_eq_true_eq] at hn
   obtain ⟨u,hu⟩:=Option.isSome_iff_exists.1 hs
   have hu':=hu
   unfold Zfl at hu'
   split at hu'
   ·rename_i hc
    cases hu'
    refine ⟨by trivial,hu,fun v hv=>?_⟩
    simp only [Bool.and_eq_true,decide_eq_true_eq] at hc
    have b:=Zua hm
    have hm':=hm
    unfold Zho at hm'
    split at hm'
    ·rename_i a t' ha ht
     obtain ⟨a1,a2,a3⟩:=Zdt.1 ha
     obtain ⟨t1,t2,t3⟩:=Zdt.1 ht
     obtain ⟨o,ho⟩:=Zku hn.1.1.2
     obtain ⟨o1,o2,o3⟩:=Zdt.1 ho
     have mo:=Zpk a1 t1 (by rw [← t2]; exact t3) BOk.nil hm'
     have hres:Zhk (Zkc (bdL m) n.2)=some (subst (Zff m) o):=by
      have:=Znl hc.1.1 o1
      rw [← o2,funext (Ynl b)] at this
      exact Zdt.2 ⟨this.2,this.1,hc.2⟩
     rw [Zxy hres,Zuh b.novar] at hv
     obtain ⟨c,hc1,hc2⟩:=hv
     rw [Zxy ht,← mo.sub,Zuh b.novar]
     refine ⟨c,?_,hc2⟩
     have h5:=hn.2 c ((Zxy ho).2 hc1)
     rw [a2] at h5
     exact (Zyb a1 c (Zrt hc1)).1 h5
    ·cases hm'
   ·cases hu'
  ·cases h
end Go.Sim

set_option linter.unusedVariables false
set_option linter.unusedSimpArgs false
set_option maxRecDepth 20000
namespace Go.Sim
open Go Go.RowKit

theorem lawFNeeds {h:Zaa} {a:Pt} {n c:Nat} {e:Bool} {l:List Nat} (r:Row h.length h a n (Zdn eB l)) (hb:∀ b∈l,b < 256) (hnc:n≤c) :
  Zah pg Zrd [.slice a n c e] h fun v _=>v=.bool true:=by
 apply Zfp.call
 refine Zat (fun _=>rfl) (fun _=>?_)
 refine (Zzr r hb hnc).mono ?_
 rintro v h1 ⟨a0,n0,c0,e0,a1,n1,c1,e1,w,x,t,rfl,s1,rep,wb,ht⟩
 simp only [Zct,Zaf,Zdd,Zae,Zar,Zal,Zan,Zaw]
 rw [Zfk]
 simp only [Zas]
 generalize hgA:h1 ++ [Zcd.cells Zab [.slice a0 n0 c0 e0,.slice a1 n1 c1 e1] false]=gA
 have sA:Zbc h1.length h1 gA:=by rw [← hgA]; exact Zam
 have xA:gA[h1.length]?=some (.cells Zab [.slice a0 n0 c0 e0,.slice a1 n1 c1 e1] false):=by rw [← hgA]; simp
 have RA:=rep.same sA
 have hl1:=rep.len1
 have hli:=wb.li
 rw [Zbk xA]
 simp only [Zaq,Zaf,Zan,Zae]
 refine (Yip RA wb).mono ?_
 rintro v g1 ⟨t1,na,nn,nc,ne,rfl,f1⟩
 have x1:=t1.get xA (Own.lt xA)
 have R1:=RA.same t1
 simp only [Zct,Zaf,Zae,Zap,Zan]
 rw [Zbk x1]
 simp only [Zaq,Zaf,Zan,Zae]
 refine (Ygr R1 wb (by omega)).mono ?_
 rintro v g2 ⟨t2,ma,mn,mc,me,rfl,f2⟩
 have x2:=t2.get x1 (Own.lt x1)
 have R2:=R1.same t2
 simp only [Zct,Zaf,Zae,Zap,Zan]
 have r1:=(f1.row Zeb).same' t2
 have r2:=f2.row Zeb
 have hnn:nn≤1048576:=by rw [← f1.1]; exact Yev wb x t
 refine (Yan r1 r2 (by omega)).mono ?_
 rintro v g3 ⟨rfl,hg3⟩
 subst hg3
 simp only [Zap,decide_true,Bool.not_true,Zca,beq_self_eq_true]
 refine Zbq (fun hno=>?_) (fun hyes=>?_)
 ·refine (Yan r1 r2 (by omega)).mono ?_
  rintro v g4 ⟨rfl,_⟩
  simp only [Zap,decide_true,Zcn,beq_self_eq_true]
  have h0:nn=0:=by
   rw [← f1.1]
   cases hq:Zkm w x t with
   | none=>rfl
   | some ms=>rw [hq] at hno; cases hno
  subst h0
  rfl
 ·obtain ⟨ms,hms⟩:=Option.isSome_iff_exists.1 hyes
  have hms':=hms
  unfold Zkm at hms'
  split at hms'
  case isFalse=>cases hms'
  rename_i hc
  simp only [Bool.and_eq_true] at hc
  obtain ⟨k,rfl,hk⟩:=Zqm hc.2
  rw [Zlt hk] at hms'
  obtain ⟨m,hm,hlen,hall⟩:=Ykq hc.1 (List.getElem_mem hk) hms'
  have hty:=(Yav hms').2
  have hnl:=f1.1
  rw [hms] at r1 hnl
  simp only [Option.getD_some] at r1 hnl
  apply Zfp.J8i
  obtain ⟨i,o,_,ka,kn,kc,ke,rfl,hi,hr3,_,hc1,_⟩:=R2.inst (k:=k) (by omega)
  simp only [Zao x2,Nat.zero_add,List.getElem?_cons_succ,List.getElem?_cons_zero,Zae,Zav,Int.toNat_natCast,Nat.add_zero,hc1,Zal]
  refine ⟨by omega,?_⟩
  refine (Zsd _ _ _).mono ?_
  rintro v g4 ⟨t4,ba,bn,bc,be,rfl,hbc,fb⟩
  simp only [Zct,Zaf,Zae,Zap,Zan]
  have hmR:Zjh w.is[k].1.2 t=bdL m:=by unfold Zjh; rw [hm]
  have hin:Zlh w.is[k].1.2 t=true:=by unfold Zlh; rw [hm]; rfl
  have htt:=(Zxb hin).2
  have rb:=fb.row Zeb
  have hbn:=fb.1
  rw [hmR] at rb hbn
  have hb6:=Yey m
  rw [hin]
  refine Zfp.L10ind _ _ _ _ _ _ _ _ _ _ _ _ _ _ _ _ _ _ _ (J:=fun (g:Nat) z h'=>z=(g:Int)∧g≤nn∧Zbc g4.length g4 h') (fun g=>nn - g) ?_ 0 _ _ ⟨rfl,by omega,Zbc.refl _ _⟩
  rintro g z k5 ⟨rfl,hg,t5⟩ R hR
  unfold Zfp.L10t
  have T5:=t4.cat t5
  have x5:=T5.get x2 (Own.lt x2)
  refine Zat (fun hlt=>?_) (fun hge=>?_)
  ·have r5:=r1.same' T5
   obtain ⟨j,p,hgl,rfl,hj,hrw,_⟩:=r5.pr (k:=g) (by omega)
   simp only [Zav,Int.toNat_natCast,hrw,Zaq,Zaf,Zal,Zan,Zaw]
   refine ⟨by omega,?_⟩
   rw [Zfk]
   simp only [Zas]
   generalize hg6:k5 ++ [Zcd.cells Zad [.str ms[g].1,.str ms[g].2] false]=k6
   have s6:Zbc k5.length k5 k6:=by rw [← hg6]; exact Zam
   have y6:k6[k5.length]?=some (.cells Zad [.str ms[g].1,.str ms[g].2] false):=by rw [← hg6]; simp
   have x6:=s6.get x5 (Own.lt x5)
   have R6:=R2.same (T5.cat s6)
   obtain ⟨i',o',_,ka',kn',kc',ke',he,hi',_,_,_,hc2',hrow',hkn'⟩:=R6.inst (k:=k) (by omega)
   cases he
   have hgl':g < w.is[k].2.length:=by omega
   simp only [Zao x6,Nat.zero_add,List.getElem?_cons_succ,List.getElem?_cons_zero,Zae,Zav,Int.toNat_natCast,hc2']
   refine ⟨by omega,?_⟩
   obtain ⟨j',p',hgl2,rfl,_,hrw',_⟩:=hrow'.pr (k:=g) (by omega)
   simp only [Zav,Int.toNat_natCast,hrw',Zaq,Zaf,Zal,Zan]
   refine ⟨by omega,?_⟩
   rw [Zfk]
   simp only [Zas]
   generalize hg7:k6 ++ [Zcd.cells Zad [.str w.is[k].2[g].1,.str w.is[k].2[g].2] false]=k7
   have s7:Zbc k6.length k6 k7:=by rw [← hg7]; exact Zam
   have z7:k7[k6.length]?=some (.cells Zad [.str w.is[k].2[g].1,.str w.is[k].2[g].2] false):=by rw [← hg7]; simp
   have y7:=s7.get y6 (Own.lt y6)
   have T7:=(t5.cat s6).cat s7
   simp only [Zao z7,Nat.zero_add,List.getElem?_cons_succ,List.getElem?_cons_zero,Zal]
   refine (Zrg (rb.same' T7) (by omega)).mono ?_
   rintro v k8 ⟨rfl,t8⟩
   obtain ⟨q1,q2,q3⟩:=hall g hgl hgl'
   unfold Zmz
   rw [q2]
   have z8:=t8.get z7 (Own.lt z7)
   have y8:=t8.get y7 (Own.lt y7)
   simp only [Zct,Zaf,Zan,Zal,Zap,Zao z8,Zao y8,Nat.zero_add,List.getElem?_cons_succ,List.getElem?_cons_zero]
   refine Zpw (fun hne=>absurd q1 hne) (fun _=>?_)
   refine Zpw (fun hne=>absurd trivial hne) (fun _=>?_)
   simp only [Bool.not_true,Zca]
   refine (Ycx _ _).mono ?_
   rintro v k9 ⟨rfl,t9⟩
   simp only [Zal]
   refine (Ycx _ _).mono ?_
   rintro v k10 ⟨rfl,t10⟩
   rw [if_pos (hty _ (List.getElem_mem hgl)).1,if_pos htt]
   simp only [Zal]
   refine (Ycp (by have:=Zxw ms[g].2; omega) (by have:=Zxw t; omega)).mono ?_
   rintro v k11 ⟨rfl,hk11⟩
   subst hk11
   have:((Zkw ms[g].2).all fun c=>decide (c∈Zkw t))=true:=List.all_eq_true.2 fun v hv=>decide_eq_true (q3 v hv)
   rw [this]
   simp only [Zap,Bool.not_true,Zca]
   apply Zfp.J16i
   rw [Zbl (by omega)]
   exact hR (g + 1) _ _ (by omega) ⟨rfl,by omega,((T7.cat t8).cat t9).cat t10⟩
  ·apply Zfp.A10x0i
   have R5:=R2.same T5
   obtain ⟨i',o',_,ka',kn',kc',ke',he,hi',_,_,_,hc2',hrow',hkn'⟩:=R5.inst (k:=k) (by omega)
   cases he
   simp only [Zcn,Zao x5,Nat.zero_add,List.getElem?_cons_succ,List.getElem?_cons_zero,Zae,Zav,Int.toNat_natCast,hc2']
   refine ⟨by omega,?_⟩
   have:nn=kn':=by omega
   subst this
   simp
end Go.Sim

set_option linter.unusedVariables false
set_option linter.unusedSimpArgs false
set_option maxRecDepth 20000
namespace Go.Sim
open Go Go.RowKit
theorem Yhz {P:Program} {h:Zaa} {f:Nat} {e:TypeId} (he:P.underlying e=some (.int .u8)):∀ (vs:List (List Zau)) (ds:List Dt),ds.length=vs.length→(∀ (i:Nat) (v:List Zau) (x:Dt),vs[i]?=some v→ds[i]?=some x→v.length=P.cellsOf e∧rd P h (f + 1) e v x) →
  ∃ l:List Nat,vs.flatten=Zdn eB l∧∀ z∈l,z < 256
 | [],_,_,_=>⟨[],rfl,by simp⟩
 | v :: vs,[],h,_=>by simp at h
 | v :: vs,d :: ds,hl,hall=>by
  obtain ⟨l,hfl,hs⟩:=Yhz he vs ds (by simpa using hl) fun i v x hv hx=>hall (i + 1) v x (by simpa using hv) (by simpa using hx)
  have h0:=(hall 0 v d rfl rfl).2
  simp only [rd,he] at h0
  obtain ⟨z,rfl,_,hw⟩:=h0
  simp [Lit.wf,IntKind.min,IntKind.max,IntKind.signed,IntKind.bits] at hw
  refine ⟨z.toNat :: l,?_,fun x hx=>?_⟩
  ·simp [hfl,eB]; omega
  ·rcases List.mem_cons.1 hx with rfl | hx
   ·omega
   ·exact hs x hx
theorem rd_bytes {P:Program} {h:Zaa} {f:Nat} {t e:TypeId} {cs:List Zau} {d:Dt} (ht:P.underlying t=some (.slice e)) (he:P.underlying e=some (.int .u8)) (hc:P.cellsOf e=1) (hr:rd P h (f + 2) t cs d) :
  ∃ a n c ex,∃ l:List Nat,cs=[.slice a n c ex]∧Row h.length h a n (Zdn eB l)∧∀ z∈l,z < 256:=by
 unfold rd at hr
 rw [ht] at hr
 obtain ⟨a,n,c,ex,ds,vs,rfl,rfl,hdl,hn,hvl,hrow,hall⟩:=hr
 obtain ⟨l,hfl,hs⟩:=Yhz (f:=f) he vs ds (by omega) hall
 rw [hc,Nat.mul_one,hfl] at hrow
 exact ⟨a,n,c,ex,l,rfl,hrow,hs⟩
end Go.Sim
