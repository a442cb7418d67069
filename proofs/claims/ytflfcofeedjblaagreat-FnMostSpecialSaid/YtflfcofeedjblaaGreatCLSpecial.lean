/- A part of the proof of a statement of this seat: see the text that holds the theorem. No condition. -/
import Derived.Test.YtflfcofeedjblaaGreatPTCDrawZ
import Derived.Test.YtflfcofeedjblaaGreatCDrawY
import Derived.Test.YtflfcofeedjblaaGreatPTCDrawY
import Derived.Test.YtflfcofeedjblaaGreatCSrch
import Derived.Test.YtflfcofeedjblaaGreatCVars
set_option linter.unusedVariables false
set_option linter.unusedSimpArgs false
set_option linter.all false
set_option linter.unusedVariables false
set_option linter.unusedSimpArgs false
set_option maxRecDepth 20000
namespace Go.Sim
open Go Go.RowKit

theorem Zsj {h l:Zaa} {j o:Nat} (hj:j < h.length):Zag (h ++ l) (.ptr (some (j,o)))=Zag h (.ptr (some (j,o))):=by simp only [Zag,List.getElem?_append_left hj]
def Yum (I:Ins):Prop:=I.1.1.length≤1000∧I.1.2.length≤1000∧I.2.length≤1000∧∀ q∈I.2,q.1.length≤1000∧q.2.length≤1000
def Ypm (i p:Nat) (h:Zaa) (v:Zau) (h':Zaa):Prop:=∃ (I:Ins) (a:Pt) (c:Nat) (e:Bool),v=.agg [.str I.1.1,.str I.1.2,.slice a I.2.length c e]∧I.2.length≤c∧Zdh Zad eP h.length h' a I.2.length I.2∧Yum I∧RdK i p 10000 h h'
theorem Zyp (s:List Nat):(Zlc s).length≤6:=by unfold Zlc; exact Nat.le_trans (List.length_filter_le _ _) (by decide)
theorem Zvn {h:Zaa} {i p b m:Nat} {a0:Pt} {n0 c0 q n1 c1:Nat} {e0 e1:Bool} {ys:List EI} {w:Wd} (r:Rdr h i p) (hp:p≤800000000000) (d:WDr b h a0 n0 c0 q n1 c1 ys w) (hib:i < b) (hn0:1≤n0) (ws:WS m w) :
  Zah pg Zhx [.ptr (some (i,0)),.agg [.slice a0 n0 c0 e0,.slice (some (q,0)) n1 c1 e1]] h (Ypm i p h):=by
 have hil:=r.lt
 apply Zdb.call
 simp only [Zaw]
 generalize hg0:h ++ [Zcd.cells Zab [.slice a0 n0 c0 e0,.slice (some (q,0)) n1 c1 e1] false]=g0
 have s0:Zbc h.length h g0:=by rw [← hg0]; exact Zam
 have x0:g0[h.length]?=some (.cells Zab [.slice a0 n0 c0 e0,.slice (some (q,0)) n1 c1 e1] false):=by rw [← hg0]; simp
 have l0:g0.length=h.length + 1:=by rw [← hg0]; simp
 generalize hga:g0 ++ [Zcd.cells Zac [.str [],.str [],.slice none 0 0 true] false]=ga
 have sa:Zbc g0.length g0 ga:=by rw [← hga]; exact Zam
 have xa:=sa.get x0 (Own.lt x0)
 have za:ga[g0.length]?=some (.cells Zac [.str [],.str [],.slice none 0 0 true] false):=by rw [← hga]; simp
 have la:ga.length=g0.length + 1:=by rw [← hga]; simp
 have Sa:=s0.cat sa
 have Ra:=r.same Sa
 refine (Zmm (Ra.app _) (by omega) (j:=ga.length) (t:=Zbe) (n:=11) (l:=[[105],[98],[108,40,120,41],[112,40,120,44,121,41],[109,40,120,41],[108,40,105,41],[112,40,120,44,120,41],[112,40,105,44,120,41],[108,40,108,40,120,41,41],[117],[108,40,120,41]]) (by simp [Zdn,eS]) (by omega) rfl (by omega)).mono ?_
 rintro v g1 ⟨hd,hhd,rfl,pg1,Rg1,lg1⟩
 have hhl:hd.length≤10:=by
  simp only [List.mem_cons,List.not_mem_nil,or_false] at hhd
  rcases hhd with rfl | rfl | rfl | rfl | rfl | rfl | rfl | rfl | rfl | rfl | rfl <;> decide
 have Kg1:=(Zdu.of_same (i:=i) (Sa.trans (Zbc.app Sa.le [Zcd.cells Zbe [.str [105],.str [98],.str [108,40,120,41],.str [112,40,120,44,121,41],.str [109,40,120,41],.str [108,40,105,41],.str [112,40,120,44,120,41],.str [112,40,105,44,120,41],.str [108,40,108,40,120,41,41],.str [117],.str [108,40,120,41]] false]))).trans pg1
 have xg1:=pg1.get (Zgr xa) (by omega)
 have zg1:=pg1.get (Zgr za) (by omega)
 simp only [Zal,Zao xg1,Nat.zero_add,List.getElem?_cons_zero,Zae]
 have Rg1:Rdr g1 i (p + 1):=Rg1
 -- behind the orders
 have fin:∀ (G:Zaa) (zI eX p':Nat) (cl:List Nat),Zdu i h G→Rdr G i p'→p≤p'→p'≤p + 2→G[h.length]?=some (.cells Zab [.slice a0 n0 c0 e0,.slice (some (q,0)) n1 c1 e1] false)→G[g0.length]?=some (.cells Zac [.str [],.str [],.slice none 0 0 true] false) →
   G[eX]?=some (.cells Zad [] false)→G[zI]?=some (.cells Zac [.str [],.str [],.slice none 0 0 true] false)→h.length≤eX→g0.length < zI→cl.length≤1000 →
   Zbu (Zbb G (.ptr (some (zI,0))) [.str cl,.str hd,.slice (some (eX,0)) 0 0 true]) fun h_22=>Zah pg Zdq [.ptr (some (i,0)),.slice (some (List.length h_22,0)) 4 4 true] (h_22 ++ [.cells Zfw [.int .i64 1,.int .i64 0,.int .i64 1,.int .i64 2] false]) fun v_24 h_25=>Zdo .i64 (some v_24) fun x_26=>Zdb.L4 (Ypm i p h) (some (i,0)) h.length 0 g0.length 0 hd zI 0 x_26 0 h_25:=by
  intro G zI eX p' cl KG RG h1 h2 xG zG eG iG hel hzl hcl
  have hzi:=Own.lt iG
  rw [Zbd iG (by simp)]
  simp only [Zas,putRow,List.take_zero,List.length_cons,List.length_nil,List.drop_succ_cons,List.drop_zero,List.drop_nil,List.cons_append,List.nil_append,List.append_nil,Nat.zero_add]
  have i2:=Zbz iG (x:=.cells Zac [.str cl,.str hd,.slice (some (eX,0)) 0 0 true] false)
  have n2:∀ j,j≠zI→(G.set zI (.cells Zac [.str cl,.str hd,.slice (some (eX,0)) 0 0 true] false))[j]?=G[j]?:=fun j hj=>Zbs (fun e=>hj e.symm)
  have l2:(G.set zI (.cells Zac [.str cl,.str hd,.slice (some (eX,0)) 0 0 true] false)).length=G.length:=by simp
  generalize G.set zI (.cells Zac [.str cl,.str hd,.slice (some (eX,0)) 0 0 true] false)=G2 at i2 n2 l2 ⊢
  have hez:eX≠zI:=Zfn eG iG (by decide)
  have K2:Zdu i h G2:=⟨by have:=KG.le; omega,fun j hj hji=>by rw [n2 j (by omega)]; exact KG.eq j hj hji⟩
  have R2:Rdr G2 i p':=RG.agree (fun j hj=>n2 j (by omega)) (by omega)
  have x2:G2[h.length]?=some (.cells Zab [.slice a0 n0 c0 e0,.slice (some (q,0)) n1 c1 e1] false):=by rw [n2 _ (by omega)]; exact xG
  have z2:G2[g0.length]?=some (.cells Zac [.str [],.str [],.slice none 0 0 true] false):=by rw [n2 _ (by omega)]; exact zG
  have e2:G2[eX]?=some (.cells Zad [] false):=by rw [n2 _ hez]; exact eG
  refine (Yhs (R2.app _) (by omega) (j:=G2.length) (t:=Zfw) (n:=4) (l:=[1,0,1,2]) (by simp [Zdn,eI]) (by have:=R2.lt; omega) rfl (by omega)).mono ?_
  rintro v G3 ⟨x,hx,rfl,K3,R3,l3⟩
  have hR2l:=R2.lt
  simp only [List.mem_cons,List.not_mem_nil,or_false] at hx
  have hxb:0≤x∧x≤2:=by rcases hx with rfl | rfl | rfl | rfl <;> omega
  simp only [Zar]
  have hgl:g0.length≠i:=by omega
  refine Zdb.L4ind (J:=fun (g:Nat) x27 h'=>x27=(g:Int)∧(g:Int)≤x∧Zdu i h h'∧(∃ p',p≤p'∧p'≤p + 10 + g * 2000∧Rdr h' i p')∧h'[h.length]?=some (.cells Zab [.slice a0 n0 c0 e0,.slice (some (q,0)) n1 c1 e1] false)∧h'[g0.length]?=some (.cells Zac [.str [],.str [],.slice none 0 0 true] false) ∧
    ∃ (l:List Nd) (y c:Nat) (e:Bool),h'[zI]?=some (.cells Zac [.str cl,.str hd,.slice (some (y,0)) l.length c e] false)∧h'[y]?=some (.cells Zad (Zdn eP l) false)∧h.length≤y∧l.length≤g∧l.length≤c∧∀ q∈l,q.1.length≤1000∧q.2.length≤1000) (m:=fun g=>x.toNat - g) (hr:=?_) (g:=0)
   (hj:=⟨rfl,by omega,(K2.trans (Zdu.app i G2 _)).trans K3,⟨_,by omega,by omega,R3⟩,K3.get (Zgr x2) (by omega),K3.get (Zgr z2) (by omega),[],eX,0,true,K3.get (Zgr i2) (by omega),K3.get (Zgr e2) (by omega),hel,Nat.le_refl _,Nat.le_refl _,by simp⟩) ..
  rintro g x27 k ⟨rfl,hg,Kk,⟨p4,hp1,hp2,Rk⟩,xk,zk,l,y,c,e,ik,yk,hyl,hlg,hlc,hls⟩ R hR
  unfold Zdb.L4t
  have hkl:=Rk.lt
  refine Zat (fun hlt=>?_) (fun hge=>?_)
  ·refine (Zsq hd (by omega)).mono ?_
   rintro v k1 ⟨rfl,t1⟩
   have hvl:(if Zml hd=true then Zlc hd else []).length≤6:=by split; exact Zyp _; simp
   have next:∀ (G:Zaa) (p':Nat),Zdu i k G→p≤p'→p'≤p4 + 1→Rdr G i p'→Zdb.J7 (Ypm i p h) R (g:Int) x hd (some (i,0)) zI 0 h.length 0 g0.length 0 G:=by
    intro G p' KG h1 h2 RG
    apply Zdb.J7i
    rw [Zbl (by omega)]
    exact hR (g + 1) _ _ (by omega) ⟨rfl,by omega,Kk.trans KG,⟨p',h1,by omega,RG⟩,KG.get xk (by omega),KG.get zk (by omega),l,y,c,e,KG.get ik (by omega),KG.get yk (by omega),hyl,by omega,hlc,hls⟩
   have add:∀ (G:Zaa) (p':Nat),Zdu i k G→p≤p'→p'≤p4 + 1→Rdr G i p' →
     xSl (Zag G (.ptr (some (zI,0 + 2)))) fun a_87 n_88 c_89 e_90=>Zco (Zbj G (.ptr (some (h.length,0))) 2) fun cs_91=>Zaj cs_91 fun c_92 r_93=>xSl (some c_92) fun a_94 n_95 c_96 e_97=>Zaj r_93 fun c_98 r_99=>xSl (some c_98) fun a_100 n_101 c_102 e_103=>Zbv r_99 (Zah pg Zgc [.str hd] G fun v_104 h_105=>
      Zbg (some v_104) fun s_106=>(Zbj h_105 (.ptr (some (h.length,0))) 2=Zbj G (.ptr (some (h.length,0))) 2)∧(Zag h_105 (.ptr (some (zI,0 + 2)))=Zag G (.ptr (some (zI,0 + 2))))∧Zah pg Zgk [.ptr (some (i,0)),.agg [.slice a_94 n_95 c_96 e_97,.slice a_100 n_101 c_102 e_103],.str s_106] h_105 fun v_107 h_108=>
      Znt v_107 fun cs_109=>Zaj cs_109 fun c_110 r_111=>Zbg (some c_110) fun s_112=>Zaj r_111 fun c_113 r_114=>Zbg (some c_113) fun s_115=>Zbv r_114 ((Zag h_108 (.ptr (some (zI,0 + 2)))=Zag h_105 (.ptr (some (zI,0 + 2))))∧((Zbj (h_108 ++ [.cells Zad [.str s_112,.str s_115] false]) (.ptr (some (h.length,0))) 2=Zbj h_108 (.ptr (some (h.length,0))) 2)∧(Zag (h_108 ++ [.cells Zad [.str s_112,.str s_115] false]) (.ptr (some (zI,0 + 2)))=Zag h_108 (.ptr (some (zI,0 + 2))))∧Zcz pg Zfu (h_108 ++ [.cells Zad [.str s_112,.str s_115] false]) (.slice a_87 n_88 c_89 e_90) (.slice (some (List.length h_108,0)) 1 1 true) fun v_117 h_118=>xSl (some v_117) fun a_119 n_120 c_121 e_122=>(Zbj h_118 (.ptr (some (h.length,0))) 2=Zbj (h_108 ++ [.cells Zad [.str s_112,.str s_115] false]) (.ptr (some (h.length,0))) 2)∧Zbu (Zbb h_118 (.ptr (some (zI,0 + 2))) [.slice a_119 n_120 c_121 e_122]) fun h_123=>Zdb.J7 (Ypm i p h) R (g:Int) x hd (some (i,0)) zI 0 h.length 0 g0.length 0 h_123))):=by
    intro G p' KG h1 h2 RG
    have xG:=KG.get xk (by omega)
    have zG:=KG.get zk (by omega)
    have iG:=KG.get ik (by omega)
    have yG:=KG.get yk (by omega)
    simp only [Zao iG,Nat.zero_add,List.getElem?_cons_succ,List.getElem?_cons_zero,Zae]
    rw [Zbk xG]
    simp only [Zaq,Zaf,Zan,Zae]
    refine (Zsq hd (by omega)).mono ?_
    rintro v G1 ⟨rfl,t1⟩
    have xG1:=t1.get xG (Own.lt xG)
    have iG1:=t1.get iG (Own.lt iG)
    have yG1:=t1.get yG (Own.lt yG)
    have zG1:=t1.get zG (Own.lt zG)
    simp only [Zal]
    refine ⟨by rw [Zbk xG1],by rw [Zao iG1]; rfl,?_⟩
    have KK:=Kk.trans KG
    have dG:=((d.kp KK hib).same t1)
    refine (Ybk (RG.same t1) (by omega) dG hib hn0 ws (by omega)).mono ?_
    rintro v G2 ⟨c',t',rfl,hc',ht',K2,p5,hp5,hp6,R5⟩
    have il2:=t1.le
    have xG2:=K2.get xG1 (by omega)
    have iG2:=K2.get iG1 (by omega)
    have yG2:=K2.get yG1 (by omega)
    have zG2:=K2.get zG1 (by omega)
    simp only [Zdc,Zaf,Zan,Zal]
    refine ⟨by rw [Zao iG2,Zao iG1],by rw [Zbk (Zgr xG2),Zbk xG2],by rw [Zao (Zgr iG2),Zao iG2],?_⟩
    have R5l:=R5.lt
    refine (Vec.mk1 (n:=l.length) (c:=c) yG2).pushN (sz:=2) Ybu Yng Yod Ymc (by rw [Zay Zea]) rfl (by omega) rfl (by omega) (fun G4 hl4 hi4 hk4=>?_)
    have keep:∀ {x:Nat} {o:Zcd},G2[x]?=some o→x≠y→G4[x]?=some o:=fun {x o} hx hne=>by rw [hk4 x (Own.lt hx) (fun i hi=>by cases hi; exact hne)]; exact hx
    have xG4:=keep xG2 (Zfn xG2 yG2 (by decide))
    have iG4:=keep iG2 (Zfn iG2 yG2 (by decide))
    have zG4:=keep zG2 (Zfn zG2 yG2 (by decide))
    simp only [Zae]
    refine ⟨by rw [Zbk xG4,Zbk (Zgr xG2)],?_⟩
    rw [Zbd iG4 (by simp)]
    simp only [Zas,putRow,List.take_succ_cons,List.take_zero,List.length_cons,List.length_nil,List.drop_succ_cons,List.drop_zero,List.drop_nil,List.cons_append,List.nil_append,List.append_nil]
    apply Zdb.J7i
    rw [Zbl (by omega)]
    have hiy:i≠y:=by omega
    have R6:Rdr (G4.set zI (.cells Zac [.str cl,.str hd,.slice (some (G2.length + 1,0)) (l.length + 1) (l.length + 1) false] false)) i p5:=R5.agree (fun j hj=>by rw [Zbs (by omega),hk4 j (by omega) (fun i' hi'=>by cases hi'; omega)]) (by simp; omega)
    have K26:Zdu i h (G4.set zI (.cells Zac [.str cl,.str hd,.slice (some (G2.length + 1,0)) (l.length + 1) (l.length + 1) false] false)):=by
     have K02:=(KK.trans (Zdu.of_same t1)).trans K2
     have:=K02.le
     exact ⟨by simp; omega,fun j hj hji=>by rw [Zbs (by omega),hk4 j (by omega) (fun i' hi'=>by cases hi'; omega)]; exact K02.eq j hj hji⟩
    have KKl:=((KK.trans (Zdu.of_same t1)).trans K2).le
    refine hR (g + 1) _ _ (by omega) ⟨rfl,by omega,K26,⟨p5,by omega,by omega,R6⟩,by rw [Zbs (by omega)]; exact xG4,by rw [Zbs (by omega)]; exact zG4,l ++ [(c',t')],G2.length + 1,l.length + 1,false,by simpa using Zbz iG4,?_,by omega,by simp; omega,by simp,fun q hq=>?_⟩
    ·rw [Zbs (Zfn iG4 hi4 (by decide))]; simpa [eP] using hi4
    ·rcases List.mem_append.1 hq with hq | hq
     ·exact hls q hq
     ·rw [List.mem_singleton] at hq; subst hq; exact ⟨hc',ht'⟩
   simp only [Zal,Zaw]
   generalize hvv:(if Zml hd=true then Zlc hd else [])=vs at hvl
   refine Zbq (fun hv=>?_) (fun hv=>?_)
   ·exact add k1 p4 (Zdu.of_same t1) hp1 (by omega) (Rk.same t1)
   ·refine (Zcu (Rk.same t1) (by omega) 4).mono ?_
    rintro v k2 ⟨z,rfl,_,_,_,K2,R2',_⟩
    simp only [Zar]
    refine Zcx (fun _=>?_) (fun _=>?_)
    ·exact add k2 _ ((Zdu.of_same t1).trans K2) (by omega) (by omega) R2'
    ·exact next k2 _ ((Zdu.of_same t1).trans K2) (by omega) (by omega) R2'
  ·apply Zdb.A4x0i
   rw [Zni ik]
   simp only [Zaq,Zaf,Zan,Zal,Zae]
   rw [Zbd zk (by simp)]
   simp only [Zas,putRow,List.take_zero,List.length_cons,List.length_nil,List.drop_succ_cons,List.drop_zero,List.drop_nil,List.cons_append,List.nil_append,List.append_nil,Nat.zero_add]
   rw [Zni (Zbz zk)]
   simp only [Zaq,Zaf,Zan,Zal,Zae]
   refine ⟨((cl,hd),l),some (y,0),c,e,rfl,hlc,⟨rfl,.inr ⟨y,rfl,hyl,by rw [Zbs (Zfn zk yk (by decide))]; exact yk⟩⟩,⟨hcl,by simp only; omega,by simp only; omega,hls⟩,⟨by have:=Kk.le; simp; omega,fun j hj hji=>by rw [Zbs (by omega)]; exact Kk.eq j hj hji⟩,p4,hp1,by omega,Rk.agree (fun j hj=>by rw [Zbs (by omega)]) (by simp)⟩
 have Rg1':=Rg1.lt
 have hxl:=Own.lt xg1
 have hzl1:=Own.lt zg1
 refine ⟨?_,?_,?_⟩
 ·
  refine (Zcu Rg1 (by omega) (n0:Int)).mono ?_
  rintro v g2 ⟨x,rfl,hx0,hx1,_,pg2,Rg2,lg2⟩
  have hx1:=hx1 (by omega)
  have qg2:=Own.lt xg1
  have q2g2:=Own.lt zg1
  have Kg2:=Kg1.trans pg2
  have xg2:=pg2.get xg1 (by first | omega | (have:=Own.lt xg1; omega))
  have zg2:=pg2.get zg1 (by first | omega | (have:=Own.lt zg1; omega))
  obtain ⟨k,rfl⟩:∃ k:Nat,x=k:=⟨x.toNat,by omega⟩
  obtain ⟨ic,oc,hkc,ha,hicl,_,cg2,_⟩:=(d.kp Kg2 hib).rep.class (k:=k) (by omega)
  subst ha
  have hcl:=(ws.cs _ (List.getElem_mem hkc)).1
  simp only [Zar,Zao xg2,Zao xg1,Zav,Int.toNat_natCast,Nat.add_zero,cg2,Zal,true_and,eq_self,List.getElem?_cons_zero]
  refine ⟨⟨by omega,by omega⟩,?_⟩
  refine ⟨?_,?_⟩
  ·
   generalize hg3:g2 ++ [Zcd.cells Zad [] false]=g3
   have sg3:Zbc g2.length g2 g3:=by rw [← hg3]; exact Zam
   have lg3:g3.length=g2.length + 1:=by rw [← hg3]; simp
   have Kg3:=Kg2.trans (Zdu.of_same (i:=i) sg3)
   have Rg3:=Rg2.same sg3
   have xg3:=sg3.get xg2 (Own.lt xg2)
   have zg3:=sg3.get zg2 (Own.lt zg2)
   have eg3:g3[g2.length]?=some (.cells Zad [] false):=by rw [← hg3]; simp
   have qg3:=Own.lt xg2
   have cg3:Zag g3 (.ptr (some (ic,oc + k * 2)))=some (.str w.cs[k].1):=by rw [← hg3,Zsj (by omega)]; exact cg2
   try simp only [Zao xg3,Zao xg2,cg3,cg2,true_and,eq_self,List.getElem?_cons_zero]
   generalize hg4:g3 ++ [Zcd.cells Zac [.str [],.str [],.slice none 0 0 true] false]=g4
   have sg4:Zbc g3.length g3 g4:=by rw [← hg4]; exact Zam
   have lg4:g4.length=g3.length + 1:=by rw [← hg4]; simp
   have Kg4:=Kg3.trans (Zdu.of_same (i:=i) sg4)
   have Rg4:=Rg3.same sg4
   have xg4:=sg4.get xg3 (Own.lt xg3)
   have zg4:=sg4.get zg3 (Own.lt zg3)
   have ig4:g4[g3.length]?=some (.cells Zac [.str [],.str [],.slice none 0 0 true] false):=by rw [← hg4]; simp
   have eg4:=sg4.get eg3 (Own.lt eg3)
   have qg4:=Own.lt xg3
   have cg4:Zag g4 (.ptr (some (ic,oc + k * 2)))=some (.str w.cs[k].1):=by rw [← hg4,Zsj (by omega)]; exact cg3
   try simp only [Zao xg4,Zao xg3,cg4,cg3,true_and,eq_self,List.getElem?_cons_zero]
   exact fin g4 g3.length g2.length _ _ Kg4 Rg4 (by omega) (by omega) xg4 zg4 eg4 ig4 (by omega) (by omega) hcl
  ·
   generalize hg5:g2 ++ [Zcd.cells Zac [.str [],.str [],.slice none 0 0 true] false]=g5
   have sg5:Zbc g2.length g2 g5:=by rw [← hg5]; exact Zam
   have lg5:g5.length=g2.length + 1:=by rw [← hg5]; simp
   have Kg5:=Kg2.trans (Zdu.of_same (i:=i) sg5)
   have Rg5:=Rg2.same sg5
   have xg5:=sg5.get xg2 (Own.lt xg2)
   have zg5:=sg5.get zg2 (Own.lt zg2)
   have ig5:g5[g2.length]?=some (.cells Zac [.str [],.str [],.slice none 0 0 true] false):=by rw [← hg5]; simp
   have qg5:=Own.lt xg2
   have cg5:Zag g5 (.ptr (some (ic,oc + k * 2)))=some (.str w.cs[k].1):=by rw [← hg5,Zsj (by omega)]; exact cg2
   try simp only [Zao xg5,Zao xg2,cg5,cg2,true_and,eq_self,List.getElem?_cons_zero]
   generalize hg6:g5 ++ [Zcd.cells Zad [] false]=g6
   have sg6:Zbc g5.length g5 g6:=by rw [← hg6]; exact Zam
   have lg6:g6.length=g5.length + 1:=by rw [← hg6]; simp
   have Kg6:=Kg5.trans (Zdu.of_same (i:=i) sg6)
   have Rg6:=Rg5.same sg6
   have xg6:=sg6.get xg5 (Own.lt xg5)
   have zg6:=sg6.get zg5 (Own.lt zg5)
   have eg6:g6[g5.length]?=some (.cells Zad [] false):=by rw [← hg6]; simp
   have ig6:=sg6.get ig5 (Own.lt ig5)
   have qg6:=Own.lt xg5
   have cg6:Zag g6 (.ptr (some (ic,oc + k * 2)))=some (.str w.cs[k].1):=by rw [← hg6,Zsj (by omega)]; exact cg5
   try simp only [Zao xg6,Zao xg5,cg6,cg5,true_and,eq_self,List.getElem?_cons_zero]
   exact fin g6 g2.length g5.length _ _ Kg6 Rg6 (by omega) (by omega) xg6 zg6 eg6 ig6 (by omega) (by omega) hcl
 ·
  generalize hg7:g1 ++ [Zcd.cells Zad [] false]=g7
  have sg7:Zbc g1.length g1 g7:=by rw [← hg7]; exact Zam
  have lg7:g7.length=g1.length + 1:=by rw [← hg7]; simp
  have Kg7:=Kg1.trans (Zdu.of_same (i:=i) sg7)
  have Rg7:=Rg1.same sg7
  have xg7:=sg7.get xg1 (Own.lt xg1)
  have zg7:=sg7.get zg1 (Own.lt zg1)
  have eg7:g7[g1.length]?=some (.cells Zad [] false):=by rw [← hg7]; simp
  have qg7:=Own.lt xg1
  try simp only [Zao xg7,Zao xg1,true_and,eq_self,List.getElem?_cons_zero]
  refine ⟨?_,?_⟩
  ·
   refine (Zcu Rg7 (by omega) (n0:Int)).mono ?_
   rintro v g8 ⟨x,rfl,hx0,hx1,_,pg8,Rg8,lg8⟩
   have hx1:=hx1 (by omega)
   have qg8:=Own.lt xg7
   have q2g8:=Own.lt zg7
   have Kg8:=Kg7.trans pg8
   have xg8:=pg8.get xg7 (by first | omega | (have:=Own.lt xg7; omega))
   have zg8:=pg8.get zg7 (by first | omega | (have:=Own.lt zg7; omega))
   have eg8:=pg8.get eg7 (by first | omega | (have:=Own.lt eg7; omega))
   obtain ⟨k,rfl⟩:∃ k:Nat,x=k:=⟨x.toNat,by omega⟩
   obtain ⟨ic,oc,hkc,ha,hicl,_,cg8,_⟩:=(d.kp Kg8 hib).rep.class (k:=k) (by omega)
   subst ha
   have hcl:=(ws.cs _ (List.getElem_mem hkc)).1
   simp only [Zar,Zao xg8,Zao xg7,Zav,Int.toNat_natCast,Nat.add_zero,cg8,Zal,true_and,eq_self,List.getElem?_cons_zero]
   refine ⟨⟨by omega,by omega⟩,?_⟩
   generalize hg9:g8 ++ [Zcd.cells Zac [.str [],.str [],.slice none 0 0 true] false]=g9
   have sg9:Zbc g8.length g8 g9:=by rw [← hg9]; exact Zam
   have lg9:g9.length=g8.length + 1:=by rw [← hg9]; simp
   have Kg9:=Kg8.trans (Zdu.of_same (i:=i) sg9)
   have Rg9:=Rg8.same sg9
   have xg9:=sg9.get xg8 (Own.lt xg8)
   have zg9:=sg9.get zg8 (Own.lt zg8)
   have ig9:g9[g8.length]?=some (.cells Zac [.str [],.str [],.slice none 0 0 true] false):=by rw [← hg9]; simp
   have eg9:=sg9.get eg8 (Own.lt eg8)
   have qg9:=Own.lt xg8
   have cg9:Zag g9 (.ptr (some (ic,oc + k * 2)))=some (.str w.cs[k].1):=by rw [← hg9,Zsj (by omega)]; exact cg8
   try simp only [Zao xg9,Zao xg8,cg9,cg8,true_and,eq_self,List.getElem?_cons_zero]
   exact fin g9 g8.length g1.length _ _ Kg9 Rg9 (by omega) (by omega) xg9 zg9 eg9 ig9 (by omega) (by omega) hcl
  ·
   generalize hg10:g7 ++ [Zcd.cells Zac [.str [],.str [],.slice none 0 0 true] false]=g10
   have sg10:Zbc g7.length g7 g10:=by rw [← hg10]; exact Zam
   have lg10:g10.length=g7.length + 1:=by rw [← hg10]; simp
   have Kg10:=Kg7.trans (Zdu.of_same (i:=i) sg10)
   have Rg10:=Rg7.same sg10
   have xg10:=sg10.get xg7 (Own.lt xg7)
   have zg10:=sg10.get zg7 (Own.lt zg7)
   have ig10:g10[g7.length]?=some (.cells Zac [.str [],.str [],.slice none 0 0 true] false):=by rw [← hg10]; simp
   have eg10:=sg10.get eg7 (Own.lt eg7)
   have qg10:=Own.lt xg7
   try simp only [Zao xg10,Zao xg7,true_and,eq_self,List.getElem?_cons_zero]
   refine (Zcu Rg10 (by omega) (n0:Int)).mono ?_
   rintro v g11 ⟨x,rfl,hx0,hx1,_,pg11,Rg11,lg11⟩
   have hx1:=hx1 (by omega)
   have qg11:=Own.lt xg10
   have q2g11:=Own.lt zg10
   have Kg11:=Kg10.trans pg11
   have xg11:=pg11.get xg10 (by first | omega | (have:=Own.lt xg10; omega))
   have zg11:=pg11.get zg10 (by first | omega | (have:=Own.lt zg10; omega))
   have eg11:=pg11.get eg10 (by first | omega | (have:=Own.lt eg10; omega))
   have ig11:=pg11.get ig10 (by first | omega | (have:=Own.lt ig10; omega))
   obtain ⟨k,rfl⟩:∃ k:Nat,x=k:=⟨x.toNat,by omega⟩
   obtain ⟨ic,oc,hkc,ha,hicl,_,cg11,_⟩:=(d.kp Kg11 hib).rep.class (k:=k) (by omega)
   subst ha
   have hcl:=(ws.cs _ (List.getElem_mem hkc)).1
   simp only [Zar,Zao xg11,Zao xg10,Zav,Int.toNat_natCast,Nat.add_zero,cg11,Zal,true_and,eq_self,List.getElem?_cons_zero]
   refine ⟨⟨by omega,by omega⟩,?_⟩
   exact fin g11 g7.length g1.length _ _ Kg11 Rg11 (by omega) (by omega) xg11 zg11 eg11 ig11 (by omega) (by omega) hcl
 ·
  generalize hg12:g1 ++ [Zcd.cells Zac [.str [],.str [],.slice none 0 0 true] false]=g12
  have sg12:Zbc g1.length g1 g12:=by rw [← hg12]; exact Zam
  have lg12:g12.length=g1.length + 1:=by rw [← hg12]; simp
  have Kg12:=Kg1.trans (Zdu.of_same (i:=i) sg12)
  have Rg12:=Rg1.same sg12
  have xg12:=sg12.get xg1 (Own.lt xg1)
  have zg12:=sg12.get zg1 (Own.lt zg1)
  have ig12:g12[g1.length]?=some (.cells Zac [.str [],.str [],.slice none 0 0 true] false):=by rw [← hg12]; simp
  have qg12:=Own.lt xg1
  try simp only [Zao xg12,Zao xg1,true_and,eq_self,List.getElem?_cons_zero]
  refine ⟨?_,?_⟩
  ·
   refine (Zcu Rg12 (by omega) (n0:Int)).mono ?_
   rintro v g13 ⟨x,rfl,hx0,hx1,_,pg13,Rg13,lg13⟩
   have hx1:=hx1 (by omega)
   have qg13:=Own.lt xg12
   have q2g13:=Own.lt zg12
   have Kg13:=Kg12.trans pg13
   have xg13:=pg13.get xg12 (by first | omega | (have:=Own.lt xg12; omega))
   have zg13:=pg13.get zg12 (by first | omega | (have:=Own.lt zg12; omega))
   have ig13:=pg13.get ig12 (by first | omega | (have:=Own.lt ig12; omega))
   obtain ⟨k,rfl⟩:∃ k:Nat,x=k:=⟨x.toNat,by omega⟩
   obtain ⟨ic,oc,hkc,ha,hicl,_,cg13,_⟩:=(d.kp Kg13 hib).rep.class (k:=k) (by omega)
   subst ha
   have hcl:=(ws.cs _ (List.getElem_mem hkc)).1
   simp only [Zar,Zao xg13,Zao xg12,Zav,Int.toNat_natCast,Nat.add_zero,cg13,Zal,true_and,eq_self,List.getElem?_cons_zero]
   refine ⟨⟨by omega,by omega⟩,?_⟩
   generalize hg14:g13 ++ [Zcd.cells Zad [] false]=g14
   have sg14:Zbc g13.length g13 g14:=by rw [← hg14]; exact Zam
   have lg14:g14.length=g13.length + 1:=by rw [← hg14]; simp
   have Kg14:=Kg13.trans (Zdu.of_same (i:=i) sg14)
   have Rg14:=Rg13.same sg14
   have xg14:=sg14.get xg13 (Own.lt xg13)
   have zg14:=sg14.get zg13 (Own.lt zg13)
   have eg14:g14[g13.length]?=some (.cells Zad [] false):=by rw [← hg14]; simp
   have ig14:=sg14.get ig13 (Own.lt ig13)
   have qg14:=Own.lt xg13
   have cg14:Zag g14 (.ptr (some (ic,oc + k * 2)))=some (.str w.cs[k].1):=by rw [← hg14,Zsj (by omega)]; exact cg13
   try simp only [Zao xg14,Zao xg13,cg14,cg13,true_and,eq_self,List.getElem?_cons_zero]
   exact fin g14 g1.length g13.length _ _ Kg14 Rg14 (by omega) (by omega) xg14 zg14 eg14 ig14 (by omega) (by omega) hcl
  ·
   generalize hg15:g12 ++ [Zcd.cells Zad [] false]=g15
   have sg15:Zbc g12.length g12 g15:=by rw [← hg15]; exact Zam
   have lg15:g15.length=g12.length + 1:=by rw [← hg15]; simp
   have Kg15:=Kg12.trans (Zdu.of_same (i:=i) sg15)
   have Rg15:=Rg12.same sg15
   have xg15:=sg15.get xg12 (Own.lt xg12)
   have zg15:=sg15.get zg12 (Own.lt zg12)
   have eg15:g15[g12.length]?=some (.cells Zad [] false):=by rw [← hg15]; simp
   have ig15:=sg15.get ig12 (Own.lt ig12)
   have qg15:=Own.lt xg12
   try simp only [Zao xg15,Zao xg12,true_and,eq_self,List.getElem?_cons_zero]
   refine (Zcu Rg15 (by omega) (n0:Int)).mono ?_
   rintro v g16 ⟨x,rfl,hx0,hx1,_,pg16,Rg16,lg16⟩
   have hx1:=hx1 (by omega)
   have qg16:=Own.lt xg15
   have q2g16:=Own.lt zg15
   have Kg16:=Kg15.trans pg16
   have xg16:=pg16.get xg15 (by first | omega | (have:=Own.lt xg15; omega))
   have zg16:=pg16.get zg15 (by first | omega | (have:=Own.lt zg15; omega))
   have eg16:=pg16.get eg15 (by first | omega | (have:=Own.lt eg15; omega))
   have ig16:=pg16.get ig15 (by first | omega | (have:=Own.lt ig15; omega))
   obtain ⟨k,rfl⟩:∃ k:Nat,x=k:=⟨x.toNat,by omega⟩
   obtain ⟨ic,oc,hkc,ha,hicl,_,cg16,_⟩:=(d.kp Kg16 hib).rep.class (k:=k) (by omega)
   subst ha
   have hcl:=(ws.cs _ (List.getElem_mem hkc)).1
   simp only [Zar,Zao xg16,Zao xg15,Zav,Int.toNat_natCast,Nat.add_zero,cg16,Zal,true_and,eq_self,List.getElem?_cons_zero]
   refine ⟨⟨by omega,by omega⟩,?_⟩
   exact fin g16 g1.length g12.length _ _ Kg16 Rg16 (by omega) (by omega) xg16 zg16 eg16 ig16 (by omega) (by omega) hcl
--END ORDERS
end Go.Sim

set_option linter.unusedVariables false
set_option linter.unusedSimpArgs false
set_option maxRecDepth 20000
namespace Go.Sim
open Go Go.RowKit

theorem WDr.setW {b:Nat} {h:Zaa} {a0:Pt} {n0 c0 q n1 c1:Nat} {ys:List EI} {w:Wd} {z:Nat} {cs:List Zau} {x:Zcd} (d:WDr b h a0 n0 c0 q n1 c1 ys w) (hz:h[z]?=some (.cells Zab cs false)):WDr b (h.set z x) a0 n0 c0 q n1 c1 ys w:=by
 have off:∀ {j:Nat} {t:TypeId} {c:List Zau},h[j]?=some (.cells t c false)→t≠Zab→(h.set z x)[j]?=some (.cells t c false):=fun {j t c} hj hne=>by rw [Zbs (Zfn hz hj (Ne.symm hne))]; exact hj
 exact ⟨⟨d.cls.1,d.cls.2.imp id fun ⟨i,ha,hb,hi⟩=>⟨i,ha,hb,off hi (by decide)⟩⟩,d.le0,d.bq,off d.ob (by decide),d.len,d.wl,d.le1,fun k x' i hx hi=>⟨(d.need k x' i hx hi).1,(d.need k x' i hx hi).2.1,⟨(d.need k x' i hx hi).2.2.1,(d.need k x' i hx hi).2.2.2.imp id fun ⟨i,ha,hb,hi⟩=>⟨i,ha,hb,off hi (by decide)⟩⟩⟩⟩
theorem RdK.setW {i p k z:Nat} {h h':Zaa} {x:Zcd} (r:RdK i p k h h') (hz:h.length≤z) (hi:i < h.length):RdK i p k h (h'.set z x):=
 ⟨⟨by have:=r.1.le; simp; omega,fun j hj hji=>by rw [Zbs (by omega)]; exact r.1.eq j hj hji⟩,r.2.imp fun p' ⟨h1,h2,h3⟩=>⟨h1,h2,h3.agree (fun j hj=>Zbs (by omega)) (by simp)⟩⟩
def DWQ (i p k m:Nat) (h:Zaa) (v:Zau) (h':Zaa):Prop:=∃ u w,v=.agg u∧Yuf h h' u w∧WS m w∧RdK i p k h h'
theorem Ynd {h:Zaa} {i p:Nat} (r:Rdr h i p) (hp:p≤700000000000):Zah pg Zqr [.ptr (some (i,0))] h (DWQ i p 100000 1010 h):=by
 have hil:=r.lt
 apply Zle.call
 simp only [Zaw]
 generalize hg0:h ++ [Zcd.cells Zab [.slice none 0 0 true,.slice none 0 0 true] false]=g0
 have s0:Zbc h.length h g0:=by rw [← hg0]; exact Zam
 have z0:g0[h.length]?=some (.cells Zab [.slice none 0 0 true,.slice none 0 0 true] false):=by rw [← hg0]; simp
 have l0:g0.length=h.length + 1:=by rw [← hg0]; simp
 refine (Zcu (r.same s0) (by omega) 2).mono ?_
 rintro v g1 ⟨x,rfl,_,_,_,K1,R1,l1⟩
 have z1:=K1.get z0 (by omega)
 have KK1:=(Zdu.of_same (i:=i) s0).trans K1
 simp only [Zar]
 refine Zcx (fun _=>?_) (fun _=>?_)
 ·refine (Zcu R1 (by omega) 9).mono ?_
  rintro v g2 ⟨y,rfl,hy0,hy1,_,K2,R2,l2⟩
  simp only [Zar]
  refine (Yiw hy0 (hy1 (by omega))).mono ?_
  rintro v g3 ⟨s3,u,w,rfl,⟨a0,n0,c0,e0,q,n1,c1,e1,ys,rfl,d⟩,ws⟩
  have z3:=s3.get (K2.get z1 (by omega)) (by have:=Own.lt z1; omega)
  have K3:=(KK1.trans K2).trans (Zdu.of_same s3)
  simp only [Zdc,Zaf,Zae,Zan]
  rw [Zbd z3 (by simp)]
  simp only [Zas,putRow,List.take_zero,List.length_cons,List.length_nil,List.drop_succ_cons,List.drop_zero,List.drop_nil,List.cons_append,List.nil_append,List.append_nil,Nat.zero_add]
  rw [Zbk (Zbz z3)]
  simp only [Zaq,Zaf,Zan,Zae]
  have rk:RdK i p 100000 h g3:=⟨K3,_,by omega,by omega,R2.same s3⟩
  exact ⟨_,w,rfl,⟨a0,n0,c0,e0,q,n1,c1,e1,ys,rfl,(d.low (by omega)).setW z3⟩,ws.mono (by omega),rk.setW (Nat.le_refl _) hil⟩
 ·have h1l:=R1.lt
  refine (Zmm (R1.app _) (by omega) (j:=g1.length) (t:=Zbe) (n:=5) (l:=Zur) (by simp [Zdn,eS,Zur]) (by omega) rfl (by omega)).mono ?_
  rintro v g2 ⟨s,hs,rfl,K2,R2,l2⟩
  simp only [Zal]
  have hsz:s.length≤900∧∀ b∈s,b < 256:=by
   simp only [Zur,List.mem_cons,List.not_mem_nil,or_false] at hs
   rcases hs with rfl | rfl | rfl | rfl | rfl <;> exact ⟨by decide,by decide⟩
  obtain ⟨hcs,his⟩:=Yrh s hs
  have K02:=(KK1.trans (Zdu.app i g1 [Zcd.cells Zbe [.str [69],.str [69,32,79,60,69],.str [65,32,66],.str [65,32,66,60,65,32,67,60,65,66],.str [69,32,79,60,69,32,83]] false])).trans K2
  have z2:=K2.get (Zgr z1) (by omega)
  refine (Ztj s hsz.1 hsz.2).mono ?_
  rintro v g3 ⟨s3,u,bb,rfl,a0,n0,c0,e0,q,n1,c1,e1,ys,rfl,d⟩
  have z3:=s3.get z2 (Own.lt z2)
  have K03:=K02.trans (Zdu.of_same s3)
  simp only [Zct,Zdc,Zaf,Zae,Zan,Zap]
  rw [Zfk]
  simp only [Zas]
  generalize hg4:g3 ++ [Zcd.cells Zab [.slice a0 n0 c0 e0,.slice (some (q,0)) n1 c1 e1] false]=g4
  have s4:Zbc g3.length g3 g4:=by rw [← hg4]; exact Zam
  have y4:g4[g3.length]?=some (.cells Zab [.slice a0 n0 c0 e0,.slice (some (q,0)) n1 c1 e1] false):=by rw [← hg4]; simp
  have z4:=s4.get z3 (Own.lt z3)
  have K04:=K03.trans (Zdu.of_same s4)
  have hz2:=Own.lt z2
  have l3:=s3.le
  have hiz:i≠g3.length:=by omega
  refine (Zcu ((R2.same s3).same s4) (by omega) 6).mono ?_
  rintro v g5 ⟨x5,rfl,hx50,hx51,_,K5,R5,l5⟩
  have hx51:=hx51 (by omega)
  simp only [Zar]
  rw [IntWalk.i64_in (1 + x5) (by omega)]
  have y5:=K5.get y4 (by omega)
  have z5:=K5.get z4 (by omega)
  have K05:=K04.trans K5
  have ws0:=Zyd hsz.1 hsz.2
  have hn0:1≤n0:=by
   have:=d.cls.1
   have h2:(wdP s).cs.length≠0:=fun e=>hcs (List.eq_nil_of_length_eq_zero e)
   omega
  have d5:WDr h.length g5 a0 n0 c0 q n1 c1 ys (wdP s):=(((d.low (by omega)).same s4)).kp K5 (by omega)
  refine Zle.L5ind (J:=fun (g:Nat) x21 k=>x21=(g:Int)∧(g:Int)≤1 + x5∧Zdu i h k∧(∃ p',p≤p'∧p'≤p + 10 + g * 10000∧Rdr k i p')∧k[h.length]?=some (.cells Zab [.slice none 0 0 true,.slice none 0 0 true] false) ∧
    ∃ q n1 c1 e1 ys w,k[g3.length]?=some (.cells Zab [.slice a0 n0 c0 e0,.slice (some (q,0)) n1 c1 e1] false)∧WDr h.length k a0 n0 c0 q n1 c1 ys w∧WS (1000 + g) w) (m:=fun g=>(1 + x5).toNat - g) (hr:=?_) (g:=0)
   (hj:=⟨rfl,by omega,K05,⟨_,by omega,by omega,R5⟩,z5,q,n1,c1,e1,ys,_,y5,d5,ws0⟩) ..
  rintro g x21 k ⟨rfl,hg,Kk,⟨p4,hp1,hp2,Rk⟩,zk,q,n1,c1,e1,ys,w,yk,dk,wsk⟩ R hR
  have hkl:=Rk.lt
  have hyl:=Own.lt yk
  have hn1:n1≤2000:=by have:=wsk.li; have:=dk.wl; omega
  unfold Zle.L5t
  refine Zat (fun hlt=>?_) (fun hge=>?_)
  ·simp only [Zao yk,Nat.zero_add,List.getElem?_cons_succ,List.getElem?_cons_zero,Zae]
   rw [Zbk yk]
   simp only [Zaq,Zaf,Zan,Zae,true_and]
   refine (Zvn Rk (by omega) dk (by omega) hn0 wsk).mono ?_
   rintro v k1 ⟨I,na,nc,ne,rfl,hnc,nf,isz,K1',p5,hp3,hp4,R5'⟩
   have yk1:=K1'.get yk (by omega)
   have zk1:=K1'.get zk (by omega)
   have dk1:=dk.kp K1' (by omega)
   have hk1l:=K1'.le
   simp only [Zdc,Zaf,Zan,Zal,Zae,Zaw]
   refine ⟨by rw [Zao yk1]; rfl,by rw [Zao (Zgr yk1),Zao yk1],?_⟩
   refine (Vec.mk1 (n:=n1) (c:=c1) dk1.ob).pushN (sz:=3) Zqj Zxz Zyu Zzc (by rw [Zay Zpk,dk1.len]) rfl (by omega) rfl (by omega) (fun k2 hl2 hi2 hk2=>?_)
   have hqb:=dk1.bq
   have yk2:k2[g3.length]?=some (.cells Zab [.slice a0 n0 c0 e0,.slice (some (q,0)) n1 c1 e1] false):=by rw [hk2 _ (Own.lt yk1) (fun i hi=>by cases hi; exact Zfn yk1 dk1.ob (by decide))]; exact yk1
   have zk2:k2[h.length]?=some (.cells Zab [.slice none 0 0 true,.slice none 0 0 true] false):=by rw [hk2 _ (Own.lt zk1) (fun i hi=>by cases hi; exact Zfn zk1 dk1.ob (by decide))]; exact zk1
   simp only [Zae]
   rw [Zbd yk2 (by simp)]
   simp only [Zas,putRow,List.take_succ_cons,List.take_zero,List.length_cons,List.length_nil,List.drop_succ_cons,List.drop_zero,List.drop_nil,List.cons_append,List.nil_append,List.append_nil]
   rw [Zbl (by omega)]
   have dk2:WDr h.length k2 a0 n0 c0 (k1.length + 1) (n1 + 1) (n1 + 1) (ys ++ [⟨I.1.1,I.1.2,na,I.2.length,nc,ne⟩]) ⟨w.cs,w.is ++ [I]⟩:=
    dk1.push (z:=q) (x:=⟨I.1.1,I.1.2,na,I.2.length,nc,ne⟩) ⟨rfl,rfl,nf.low (by omega)⟩ (by omega) (by simpa [eN] using hi2) (fun o ho=>by rw [dk1.ob] at ho; cases ho; exact ⟨_,rfl⟩) (fun j hj hne=>hk2 j hj (fun i hi=>by cases hi; exact hne)) (Nat.le_refl _)
   have K2':Zdu i h k2:=by
    have K01:=Kk.trans K1'
    have:=K01.le
    exact ⟨by omega,fun j hj hji=>by rw [hk2 j (by omega) (fun i' hi'=>by cases hi'; omega)]; exact K01.eq j hj hji⟩
   have rk:RdK i p (10 + (g + 1) * 10000) h k2:=⟨K2',p5,by omega,by omega,R5'.agree (fun j hj=>hk2 j (by omega) (fun i' hi'=>by cases hi'; omega)) (by omega)⟩
   obtain ⟨K3',p6,hp5,hp6,R6⟩:=rk.setW (z:=g3.length) (x:=.cells Zab [.slice a0 n0 c0 e0,.slice (some (k1.length + 1,0)) (n1 + 1) (n1 + 1) false] false) (by omega) hil
   exact hR (g + 1) _ _ (by omega) ⟨rfl,by omega,K3',⟨p6,hp5,by omega,R6⟩,by rw [Zbs (by omega)]; exact zk2,k1.length + 1,n1 + 1,n1 + 1,false,_,_,Zbz yk2,dk2.setW yk2,wsk.addI isz⟩
  ·apply Zle.A5x0i
   rw [Zbk yk]
   simp only [Zaq,Zaf,Zan,Zae]
   rw [Zbd zk (by simp)]
   simp only [Zas,putRow,List.take_zero,List.length_cons,List.length_nil,List.drop_succ_cons,List.drop_zero,List.drop_nil,List.cons_append,List.nil_append,List.append_nil,Nat.zero_add]
   rw [Zbk (Zbz zk)]
   simp only [Zaq,Zaf,Zan,Zae]
   have rk:RdK i p 100000 h k:=⟨Kk,p4,hp1,by omega,Rk⟩
   exact ⟨_,w,rfl,⟨a0,n0,c0,e0,q,n1,c1,e1,ys,rfl,dk.setW zk⟩,wsk.mono (by omega),rk.setW (Nat.le_refl _) hil⟩
end Go.Sim

set_option linter.unusedVariables false
set_option linter.unusedSimpArgs false
set_option maxRecDepth 20000
namespace Go.Sim
open Go Go.RowKit

def WAt (b:Nat) (h:Zaa) (u:List Zau) (w:Wd):Prop:=∃ a0 n0 c0 e0 q n1 c1 e1 ys,u=[.slice a0 n0 c0 e0,.slice (some (q,0)) n1 c1 e1]∧WDr b h a0 n0 c0 q n1 c1 ys w
theorem RdK.trans {i p k k' p':Nat} {h h1 h2:Zaa} (a:Zdu i h h1) (hp:p≤p') (hk:p' + k'≤p + k) (r:RdK i p' k' h1 h2):RdK i p k h h2:=⟨a.trans r.1,r.2.imp fun q ⟨h1,h2,h3⟩=>⟨by omega,by omega,h3⟩⟩
theorem WDr.newCls {b:Nat} {h h':Zaa} {a0:Pt} {n0 c0 q n1 c1:Nat} {ys:List EI} {w:Wd} (d:WDr b h a0 n0 c0 q n1 c1 ys w) (off:∀ {j:Nat} {t:TypeId} {cs:List Zau},t≠Zbf→t≠Zab→h[j]?=some (.cells t cs false)→h'[j]?=some (.cells t cs false))
  {y n c:Nat} {cs':List Nd} (hy:h'[y]?=some (.cells Zbf (Zdn eP cs') false)) (hb:b≤y) (hn:cs'.length=n) (hc:n≤c):WDr b h' (some (y,0)) n c q n1 c1 ys ⟨cs',w.is⟩:=
 ⟨⟨hn,.inr ⟨y,rfl,hb,hy⟩⟩,hc,d.bq,off (by decide) (by decide) d.ob,d.len,d.wl,d.le1,fun k x i hx hi=>⟨(d.need k x i hx hi).1,(d.need k x i hx hi).2.1,⟨(d.need k x i hx hi).2.2.1,(d.need k x i hx hi).2.2.2.imp id fun ⟨j,ha,hb,hj⟩=>⟨j,ha,hb,off (by decide) (by decide) hj⟩⟩⟩⟩
theorem Yqq {h:Zaa} {i p b m:Nat} {a0:Pt} {n0 c0 q n1 c1:Nat} {e0 e1:Bool} {ys:List EI} {w:Wd} (r:Rdr h i p) (hp:p≤800000000000) (d:WDr b h a0 n0 c0 q n1 c1 ys w) (hib:i < b) (hbh:b≤h.length) (ws:WS m w) (hm:m≤100000) :
  Zah pg Zrx [.ptr (some (i,0)),.agg [.slice a0 n0 c0 e0,.slice (some (q,0)) n1 c1 e1]] h fun v h'=>∃ u w',v=.agg u∧WAt b h' u w'∧WS (m + 11) w'∧RdK i p 100 h h':=by
 have hil:=r.lt
 have hn0:n0≤100000:=by have:=ws.lc; have:=d.cls.1; omega
 have hn1:n1≤100000:=by have:=ws.li; have:=d.wl; omega
 apply Zib.call
 simp only [Zaw]
 generalize hg0:h ++ [Zcd.cells Zab [.slice a0 n0 c0 e0,.slice (some (q,0)) n1 c1 e1] false]=g0
 have s0:Zbc h.length h g0:=by rw [← hg0]; exact Zam
 have x0:g0[h.length]?=some (.cells Zab [.slice a0 n0 c0 e0,.slice (some (q,0)) n1 c1 e1] false):=by rw [← hg0]; simp
 have l0:g0.length=h.length + 1:=by rw [← hg0]; simp
 generalize hg1:g0 ++ [Zcd.cells Zab [.slice none 0 0 true,.slice none 0 0 true] false]=g1
 have s1:Zbc g0.length g0 g1:=by rw [← hg1]; exact Zam
 have x1:=s1.get x0 (Own.lt x0)
 have z1:g1[g0.length]?=some (.cells Zab [.slice none 0 0 true,.slice none 0 0 true] false):=by rw [← hg1]; simp
 have l1:g1.length=g0.length + 1:=by rw [← hg1]; simp
 have S1:=s0.cat s1
 refine (Zcu (r.same S1) (by omega) 36).mono ?_
 rintro v g3 ⟨x,rfl,_,_,_,K3,R3,l3⟩
 have x3:=K3.get x1 (by omega)
 have z3:=K3.get z1 (by omega)
 have KK3:=(Zdu.of_same (i:=i) S1).trans K3
 have d3:WDr b g3 a0 n0 c0 q n1 c1 ys w:=(d.same S1).kp K3 hib
 simp only [Zar]
 have fin:∀ (G:Zaa) (a0:Pt) (n0 c0:Nat) (e0:Bool) (q n1 c1:Nat) (e1:Bool) (ys:List EI) (w':Wd) (p':Nat),Zdu i h G→Rdr G i p'→p≤p'→p'≤p + 100→G[h.length]?=some (.cells Zab [.slice a0 n0 c0 e0,.slice (some (q,0)) n1 c1 e1] false)→G[g0.length]?=some (.cells Zab [.slice none 0 0 true,.slice none 0 0 true] false) →
   WDr b G a0 n0 c0 q n1 c1 ys w'→WS (m + 11) w'→Zib.J11 (fun v h'=>∃ u w',v=.agg u∧WAt b h' u w'∧WS (m + 11) w'∧RdK i p 100 h h') h.length 0 g0.length 0 G:=by
  intro G a0 n0 c0 e0 q n1 c1 e1 ys w' p' KG RG h1 h2 xG zG dG wG
  apply Zib.J11i
  rw [Zbk xG]
  simp only [Zaq,Zaf,Zan,Zae]
  rw [Zbd zG (by simp)]
  simp only [Zas,putRow,List.take_zero,List.length_cons,List.length_nil,List.drop_succ_cons,List.drop_zero,List.drop_nil,List.cons_append,List.nil_append,List.append_nil,Nat.zero_add]
  rw [Zbk (Zbz zG)]
  simp only [Zaq,Zaf,Zan,Zae]
  have rk:RdK i p 100 h G:=⟨KG,p',h1,h2,RG⟩
  exact ⟨_,w',rfl,⟨a0,n0,c0,e0,q,n1,c1,e1,ys,rfl,dG.setW zG⟩,wG,rk.setW (by omega) hil⟩
 have h3l:=R3.lt
 have hx3l:=Own.lt x3
 have hz3l:=Own.lt z3
 refine Zcx (fun _=>?_) (fun _=>Zcx (fun _=>?_) (fun _=>Zcx (fun _=>?_) (fun _=>?_)))
 ·-- one class more
  generalize hg5:g3 ++ [Zcd.cells Zbf [] false]=g5
  have s5:Zbc g3.length g3 g5:=by rw [← hg5]; exact Zam
  have c5:g5[g3.length]?=some (.cells Zbf [] false):=by rw [← hg5]; simp
  have l5:g5.length=g3.length + 1:=by rw [← hg5]; simp
  have x5:=s5.get x3 hx3l
  have z5:=s5.get z3 hz3l
  have d5:=d3.same s5
  have R5:=R3.same s5
  simp only [Zao x5,Nat.zero_add,List.getElem?_cons_zero,Zae]
  refine Vec.app0 (n:=0) (e:=true) c5 Zxh Yhj Yhl Yhr (by simp) ((d5.cls.row Zea).rowOf) (Zrv (enc:=eP) (fun _=>rfl) w.cs) (by omega) (fun g6 hl6 hi6 hk6=>?_)
  have keep6:∀ {j:Nat} {o:Zcd},g5[j]?=some o→j≠g3.length→g6[j]?=some o:=fun {j o} hj hne=>by rw [hk6 j (Own.lt hj) hne]; exact hj
  have x6:=keep6 x5 (by omega)
  have z6:=keep6 z5 (by omega)
  have d6:WDr b g6 a0 n0 c0 q n1 c1 ys w:=d3.keep fun j hj hjl=>by rw [hk6 j (by omega) (by omega),s5.eq j hjl]
  have K6:Zdu i h g6:=by
   have:=(KK3.trans (Zdu.of_same s5)).le
   exact ⟨by omega,fun j hj hji=>by rw [hk6 j (by omega) (by have:=KK3.le; omega)]; exact (KK3.trans (Zdu.of_same s5)).eq j hj hji⟩
  have R6:Rdr g6 i (p + 1):=R5.agree (fun j hj=>hk6 j (by omega) (by omega)) (by omega)
  have i6:g6[g5.length]?=some (.cells Zbf (Zdn eP w.cs) false):=by simpa using hi6
  simp only [Zae]
  have h6l:=R6.lt
  refine (Zmm (R6.app _) (by omega) (j:=g6.length) (t:=Zbe) (n:=4) (l:=[[69],[73],[],[72]]) (by simp [Zdn,eS]) (by omega) rfl (by omega)).mono ?_
  rintro v g7 ⟨s,hs,rfl,K7,R7,l7⟩
  simp only [Zal]
  have hsz:s.length≤1000∧∀ b∈s,b < 256:=by
   simp only [List.mem_cons,List.not_mem_nil,or_false] at hs
   rcases hs with rfl | rfl | rfl | rfl <;> exact ⟨by decide,by decide⟩
  have h7l:=R7.lt
  refine (Zmm (R7.app _) (by omega) (j:=g7.length) (t:=Zbe) (n:=4) (l:=[[],[69],[72],[90]]) (by simp [Zdn,eS]) (by omega) rfl (by omega)).mono ?_
  rintro v g8 ⟨s',hs',rfl,K8,R8,l8⟩
  simp only [Zal]
  have hsz':s'.length≤1000:=by
   simp only [List.mem_cons,List.not_mem_nil,or_false] at hs'
   rcases hs' with rfl | rfl | rfl | rfl <;> decide
  have K68:Zdu i g6 g8:=(((Zdu.app i g6 _).trans K7).trans (Zdu.app i g7 _)).trans K8
  have x8:=K68.get x6 (by omega)
  have z8:=K68.get z6 (by omega)
  have i8:=K68.get i6 (by omega)
  have d8:=d6.kp K68 hib
  have hlcs:w.cs.length=n0:=d.cls.1
  refine (Vec.mk1 (n:=0 + n0) (c:=0 + n0) i8).pushN (sz:=2) Zxh Yhj Yhl Yhr (by rw [Zay Zea]; omega) rfl (by omega) rfl (by omega) (fun g9 hl9 hi9 hk9=>?_)
  have keep9:∀ {j:Nat} {o:Zcd},g8[j]?=some o→j≠g5.length→g9[j]?=some o:=fun {j o} hj hne=>by rw [hk9 j (Own.lt hj) (fun i hi=>by cases hi; exact hne)]; exact hj
  have x9:=keep9 x8 (by omega)
  have z9:=keep9 z8 (by omega)
  have KK8:=K6.trans K68
  have hKl:=KK8.le
  simp only [Zae]
  rw [Zbd x9 (by simp)]
  simp only [Zas,putRow,List.take_zero,List.length_cons,List.length_nil,List.drop_succ_cons,List.drop_zero,List.drop_nil,List.cons_append,List.nil_append,List.append_nil]
  have hi9':(g9.set h.length (.cells Zab [.slice (some (g8.length + 1,0)) (0 + n0 + 1) (0 + n0 + 1) false,.slice (some (q,0)) n1 c1 e1] false))[g8.length + 1]?=some (.cells Zbf (Zdn eP (w.cs ++ [(s,s')])) false):=by rw [Zbs (by omega)]; simpa [eP] using hi9
  have rk:RdK i p 100 h g9:=⟨⟨by omega,fun j hj hji=>by rw [hk9 j (by omega) (fun i' hi'=>by cases hi'; have:=KK3.le; omega)]; exact KK8.eq j hj hji⟩,p + 1 + 1 + 1,by omega,by omega,R8.agree (fun j hj=>hk9 j (by omega) (fun i' hi'=>by cases hi'; omega)) (by omega)⟩
  obtain ⟨KW,pW,hW1,hW2,RW⟩:=rk.setW (z:=h.length) (x:=.cells Zab [.slice (some (g8.length + 1,0)) (0 + n0 + 1) (0 + n0 + 1) false,.slice (some (q,0)) n1 c1 e1] false) (Nat.le_refl _) hil
  exact fin _ _ _ _ _ _ _ _ _ ys ⟨w.cs ++ [(s,s')],w.is⟩ pW KW RW hW1 hW2 (Zbz x9) (by rw [Zbs (by omega)]; exact z9)
   (d8.newCls (fun {j t cs} h1 h2 hj=>by rw [Zbs (Zfn x9 (keep9 hj (Zfn hj i8 h1)) (Ne.symm h2))]; exact keep9 hj (Zfn hj i8 h1)) hi9' (by omega) (by simp; omega) (Nat.le_refl _)) ((ws.addC (p:=(s,s')) ⟨hsz.1,hsz',hsz.2⟩).mono (by omega))
 ·-- one instance more
  generalize hg5:g3 ++ [Zcd.cells Zac [] false]=g5
  have s5:Zbc g3.length g3 g5:=by rw [← hg5]; exact Zam
  have c5:g5[g3.length]?=some (.cells Zac [] false):=by rw [← hg5]; simp
  have l5:g5.length=g3.length + 1:=by rw [← hg5]; simp
  have x5:=s5.get x3 hx3l
  have z5:=s5.get z3 hz3l
  have d5:=d3.same s5
  have R5:=R3.same s5
  simp only [Zao x5,Nat.zero_add,List.getElem?_cons_succ,List.getElem?_cons_zero,Zae]
  have row5:rowOf g5 (some (q,0)) (n1 * 3)=some (Zdn eN ys):=((Vec.mk1 (n:=0) (c:=0) d5.ob).row (m:=n1 * 3) (by rw [Zay Zpk,d5.len])).rowOf
  refine Vec.app0 (n:=0) (e:=true) c5 Zqj Zxz Zyu Zzc (by simp) row5 (Zrv (enc:=eN) (fun _=>rfl) ys) (by omega) (fun g6 hl6 hi6 hk6=>?_)
  have keep6:∀ {j:Nat} {o:Zcd},g5[j]?=some o→j≠g3.length→g6[j]?=some o:=fun {j o} hj hne=>by rw [hk6 j (Own.lt hj) hne]; exact hj
  have x6:=keep6 x5 (by omega)
  have z6:=keep6 z5 (by omega)
  have d6:WDr b g6 a0 n0 c0 q n1 c1 ys w:=d3.keep fun j hj hjl=>by rw [hk6 j (by omega) (by omega),s5.eq j hjl]
  have K6:Zdu i h g6:=by
   have:=(KK3.trans (Zdu.of_same s5)).le
   exact ⟨by omega,fun j hj hji=>by rw [hk6 j (by omega) (by have:=KK3.le; omega)]; exact (KK3.trans (Zdu.of_same s5)).eq j hj hji⟩
  have R6:Rdr g6 i (p + 1):=R5.agree (fun j hj=>hk6 j (by omega) (by omega)) (by omega)
  have i6:g6[g5.length]?=some (.cells Zac (Zdn eN ys) false):=by simpa using hi6
  simp only [Zae]
  have h6l:=R6.lt
  refine (Zmm (R6.app _) (by omega) (j:=g6.length) (t:=Zbe) (n:=3) (l:=[[69],[72],[65]]) (by simp [Zdn,eS]) (by omega) rfl (by omega)).mono ?_
  rintro v g7 ⟨s,hs,rfl,K7,R7,l7⟩
  simp only [Zal]
  have hsz1:s.length≤1000:=by
   simp only [List.mem_cons,List.not_mem_nil,or_false] at hs
   rcases hs with rfl | rfl | rfl <;> decide
  have h7l:=R7.lt
  refine (Zmm (R7.app _) (by omega) (j:=g7.length) (t:=Zbe) (n:=4) (l:=[[120],[113],[105],[108,40,120,41]]) (by simp [Zdn,eS]) (by omega) rfl (by omega)).mono ?_
  rintro v g8 ⟨s',hs',rfl,K8,R8,l8⟩
  simp only [Zal]
  have hsz2:s'.length≤1000:=by
   simp only [List.mem_cons,List.not_mem_nil,or_false] at hs'
   rcases hs' with rfl | rfl | rfl | rfl <;> decide
  have h8l:=R8.lt
  refine (Zmm (R8.app _) (by omega) (j:=g8.length) (t:=Zbe) (n:=3) (l:=[[69],[65],[72]]) (by simp [Zdn,eS]) (by omega) rfl (by omega)).mono ?_
  rintro v g9 ⟨s2,hs2,rfl,K9,R9,l9⟩
  simp only [Zal]
  have hsz3:s2.length≤1000:=by
   simp only [List.mem_cons,List.not_mem_nil,or_false] at hs2
   rcases hs2 with rfl | rfl | rfl <;> decide
  have h9l:=R9.lt
  refine (Zmm (R9.app _) (by omega) (j:=g9.length) (t:=Zbe) (n:=3) (l:=[[121],[105],[113]]) (by simp [Zdn,eS]) (by omega) rfl (by omega)).mono ?_
  rintro v ga ⟨s3,hs3,rfl,Ka,Ra,la⟩
  simp only [Zal]
  have hsz4:s3.length≤1000:=by
   simp only [List.mem_cons,List.not_mem_nil,or_false] at hs3
   rcases hs3 with rfl | rfl | rfl <;> decide
  have K6a:Zdu i g6 ga:=(((((((Zdu.app i g6 _).trans K7).trans (Zdu.app i g7 _)).trans K8).trans (Zdu.app i g8 _)).trans K9).trans (Zdu.app i g9 _)).trans Ka
  have hK6a:=K6a.le
  generalize hgb:ga ++ [Zcd.cells Zad [.str s2,.str s3] false]=gb
  have sb:Zbc ga.length ga gb:=by rw [← hgb]; exact Zam
  have nb:gb[ga.length]?=some (.cells Zad (Zdn eP [(s2,s3)]) false):=by rw [← hgb]; simp [eP]
  have lb:gb.length=ga.length + 1:=by rw [← hgb]; simp
  have K6b:=K6a.trans (Zdu.of_same sb)
  have xb:=K6b.get x6 (by omega)
  have zb:=K6b.get z6 (by omega)
  have ib:=K6b.get i6 (by omega)
  have db:=d6.kp K6b hib
  have Rb:=Ra.same sb
  have Kb:=K6.trans K6b
  have hKl:=Kb.le
  have hlI:ys.length=n1:=d.len
  have hKl3:=KK3.le
  refine (Vec.mk1 (n:=0 + n1) (c:=0 + n1) ib).pushN (sz:=3) Zqj Zxz Zyu Zzc (by rw [Zay Zpk]; omega) rfl (by omega) rfl (by omega) (fun gc hlc hic hkc=>?_)
  have keepc:∀ {j:Nat} {o:Zcd},gb[j]?=some o→j≠g5.length→gc[j]?=some o:=fun {j o} hj hne=>by rw [hkc j (Own.lt hj) (fun i hi=>by cases hi; exact hne)]; exact hj
  have xc:=keepc xb (by omega)
  have zc:=keepc zb (by omega)
  have dc:WDr b gc a0 n0 c0 (gb.length + 1) (n1 + 1) (0 + n1 + 1) (ys ++ [⟨s,s',some (ga.length,0),1,1,true⟩]) ⟨w.cs,w.is ++ [((s,s'),[(s2,s3)])]⟩:=
   db.push (z:=g5.length) (x:=⟨s,s',some (ga.length,0),1,1,true⟩) (i:=((s,s'),[(s2,s3)])) ⟨rfl,rfl,rfl,.inr ⟨ga.length,rfl,by omega,nb⟩⟩ (by omega) (by simpa [eN] using hic) (fun o ho=>by rw [ib] at ho; cases ho; exact ⟨_,rfl⟩) (fun j hj hne=>hkc j hj (fun i hi=>by cases hi; exact hne)) (by omega)
  simp only [Zae]
  rw [Zbd xc (by simp)]
  simp only [Zas,putRow,List.take_succ_cons,List.take_zero,List.length_cons,List.length_nil,List.drop_succ_cons,List.drop_zero,List.drop_nil,List.cons_append,List.nil_append,List.append_nil]
  have rk:RdK i p 100 h gc:=⟨⟨by omega,fun j hj hji=>by rw [hkc j (by omega) (fun i' hi'=>by cases hi'; omega)]; exact Kb.eq j hj hji⟩,_,by omega,by omega,Rb.agree (fun j hj=>hkc j (by omega) (fun i' hi'=>by cases hi'; omega)) (by omega)⟩
  obtain ⟨KW,pW,hW1,hW2,RW⟩:=rk.setW (z:=h.length) (x:=.cells Zab [.slice a0 n0 c0 e0,.slice (some (gb.length + 1,0)) (0 + n1 + 1) (0 + n1 + 1) false] false) (Nat.le_refl _) hil
  have e01:0 + n1 + 1=n1 + 1:=by omega
  rw [e01] at KW RW dc ⊢
  exact fin _ _ _ _ _ _ _ _ _ _ _ pW KW RW hW1 hW2 (Zbz xc) (by rw [Zbs (by omega)]; exact zc) (dc.setW xc) ((ws.addI (i:=((s,s'),[(s2,s3)])) ⟨hsz1,hsz2,by simp,fun q hq=>by simp at hq; subst hq; exact ⟨hsz3,hsz4⟩⟩).mono (by omega))
 ·-- ten instances more
  refine Zib.L8ind (J:=fun (g:Nat) x50 k=>x50=(g:Int)∧g≤10∧Zdu i h k∧Rdr k i (p + 1)∧k[g0.length]?=some (.cells Zab [.slice none 0 0 true,.slice none 0 0 true] false) ∧
    ∃ q n1 c1 e1 ys w',k[h.length]?=some (.cells Zab [.slice a0 n0 c0 e0,.slice (some (q,0)) n1 c1 e1] false)∧WDr b k a0 n0 c0 q n1 c1 ys w'∧WS (m + g) w') (m:=fun g=>10 - g) (hr:=?_) (g:=0)
   (hj:=⟨rfl,by omega,KK3,R3,z3,q,n1,c1,e1,ys,w,x3,d3,ws⟩) ..
  rintro g x50 k ⟨rfl,hg,Kk,Rk,zk,q,n1,c1,e1,ys,w',xk,dk,wk'⟩ R hR
  have hkl:=Rk.lt
  have hxl:=Own.lt xk
  have hzl:=Own.lt zk
  have hn1':n1≤200000:=by have:=wk'.li; have:=dk.wl; omega
  unfold Zib.L8t
  refine Zat (fun hlt=>?_) (fun hge=>?_)
  ·simp only [Zaw]
   generalize hg5:k ++ [Zcd.cells Zac [] false]=g5
   have s5:Zbc k.length k g5:=by rw [← hg5]; exact Zam
   have c5:g5[k.length]?=some (.cells Zac [] false):=by rw [← hg5]; simp
   have l5:g5.length=k.length + 1:=by rw [← hg5]; simp
   have x5:=s5.get xk hxl
   have z5:=s5.get zk hzl
   have d5:=dk.same s5
   have R5:=Rk.same s5
   simp only [Zao x5,Nat.zero_add,List.getElem?_cons_succ,List.getElem?_cons_zero,Zae]
   have row5:rowOf g5 (some (q,0)) (n1 * 3)=some (Zdn eN ys):=((Vec.mk1 (n:=0) (c:=0) d5.ob).row (m:=n1 * 3) (by rw [Zay Zpk,d5.len])).rowOf
   refine Vec.app0 (n:=0) (e:=true) c5 Zqj Zxz Zyu Zzc (by simp) row5 (Zrv (enc:=eN) (fun _=>rfl) ys) (by omega) (fun g6 hl6 hi6 hk6=>?_)
   have keep6:∀ {j:Nat} {o:Zcd},g5[j]?=some o→j≠k.length→g6[j]?=some o:=fun {j o} hj hne=>by rw [hk6 j (Own.lt hj) hne]; exact hj
   have x6:=keep6 x5 (by omega)
   have z6:=keep6 z5 (by omega)
   have d6:WDr b g6 a0 n0 c0 q n1 c1 ys w':=dk.keep fun j hj hjl=>by rw [hk6 j (by omega) (by omega),s5.eq j hjl]
   have i6:g6[g5.length]?=some (.cells Zac (Zdn eN ys) false):=by simpa using hi6
   simp only [Zae]
   generalize hga:g6 ++ [Zcd.cells Zad [] false]=ga
   have sa:Zbc g6.length g6 ga:=by rw [← hga]; exact Zam
   have na:ga[g6.length]?=some (.cells Zad [] false):=by rw [← hga]; simp
   have la:ga.length=g6.length + 1:=by rw [← hga]; simp
   have xa:=sa.get x6 (Own.lt x6)
   have za:=sa.get z6 (Own.lt z6)
   have ia:=sa.get i6 (Own.lt i6)
   have da:=d6.same sa
   have hkb:=Kk.le
   have hlI:ys.length=n1:=dk.len
   refine (Vec.mk1 (n:=0 + n1) (c:=0 + n1) ia).pushN (sz:=3) Zqj Zxz Zyu Zzc (by rw [Zay Zpk]; omega) rfl (by omega) rfl (by omega) (fun gc hlc hic hkc=>?_)
   have keepc:∀ {j:Nat} {o:Zcd},ga[j]?=some o→j≠g5.length→gc[j]?=some o:=fun {j o} hj hne=>by rw [hkc j (Own.lt hj) (fun i hi=>by cases hi; exact hne)]; exact hj
   have xc:=keepc xa (by omega)
   have zc:=keepc za (by omega)
   have dc:WDr b gc a0 n0 c0 (ga.length + 1) (n1 + 1) (0 + n1 + 1) (ys ++ [⟨[69],[105],some (g6.length,0),0,0,true⟩]) ⟨w'.cs,w'.is ++ [(([69],[105]),[])]⟩:=
    da.push (z:=g5.length) (x:=⟨[69],[105],some (g6.length,0),0,0,true⟩) (i:=(([69],[105]),[])) ⟨rfl,rfl,rfl,.inl rfl⟩ (by omega) (by simpa [eN] using hic) (fun o ho=>by rw [ia] at ho; cases ho; exact ⟨_,rfl⟩) (fun j hj hne=>hkc j hj (fun i hi=>by cases hi; exact hne)) (by omega)
   simp only [Zae]
   rw [Zbd xc (by simp)]
   simp only [Zas,putRow,List.take_succ_cons,List.take_zero,List.length_cons,List.length_nil,List.drop_succ_cons,List.drop_zero,List.drop_nil,List.cons_append,List.nil_append,List.append_nil]
   rw [Zbl (by omega)]
   have low:∀ j,j < k.length→gc[j]?=k[j]?:=fun j hj=>by rw [hkc j (by omega) (fun i' hi'=>by cases hi'; omega),sa.eq j (by omega),hk6 j (by omega) (by omega),s5.eq j hj]
   have rk:RdK i (p + 1) 0 h gc:=⟨⟨by omega,fun j hj hji=>by rw [low j (by omega)]; exact Kk.eq j hj hji⟩,_,Nat.le_refl _,Nat.le_refl _,Rk.agree (fun j hj=>low j (by omega)) (by omega)⟩
   obtain ⟨KW,pW,hW1,hW2,RW⟩:=rk.setW (z:=h.length) (x:=.cells Zab [.slice a0 n0 c0 e0,.slice (some (ga.length + 1,0)) (0 + n1 + 1) (0 + n1 + 1) false] false) (Nat.le_refl _) hil
   have e01:0 + n1 + 1=n1 + 1:=by omega
   have ep:pW=p + 1:=by omega
   subst ep
   rw [e01] at KW RW dc ⊢
   exact hR (g + 1) _ _ (by omega) ⟨rfl,by omega,KW,RW,by rw [Zbs (by omega)]; exact zc,_,_,_,_,_,_,Zbz xc,dc.setW xc,wk'.addI (i:=(([69],[105]),[])) ⟨by simp,by simp,by simp,by simp⟩⟩
  ·apply Zib.A8x1i
   exact fin k a0 n0 c0 e0 q n1 c1 e1 ys w' (p + 1) Kk Rk (by omega) (by omega) xk zk dk (wk'.mono (by omega))
 ·exact fin g3 a0 n0 c0 e0 q n1 c1 e1 ys w (p + 1) KK3 R3 (by omega) (by omega) x3 z3 d3 (ws.mono (by omega))
theorem Zus {h:Zaa} {i p:Nat} (r:Rdr h i p) (hp:p≤600000000000):Zah pg Zil [.ptr (some (i,0))] h (DWQ i p 200000 1021 h):=by
 have hil:=r.lt
 apply Zve.call
 simp only [Zaw]
 generalize hg0:h ++ [Zcd.cells Zab [.slice none 0 0 true,.slice none 0 0 true] false]=g0
 have s0:Zbc h.length h g0:=by rw [← hg0]; exact Zam
 have z0:g0[h.length]?=some (.cells Zab [.slice none 0 0 true,.slice none 0 0 true] false):=by rw [← hg0]; simp
 have l0:g0.length=h.length + 1:=by rw [← hg0]; simp
 refine (Ynd (r.same s0) (by omega)).mono ?_
 rintro v g1 ⟨u,w,rfl,⟨a0,n0,c0,e0,q,n1,c1,e1,ys,rfl,d⟩,ws,K1,p1,hp1,hp2,R1⟩
 have z1:=K1.get z0 (by omega)
 have l1:=K1.le
 simp only [Zdc,Zaf,Zae,Zan]
 refine (Yqq R1 (by omega) (d.low (show h.length≤g0.length by omega)) hil (by omega) ws (by omega)).mono ?_
 rintro v g2 ⟨u,w',rfl,⟨a0,n0,c0,e0,q,n1,c1,e1,ys,rfl,d2⟩,ws2,K2,p2,hp3,hp4,R2⟩
 have z2:=K2.get z1 (by omega)
 simp only [Zdc,Zaf,Zae,Zan]
 rw [Zbd z2 (by simp)]
 simp only [Zas,putRow,List.take_zero,List.length_cons,List.length_nil,List.drop_succ_cons,List.drop_zero,List.drop_nil,List.cons_append,List.nil_append,List.append_nil,Nat.zero_add]
 rw [Zbk (Zbz z2)]
 simp only [Zaq,Zaf,Zan,Zae]
 have rk:RdK i p 200000 h g2:=⟨((Zdu.of_same s0).trans K1).trans K2,p2,by omega,by omega,R2⟩
 exact ⟨_,w',rfl,⟨a0,n0,c0,e0,q,n1,c1,e1,ys,rfl,d2.setW z2⟩,ws2,rk.setW (Nat.le_refl _) hil⟩
theorem Zyh {h:Zaa} {i p b m:Nat} {a0:Pt} {n0 c0 q n1 c1:Nat} {e0 e1:Bool} {ys:List EI} {w:Wd} (r:Rdr h i p) (hp:p≤900000000000) (d:WDr b h a0 n0 c0 q n1 c1 ys w) (hib:i < b) (ws:WS m w) :
  Zah pg Zkn [.ptr (some (i,0)),.agg [.slice a0 n0 c0 e0,.slice (some (q,0)) n1 c1 e1]] h fun v h'=>∃ s:List Nat,v=.str s∧s.length≤1000∧RdK i p 10 h h':=by
 have hil:=r.lt
 apply Zog.call
 simp only [Zaw]
 generalize hg0:h ++ [Zcd.cells Zab [.slice a0 n0 c0 e0,.slice (some (q,0)) n1 c1 e1] false]=g0
 have s0:Zbc h.length h g0:=by rw [← hg0]; exact Zam
 have x0:g0[h.length]?=some (.cells Zab [.slice a0 n0 c0 e0,.slice (some (q,0)) n1 c1 e1] false):=by rw [← hg0]; simp
 have R0:=r.same s0
 have oth:∀ (G:Zaa) (p':Nat),Zdu i h G→Rdr G i p'→p≤p'→p'≤p + 5→Zah pg Zcf [.ptr (some (i,0)),.slice (some (List.length G,0)) 4 4 true] (G ++ [.cells Zbe [.str [69],.str [90],.str [],.str [69,79]] false]) fun v_6 h_7=>Zbg (some v_6) fun s_8=>∃ s:List Nat,Zau.str s_8=.str s∧s.length≤1000∧RdK i p 10 h h_7:=by
  intro G p' KG RG h1 h2
  have hGl:=RG.lt
  refine (Zmm (RG.app _) (by omega) (j:=G.length) (t:=Zbe) (n:=4) (l:=[[69],[90],[],[69,79]]) (by simp [Zdn,eS]) (by omega) rfl (by omega)).mono ?_
  rintro v g7 ⟨s,hs,rfl,K7,R7,l7⟩
  simp only [Zal]
  refine ⟨s,rfl,?_,⟨(KG.trans (Zdu.app i G _)).trans K7,_,by omega,by omega,R7⟩⟩
  simp only [List.mem_cons,List.not_mem_nil,or_false] at hs
  rcases hs with rfl | rfl | rfl | rfl <;> decide
 simp only [Zao x0,Nat.zero_add,List.getElem?_cons_zero,Zae]
 refine Zcx (fun _=>oth g0 p (Zdu.of_same s0) R0 (by omega) (by omega)) (fun hne=>?_)
 refine (Zcu R0 (by omega) 16).mono ?_
 rintro v g1 ⟨x,rfl,_,_,_,K1,R1,l1⟩
 have x1:=K1.get x0 (by omega)
 have KK1:=(Zdu.of_same (i:=i) s0).trans K1
 simp only [Zar]
 refine Zcx (fun _=>oth g1 _ KK1 R1 (by omega) (by omega)) (fun _=>?_)
 apply Zog.J3i
 simp only [Zao x1,Nat.zero_add,List.getElem?_cons_zero,Zae,true_and]
 refine (Zcu R1 (by omega) (n0:Int)).mono ?_
 rintro v g2 ⟨y,rfl,hy0,hy1,_,K2,R2,l2⟩
 have hy1:=hy1 (by omega)
 have x2:=K2.get x1 (by omega)
 obtain ⟨k,rfl⟩:∃ k:Nat,y=k:=⟨y.toNat,by omega⟩
 have KK2:=KK1.trans K2
 obtain ⟨ic,oc,hkc,ha,_,_,hc,_⟩:=(d.kp KK2 hib).rep.class (k:=k) (by omega)
 subst ha
 have hcl:=(ws.cs _ (List.getElem_mem hkc)).1
 simp only [Zar,Zao x2,List.getElem?_cons_zero,Zav,Int.toNat_natCast,Nat.add_zero,hc,Zal,true_and]
 exact ⟨⟨by omega,by omega⟩,_,rfl,hcl,KK2,_,by omega,by omega,R2⟩
end Go.Sim

set_option linter.unusedVariables false
set_option linter.unusedSimpArgs false
set_option maxRecDepth 20000
namespace Go.Sim
open Go Go.RowKit

def Yto (i p:Nat) (h:Zaa) (v:Zau) (h':Zaa):Prop:=∃ u w,∃ nd:Nd,v=.tup [.agg u,.agg [.str nd.1,.str nd.2]]∧Yuf h h' u w∧WS 1021 w∧nd.1.length≤1000∧nd.2.length≤1000∧RdK i p 300000 h h'
theorem WDr.setN {b:Nat} {h:Zaa} {a0:Pt} {n0 c0 q n1 c1:Nat} {ys:List EI} {w:Wd} {z:Nat} {x:Zcd} (d:WDr b h a0 n0 c0 q n1 c1 ys w) (hz:z < b):WDr b (h.set z x) a0 n0 c0 q n1 c1 ys w:=d.keep fun j hj hl=>Zbs (by omega)
theorem Ylb {h:Zaa} {i p:Nat} (r:Rdr h i p) (hp:p≤500000000000):Zah pg Znh [.ptr (some (i,0))] h (Yto i p h):=by
 have hil:=r.lt
 apply Zih.call
 simp only [Zaw]
 generalize hg0:h ++ [Zcd.cells Zab [.slice none 0 0 true,.slice none 0 0 true] false]=g0
 have s0:Zbc h.length h g0:=by rw [← hg0]; exact Zam
 have w0:g0[h.length]?=some (.cells Zab [.slice none 0 0 true,.slice none 0 0 true] false):=by rw [← hg0]; simp
 have l0:g0.length=h.length + 1:=by rw [← hg0]; simp
 generalize hg1:g0 ++ [Zcd.cells Zad [.str [],.str []] false]=g1
 have s1:Zbc g0.length g0 g1:=by rw [← hg1]; exact Zam
 have w1:=s1.get w0 (Own.lt w0)
 have n1':g1[g0.length]?=some (.cells Zad [.str [],.str []] false):=by rw [← hg1]; simp
 have l1:g1.length=g0.length + 1:=by rw [← hg1]; simp
 have S1:=s0.cat s1
 refine (Zus (r.same S1) (by omega)).mono ?_
 rintro v g3 ⟨u,w,rfl,⟨a0,n0,c0,e0,q,n1,c1,e1,ys,rfl,d⟩,ws,K3,p3,hp1,hp2,R3⟩
 have w3:=K3.get w1 (by omega)
 have m3:=K3.get n1' (by omega)
 have l3:=K3.le
 have d:=d.low (show g1.length≤g1.length by omega)
 simp only [Zdc,Zaf,Zae,Zan]
 rw [Zfk]
 simp only [Zas]
 generalize hg4:g3 ++ [Zcd.cells Zab [.slice a0 n0 c0 e0,.slice (some (q,0)) n1 c1 e1] false]=g4
 have s4:Zbc g3.length g3 g4:=by rw [← hg4]; exact Zam
 have y4:g4[g3.length]?=some (.cells Zab [.slice a0 n0 c0 e0,.slice (some (q,0)) n1 c1 e1] false):=by rw [← hg4]; simp
 have l4:g4.length=g3.length + 1:=by rw [← hg4]; simp
 have w4:=s4.get w3 (Own.lt w3)
 have m4:=s4.get m3 (Own.lt m3)
 have d4:=d.same s4
 have KK4:=((Zdu.of_same (i:=i) S1).trans K3).trans (Zdu.of_same s4)
 rw [Zbk y4]
 simp only [Zaq,Zaf,Zan,Zae]
 refine (Zyh (R3.same s4) (by omega) d4 (by omega) ws).mono ?_
 rintro v g5 ⟨s,rfl,hs,K5,p5,hp3,hp4,R5⟩
 simp only [Zal]
 refine (Zcu R5 (by omega) 4).mono ?_
 rintro v g6 ⟨x,rfl,hx0,hx1,_,K6,R6,l6⟩
 have hx1:=hx1 (by omega)
 simp only [Zar]
 refine (Zcu R6 (by omega) 4).mono ?_
 rintro v g7 ⟨y,rfl,hy0,hy1,_,K7,R7,l7⟩
 simp only [Zar]
 obtain ⟨dd,rfl⟩:∃ d:Nat,x=d:=⟨x.toNat,by omega⟩
 have hdd:dd≤3:=by omega
 have hB:4 ^ (dd + 1)≤256:=by
  have:dd=0 ∨ dd=1 ∨ dd=2 ∨ dd=3:=by omega
  rcases this with rfl | rfl | rfl | rfl <;> decide
 refine (Zut dd (by omega) R7 (by omega) _).mono ?_
 rintro v g8 ⟨t,rfl,hok,hlen,K8,p8,hp5,hp6,R8⟩
 generalize htt:t.txt=tt at hlen
 have K48:Zdu i g4 g8:=((K5.trans K6).trans K7).trans K8
 have y8:=K48.get y4 (by omega)
 have w8:=K48.get w4 (by omega)
 have m8:=K48.get m4 (by omega)
 have d8:=d4.kp K48 (by omega)
 have KK8:=KK4.trans K48
 simp only [Zal]
 rw [Zfk]
 simp only [Zas]
 generalize hg9:g8 ++ [Zcd.cells Zad [.str s,.str tt] false]=g9
 have s9:Zbc g8.length g8 g9:=by rw [← hg9]; exact Zam
 have v9:g9[g8.length]?=some (.cells Zad [.str s,.str tt] false):=by rw [← hg9]; simp
 have l9:g9.length=g8.length + 1:=by rw [← hg9]; simp
 have y9:=s9.get y8 (Own.lt y8)
 have w9:=s9.get w8 (Own.lt w8)
 have m9:=s9.get m8 (Own.lt m8)
 have d9:=d8.same s9
 have R9:=R8.same s9
 have KK9:=KK8.trans (Zdu.of_same s9)
 have hKl:=KK8.le
 have hK48l:=K48.le
 -- the results
 have out:∀ (G:Zaa) (p':Nat) (nd:Nd),Zdu i h G→Rdr G i p'→p≤p'→p'≤p + 300000→G[h.length]?=some (.cells Zab [.slice a0 n0 c0 e0,.slice (some (q,0)) n1 c1 e1] false)→G[g0.length]?=some (.cells Zad [.str nd.1,.str nd.2] false)→WDr g1.length G a0 n0 c0 q n1 c1 ys w→nd.1.length≤1000→nd.2.length≤1000 →
   Zco (Zbj G (.ptr (some (h.length,0))) 2) fun cs_101=>Zaj cs_101 fun c_102 r_103=>xSl (some c_102) fun a_104 n_105 c_106 e_107=>Zaj r_103 fun c_108 r_109=>xSl (some c_108) fun a_110 n_111 c_112 e_113=>Zbv r_109 (Zco (Zbj G (.ptr (some (g0.length,0))) 2) fun cs_114=>Zaj cs_114 fun c_115 r_116=>Zbg (some c_115) fun s_117=>Zaj r_116 fun c_118 r_119=>Zbg (some c_118) fun s_120=>Zbv r_119 (Yto i p h (.tup [.agg [.slice a_104 n_105 c_106 e_107,.slice a_110 n_111 c_112 e_113],.agg [.str s_117,.str s_120]]) G)):=by
  intro G p' nd KG RG h1 h2 wG mG dG hn1 hn2
  rw [Zbk wG,Zbk mG]
  simp only [Zaq,Zaf,Zan,Zae,Zal]
  exact ⟨_,w,nd,rfl,⟨a0,n0,c0,e0,q,n1,c1,e1,ys,rfl,dG.low (by omega)⟩,ws,hn1,hn2,KG,p',h1,h2,RG⟩
 have fin8:∀ (G:Zaa) (p':Nat) (nd:Nd),Zdu i h G→Rdr G i p'→p≤p'→p'≤p + 300000→G[h.length]?=some (.cells Zab [.slice none 0 0 true,.slice none 0 0 true] false)→G[g0.length]?=some (.cells Zad [.str [],.str []] false)→G[g3.length]?=some (.cells Zab [.slice a0 n0 c0 e0,.slice (some (q,0)) n1 c1 e1] false)→G[g8.length]?=some (.cells Zad [.str nd.1,.str nd.2] false) →
   WDr g1.length G a0 n0 c0 q n1 c1 ys w→nd.1.length≤1000→nd.2.length≤1000→Zih.J8 (Yto i p h) g3.length 0 g8.length 0 h.length 0 g0.length 0 G:=by
  intro G p' nd KG RG h1 h2 wG mG yG vG dG hn1 hn2
  apply Zih.J8i
  rw [Zbk yG,Zbk vG]
  simp only [Zaq,Zaf,Zan,Zae,Zal]
  rw [Zbd wG (by simp)]
  simp only [Zas,putRow,List.take_zero,List.length_cons,List.length_nil,List.drop_succ_cons,List.drop_zero,List.drop_nil,List.cons_append,List.nil_append,List.append_nil,Nat.zero_add]
  have w1:=Zbz wG (x:=.cells Zab [.slice a0 n0 c0 e0,.slice (some (q,0)) n1 c1 e1] false)
  have m1:(G.set h.length (.cells Zab [.slice a0 n0 c0 e0,.slice (some (q,0)) n1 c1 e1] false))[g0.length]?=some (.cells Zad [.str [],.str []] false):=by rw [Zbs (by omega)]; exact mG
  have v1:(G.set h.length (.cells Zab [.slice a0 n0 c0 e0,.slice (some (q,0)) n1 c1 e1] false))[g8.length]?=some (.cells Zad [.str nd.1,.str nd.2] false):=by rw [Zbs (by omega)]; exact vG
  refine ⟨by rw [Zbk v1],?_⟩
  rw [Zbd m1 (by simp)]
  simp only [Zas,putRow,List.take_zero,List.length_cons,List.length_nil,List.drop_succ_cons,List.drop_zero,List.drop_nil,List.cons_append,List.nil_append,List.append_nil,Nat.zero_add]
  have rk:RdK i p 300000 h G:=⟨KG,p',h1,h2,RG⟩
  obtain ⟨KX,pX,hX1,hX2,RX⟩:=(rk.setW (z:=h.length) (x:=.cells Zab [.slice a0 n0 c0 e0,.slice (some (q,0)) n1 c1 e1] false) (Nat.le_refl _) hil).setW (z:=g0.length) (x:=.cells Zad [.str nd.1,.str nd.2] false) (by omega) hil
  exact out _ pX nd KX RX hX1 hX2 (by rw [Zbs (by omega)]; exact w1) (Zbz m1) ((dG.setN (by omega)).setN (by omega)) hn1 hn2
 have fin6:∀ (G:Zaa) (p':Nat),Zdu i g9 G→Rdr G i p'→p≤p'→p'≤p + 250000→Zih.J6 (Yto i p h) (some (i,0)) g8.length 0 g3.length 0 h.length 0 g0.length 0 G:=by
  intro G p' KG RG h1 h2
  apply Zih.J6i
  refine (Zcu RG (by omega) 20).mono ?_
  rintro v k1 ⟨z,rfl,_,_,_,K1,R1,_⟩
  have K91:=KG.trans K1
  have w1:=K91.get w9 (by omega)
  have m1:=K91.get m9 (by omega)
  have y1:=K91.get y9 (by omega)
  have v1:=K91.get v9 (by omega)
  have d1:=d9.kp K91 (by omega)
  simp only [Zar]
  refine Zcx (fun _=>?_) (fun _=>?_)
  ·refine (Ygx R1 (by omega)).mono ?_
   rintro v k2 ⟨s',rfl,hs',K2,p2,hp7,hp8,R2⟩
   have K92:=K91.trans K2
   have v2:=K2.get v1 (by omega)
   simp only [Zal]
   rw [Zbd v2 (by simp)]
   simp only [Zas,putRow,List.take_succ_cons,List.take_zero,List.length_cons,List.length_nil,List.drop_succ_cons,List.drop_zero,List.drop_nil,List.cons_append,List.nil_append,List.append_nil,Nat.zero_add]
   have rk:RdK i p 300000 h k2:=⟨KK9.trans K92,p2,by omega,by omega,R2⟩
   obtain ⟨KX,pX,hX1,hX2,RX⟩:=rk.setW (z:=g8.length) (x:=.cells Zad [.str s,.str s'] false) (by omega) hil
   have dX:WDr g1.length (k2.set g8.length (.cells Zad [.str s,.str s'] false)) a0 n0 c0 q n1 c1 ys w:=by
    have d2:=d1.kp K2 (by omega)
    -- nothing of the world is that need
    have d8':=d8.kp ((Zdu.of_same (i:=i) s9).trans K92) (by omega)
    have hsub:∀ j,g1.length≤j→j < g8.length→(k2.set g8.length (.cells Zad [.str s,.str s'] false))[j]?=g8[j]?:=fun j hj hjl=>by rw [Zbs (by omega),K92.eq j (by omega) (by omega),s9.eq j hjl]
    exact d8.keep hsub
   exact fin8 _ pX (s,s') KX RX hX1 hX2 (by rw [Zbs (by omega)]; exact K2.get w1 (by omega)) (by rw [Zbs (by omega)]; exact K2.get m1 (by omega)) (by rw [Zbs (by omega)]; exact K2.get y1 (by omega)) (Zbz v2) dX hs hs'
  ·exact fin8 k1 _ (s,tt) (KK9.trans K91) R1 (by omega) (by omega) w1 m1 y1 v1 d1 hs (by simp only; omega)
 simp only [Zao y9,Nat.zero_add,List.getElem?_cons_succ,List.getElem?_cons_zero,Zae]
 refine Zat (fun hpos=>?_) (fun _=>fin6 g9 p8 (Zdu.refl _ _) R9 (by omega) (by omega))
 refine (Zcu R9 (by omega) 2).mono ?_
 rintro v ga ⟨z,rfl,_,_,_,Ka,Ra,la⟩
 simp only [Zar]
 refine Zcx (fun _=>?_) (fun _=>fin6 ga _ Ka Ra (by omega) (by omega))
 have ya:=Ka.get y9 (by omega)
 have wa:=Ka.get w9 (by omega)
 have ma:=Ka.get m9 (by omega)
 have hya:=Own.lt ya
 -- an instance's form
 have mid:∀ (G:Zaa) (p' z k:Nat) (hk:k < w.is.length) (na:Pt) (nn nc:Nat) (ne:Bool),Zdu i ga G→Rdr G i p'→p≤p'→p'≤p + 250000→ga.length≤z→G[z]?=some (.cells Zac [.str [],.str [],.slice none 0 0 true] false) →
   Zbu (Zbb G (.ptr (some (z,0))) [.str w.is[k].1.1,.str w.is[k].1.2,.slice na nn nc ne]) fun h_80=>Zco (Zbj h_80 (.ptr (some (g3.length,0))) 2) fun cs_81=>Zaj cs_81 fun c_82 r_83=>xSl (some c_82) fun a_84 n_85 c_86 e_87=>Zaj r_83 fun c_88 r_89=>xSl (some c_88) fun a_90 n_91 c_92 e_93=>Zbv r_89 (Zbg (Zag h_80 (.ptr (some (z,0 + 0 + 0)))) fun s_94=>Zbg (Zag h_80 (.ptr (some (z,0 + 0 + 1)))) fun s_95=>(Zag h_80 (.ptr (some (z,0 + 0 + 0)))=Zag h_80 (.ptr (some (z,0 + 0 + 0))))∧(Zbj h_80 (.ptr (some (g3.length,0))) 2=Zbj h_80 (.ptr (some (g3.length,0))) 2)∧Zah pg Zip [.ptr (some (i,0)),.str s_95] h_80 fun v_96 h_97=>
    Zbg (some v_96) fun s_98=>(Zag h_97 (.ptr (some (z,0 + 0 + 0)))=Zag h_80 (.ptr (some (z,0 + 0 + 0))))∧(Zbj h_97 (.ptr (some (g3.length,0))) 2=Zbj h_80 (.ptr (some (g3.length,0))) 2)∧Zbu (Zbb h_97 (.ptr (some (h.length,0))) [.slice a_84 n_85 c_86 e_87,.slice a_90 n_91 c_92 e_93]) fun h_99=>(Zag h_99 (.ptr (some (z,0 + 0 + 0)))=Zag h_97 (.ptr (some (z,0 + 0 + 0))))∧Zbu (Zbb h_99 (.ptr (some (g0.length,0))) [.str s_94,.str s_98]) fun h_100=>Zco (Zbj h_100 (.ptr (some (h.length,0))) 2) fun cs_101=>Zaj cs_101 fun c_102 r_103=>xSl (some c_102) fun a_104 n_105 c_106 e_107=>Zaj r_103 fun c_108 r_109=>xSl (some c_108) fun a_110 n_111 c_112 e_113=>Zbv r_109 (Zco (Zbj h_100 (.ptr (some (g0.length,0))) 2) fun cs_114=>Zaj cs_114 fun c_115 r_116=>Zbg (some c_115) fun s_117=>Zaj r_116 fun c_118 r_119=>Zbg (some c_118) fun s_120=>Zbv r_119 (Yto i p h (.tup [.agg [.slice a_104 n_105 c_106 e_107,.slice a_110 n_111 c_112 e_113],.agg [.str s_117,.str s_120]]) h_100))):=by
  intro G p' z k hk na nn nc ne KG RG h1 h2 hz iG
  have hzG:=Own.lt iG
  rw [Zbd iG (by simp)]
  simp only [Zas,putRow,List.take_zero,List.length_cons,List.length_nil,List.drop_succ_cons,List.drop_zero,List.drop_nil,List.cons_append,List.nil_append,List.append_nil,Nat.zero_add,Nat.add_zero]
  have i2:=Zbz iG (x:=.cells Zac [.str w.is[k].1.1,.str w.is[k].1.2,.slice na nn nc ne] false)
  have low:∀ j,j≠z→(G.set z (.cells Zac [.str w.is[k].1.1,.str w.is[k].1.2,.slice na nn nc ne] false))[j]?=G[j]?:=fun j hj=>Zbs (fun e=>hj e.symm)
  have l2:(G.set z (.cells Zac [.str w.is[k].1.1,.str w.is[k].1.2,.slice na nn nc ne] false)).length=G.length:=by simp
  generalize G.set z (.cells Zac [.str w.is[k].1.1,.str w.is[k].1.2,.slice na nn nc ne] false)=G2 at i2 low l2 ⊢
  have K9G:=Ka.trans KG
  have KG2:Zdu i ga G2:=⟨by have:=KG.le; omega,fun j hj hji=>by rw [low j (by omega)]; exact KG.eq j hj hji⟩
  have K92:=Ka.trans KG2
  have R2:Rdr G2 i p':=RG.agree (fun j hj=>low j (by have:=Ra.lt; omega)) (by omega)
  have y2:=KG2.get ya (by omega)
  have w2:=KG2.get wa (by omega)
  have m2:=KG2.get ma (by omega)
  have d2:=d9.kp K92 (by omega)
  have hin:=ws.is _ (List.getElem_mem hk)
  rw [Zbk y2]
  simp only [Zaq,Zaf,Zan,Zae,Zao i2,List.getElem?_cons_succ,List.getElem?_cons_zero,Zal,true_and]
  refine (Ydp R2 (by omega) (by omega)).mono ?_
  rintro v G3 ⟨s',rfl,hs',K3',p3',hq1,hq2,R3'⟩
  have K93:=K92.trans K3'
  have i3:=K3'.get i2 (by have:=Ra.lt; omega)
  have y3:=K3'.get y2 (by omega)
  have w3':=K3'.get w2 (by omega)
  have m3':=K3'.get m2 (by omega)
  have d3:=d2.kp K3' (by omega)
  simp only [Zal]
  refine ⟨by rw [Zao i3]; rfl,by rw [Zbk y3],?_⟩
  rw [Zbd w3' (by simp)]
  simp only [Zas,putRow,List.take_zero,List.length_cons,List.length_nil,List.drop_succ_cons,List.drop_zero,List.drop_nil,List.cons_append,List.nil_append,List.append_nil,Nat.zero_add]
  have w4':=Zbz w3' (x:=.cells Zab [.slice a0 n0 c0 e0,.slice (some (q,0)) n1 c1 e1] false)
  have hK9:=KK9.le
  have hKa:=Ka.le
  have hzh:h.length≠z:=by omega
  have hzg:g0.length≠z:=by omega
  have m4':(G3.set h.length (.cells Zab [.slice a0 n0 c0 e0,.slice (some (q,0)) n1 c1 e1] false))[g0.length]?=some (.cells Zad [.str [],.str []] false):=by rw [Zbs (by omega)]; exact m3'
  have i4:(G3.set h.length (.cells Zab [.slice a0 n0 c0 e0,.slice (some (q,0)) n1 c1 e1] false))[z]?=some (.cells Zac [.str w.is[k].1.1,.str w.is[k].1.2,.slice na nn nc ne] false):=by rw [Zbs hzh]; exact i3
  refine ⟨by rw [Zao i4,Zao i3],?_⟩
  rw [Zbd m4' (by simp)]
  simp only [Zas,putRow,List.take_zero,List.length_cons,List.length_nil,List.drop_succ_cons,List.drop_zero,List.drop_nil,List.cons_append,List.nil_append,List.append_nil,Nat.zero_add]
  have rk:RdK i p 300000 h G3:=⟨KK9.trans K93,p3',by omega,by omega,R3'⟩
  obtain ⟨KX,pX,hX1,hX2,RX⟩:=(rk.setW (z:=h.length) (x:=.cells Zab [.slice a0 n0 c0 e0,.slice (some (q,0)) n1 c1 e1] false) (Nat.le_refl _) hil).setW (z:=g0.length) (x:=.cells Zad [.str w.is[k].1.1,.str s'] false) (by omega) hil
  exact out _ pX (w.is[k].1.1,s') KX RX hX1 hX2 (by rw [Zbs (by omega)]; exact w4') (Zbz m4') ((d3.setN (by omega)).setN (by omega)) hin.1 hs'
 have hn1:(n1:Int)=((n1:Nat):Int):=rfl
 simp only [Zao ya,List.getElem?_cons_succ,List.getElem?_cons_zero,Zae]
 refine ⟨?_,?_⟩
 ·refine (Zcu Ra (by omega) (n1:Int)).mono ?_
  rintro v gb ⟨x,rfl,hx0,hx1,_,Kb,Rb,lb⟩
  have hx1:=hx1 (by omega)
  obtain ⟨k,rfl⟩:∃ k:Nat,x=k:=⟨x.toNat,by omega⟩
  have yb:=Kb.get ya (by omega)
  obtain ⟨ii,oo,hkl,na,nn,nc,ne,ha,hii,hr,_,_,_,hrow,hln⟩:=(d9.kp (Ka.trans Kb) (by omega)).rep.inst (k:=k) (by omega)
  cases ha
  simp only [Zar,Zao yb,List.getElem?_cons_succ,List.getElem?_cons_zero,Zav,Int.toNat_natCast,Nat.zero_add,true_and]
  simp only [Nat.zero_add] at hr
  refine ⟨⟨by omega,by omega⟩,?_⟩
  rw [hr]
  simp only [Zaq,Zaf,Zan,Zal,Zae]
  generalize hgc:gb ++ [Zcd.cells Zac [.str [],.str [],.slice none 0 0 true] false]=gc
  have sc:Zbc gb.length gb gc:=by rw [← hgc]; exact Zam
  have ic:gc[gb.length]?=some (.cells Zac [.str [],.str [],.slice none 0 0 true] false):=by rw [← hgc]; simp
  have yc:=sc.get yb (Own.lt yb)
  have hrc:Zbj gc (.ptr (some (q,k * 3))) 3=Zbj gb (.ptr (some (q,k * 3))) 3:=by simp only [Zbj,sc.eq q hii]
  refine ⟨by rw [hrc,hr],by rw [Zao yc]; rfl,by rw [Zao yc]; rfl,?_⟩
  have:=mid gc _ gb.length k hkl na nn nc ne (Kb.trans (Zdu.of_same sc)) (Rb.same sc) (by omega) (by omega) (by omega) ic
  simpa only [Nat.zero_add,Nat.add_zero,true_and,eq_self] using this
 ·generalize hgc:ga ++ [Zcd.cells Zac [.str [],.str [],.slice none 0 0 true] false]=gc
  have sc:Zbc ga.length ga gc:=by rw [← hgc]; exact Zam
  have ic:gc[ga.length]?=some (.cells Zac [.str [],.str [],.slice none 0 0 true] false):=by rw [← hgc]; simp
  have yc:=sc.get ya (Own.lt ya)
  refine ⟨by rw [Zao yc]; rfl,by rw [Zao yc]; rfl,?_⟩
  refine (Zcu (Ra.same sc) (by omega) (n1:Int)).mono ?_
  rintro v gb ⟨x,rfl,hx0,hx1,_,Kb,Rb,lb⟩
  have hx1:=hx1 (by omega)
  obtain ⟨k,rfl⟩:∃ k:Nat,x=k:=⟨x.toNat,by omega⟩
  have yb:=Kb.get yc (by omega)
  have ib:=Kb.get ic (by have:=Ra.lt; omega)
  have Kcb:=(Zdu.of_same (i:=i) sc).trans Kb
  obtain ⟨ii,oo,hkl,na,nn,nc,ne,ha,hii,hr,_,_,_,hrow,hln⟩:=(d9.kp (Ka.trans Kcb) (by omega)).rep.inst (k:=k) (by omega)
  cases ha
  simp only [Zar,Zao yb,List.getElem?_cons_succ,List.getElem?_cons_zero,Zav,Int.toNat_natCast,Nat.zero_add,true_and]
  simp only [Nat.zero_add] at hr
  refine ⟨by rw [Zao yc]; rfl,by rw [Zao yc]; rfl,⟨by omega,by omega⟩,?_⟩
  rw [hr]
  simp only [Zaq,Zaf,Zan,Zal,Zae]
  have:=mid gb _ ga.length k hkl na nn nc ne Kcb Rb (by omega) (by omega) (by omega) ib
  simpa only [Nat.zero_add,Nat.add_zero,true_and,eq_self] using this
end Go.Sim

set_option linter.unusedVariables false
set_option linter.unusedSimpArgs false
set_option maxRecDepth 20000
namespace Go.Sim
open Go Go.RowKit

end Go.Sim

set_option linter.unusedVariables false
set_option linter.unusedSimpArgs false
set_option maxRecDepth 20000
namespace Go.Sim
open Go Go.RowKit
theorem Zso {α:Type} {l:List α} {g:Nat} (hg:g < l.length) {x:α}:x∈l.take (g + 1) ↔ x∈l.take g ∨ l[g]=x:=by
 rw [List.take_succ_eq_append_getElem hg,List.mem_append,List.mem_singleton]
 constructor
 ·rintro (h | h)
  ·exact .inl h
  ·exact .inr h.symm
 ·rintro (h | h)
  ·exact .inl h
  ·exact .inr h.symm
end Go.Sim

set_option linter.unusedVariables false
set_option linter.unusedSimpArgs false
set_option maxRecDepth 20000
namespace Go.Sim
open Go Go.RowKit

theorem Ykq {w:Wd} (hw:Zeg w=true) {k:Nat} (hk:k < w.is.length):Zhz w w.is[k].1=true:=by
 unfold Zeg at hw
 simp only [Bool.and_eq_true,List.all_eq_true] at hw
 have h3:=hw.2 _ (List.getElem_mem hk)
 unfold Zmv at h3
 simp only [Bool.and_eq_true] at h3
 unfold Zhz
 rw [h3.1.1.1.1.1.2,h3.1.1.1.1.2]; rfl
theorem Zpt {w:Wd} {x y:Int}:Zna w x y=true ↔ Zeg w=true∧Zzw w x=true∧Zzw w y=true∧Znb (Znd w x) (Znd w y)=true:=by
 unfold Zna Znd; simp only [Bool.and_eq_true,and_assoc]
theorem Zzz {w:Wd} (hw:Zeg w=true) {k:Nat} (hk:k < w.is.length):Znb w.is[k] w.is[k]=true:=by
 have:=Ykq hw hk
 unfold Zhz at this
 simp only [Bool.and_eq_true] at this
 unfold Znb
 simp [Yjk this.2]
end Go.Sim
