/- A part of the proof of a statement of this seat: see the text that holds the theorem. No condition. -/
import Derived.Test.YtflfcofeedjblaaGreatPTCDrawX
import Derived.Test.YtflfcofeedjblaaGreatCDrawV
import Derived.Test.YtflfcofeedjblaaGreatCGrow2
import Derived.Test.YtflfcofeedjblaaGreatCVars
import Derived.Test.YtflfcofeedjblaaGreatCSplitC
import Derived.Test.YtflfcofeedjblaaGreatCTy
set_option linter.unusedVariables false
set_option linter.unusedSimpArgs false
set_option linter.all false
set_option linter.unusedVariables false
set_option linter.unusedSimpArgs false
set_option maxRecDepth 20000
namespace Go.Sim
open Go Go.RowKit

def WAt (b:Nat) (h:Zaa) (u:List Zau) (w:Wd):Prop:=∃ a0 n0 c0 e0 q n1 c1 e1 ys,u=[.slice a0 n0 c0 e0,.slice (some (q,0)) n1 c1 e1]∧WDr b h a0 n0 c0 q n1 c1 ys w
theorem RdK.trans {i p k k' p':Nat} {h h1 h2:Zaa} (a:Zdu i h h1) (hp:p≤p') (hk:p' + k'≤p + k) (r:RdK i p' k' h1 h2):RdK i p k h h2:=⟨a.trans r.1,r.2.imp fun q ⟨h1,h2,h3⟩=>⟨by omega,by omega,h3⟩⟩
theorem WDr.newCls {b:Nat} {h h':Zaa} {a0:Pt} {n0 c0 q n1 c1:Nat} {ys:List EI} {w:Wd} (d:WDr b h a0 n0 c0 q n1 c1 ys w) (off:∀ {j:Nat} {t:TypeId} {cs:List Zau},t≠Zbf→t≠Zab→h[j]?=some (.cells t cs false)→h'[j]?=some (.cells t cs false))
  {y n c:Nat} {cs':List Nd} (hy:h'[y]?=some (.cells Zbf (Zdn eP cs') false)) (hb:b≤y) (hn:cs'.length=n) (hc:n≤c):WDr b h' (some (y,0)) n c q n1 c1 ys ⟨cs',w.is⟩:=
 ⟨⟨hn,.inr ⟨y,rfl,hb,hy⟩⟩,hc,d.bq,off (by decide) (by decide) d.ob,d.len,d.wl,d.le1,fun k x i hx hi=>⟨(d.need k x i hx hi).1,(d.need k x i hx hi).2.1,⟨(d.need k x i hx hi).2.2.1,(d.need k x i hx hi).2.2.2.imp id fun ⟨j,ha,hb,hj⟩=>⟨j,ha,hb,off (by decide) (by decide) hj⟩⟩⟩⟩
theorem Yow {h:Zaa} {i p b m:Nat} {a0:Pt} {n0 c0 q n1 c1:Nat} {e0 e1:Bool} {ys:List EI} {w:Wd} (r:Rdr h i p) (hp:p≤800000000000) (d:WDr b h a0 n0 c0 q n1 c1 ys w) (hib:i < b) (hbh:b≤h.length) (ws:WS m w) (hm:m≤100000) :
  Zah pg Zru [.ptr (some (i,0)),.agg [.slice a0 n0 c0 e0,.slice (some (q,0)) n1 c1 e1]] h fun v h'=>∃ u w',v=.agg u∧WAt b h' u w'∧WS (m + 11) w'∧RdK i p 100 h h':=by
 have hil:=r.lt
 have hn0:n0≤100000:=by have:=ws.lc; have:=d.cls.1; omega
 have hn1:n1≤100000:=by have:=ws.li; have:=d.wl; omega
 apply Zic.call
 simp only [Zaw]
 generalize hg0:h ++ [Zcd.cells Zab [.slice a0 n0 c0 e0,.slice (some (q,0)) n1 c1 e1] false]=g0
 have s0:Zbc h.length h g0:=by rw [← hg0]; exact Zam
 have x0:g0[h.length]?=some (.cells Zab [.slice a0 n0 c0 e0,.slice (some (q,0)) n1 c1 e1] false):=by rw [← hg0]; simp
 have l0:g0.length=h.length + 1:=by rw [← hg0]; simp
 generalize hg1:g0 ++ [Zcd.cells Zab [.slice none 0 0 true,.slice none 0 0 true] false]=g1
 have s1:Zbc g0.length g0 g1:=by rw [← hg1]; exact Zam
 have x1:=s1.get x0 (Own.lt x0)
 have z1:g1[g0.length]?=some (.cells Zab [.slice none 0 0 true,.slice none 0 0 true] false):=by rw [← hg1]; simp
 have l1:g1.length=g0.length + 1:=by rw [← hg1]; simp
 have S1:=s0.cat s1
 refine (Zcv (r.same S1) (by omega) 36).mono ?_
 rintro v g3 ⟨x,rfl,_,_,_,K3,R3,l3⟩
 have x3:=K3.get x1 (by omega)
 have z3:=K3.get z1 (by omega)
 have KK3:=(Zdu.of_same (i:=i) S1).trans K3
 have d3:WDr b g3 a0 n0 c0 q n1 c1 ys w:=(d.same S1).kp K3 hib
 simp only [Zar]
 have fin:∀ (G:Zaa) (a0:Pt) (n0 c0:Nat) (e0:Bool) (q n1 c1:Nat) (e1:Bool) (ys:List EI) (w':Wd) (p':Nat),Zdu i h G→Rdr G i p'→p≤p'→p'≤p + 100→G[h.length]?=some (.cells Zab [.slice a0 n0 c0 e0,.slice (some (q,0)) n1 c1 e1] false)→G[g0.length]?=some (.cells Zab [.slice none 0 0 true,.slice none 0 0 true] false) →
   WDr b G a0 n0 c0 q n1 c1 ys w'→WS (m + 11) w'→Zic.J11 (fun v h'=>∃ u w',v=.agg u∧WAt b h' u w'∧WS (m + 11) w'∧RdK i p 100 h h') h.length 0 g0.length 0 G:=by
  intro G a0 n0 c0 e0 q n1 c1 e1 ys w' p' KG RG h1 h2 xG zG dG wG
  apply Zic.J11i
  rw [Zbk xG]
  simp only [Zaq,Zaf,Zan,Zae]
  rw [Zbd zG (by simp)]
  simp only [Zas,putRow,List.take_zero,List.length_cons,List.length_nil,List.drop_succ_cons,List.drop_zero,List.drop_nil,List.cons_append,List.nil_append,List.append_nil,Nat.zero_add]
  rw [Zbk (Zbz zG)]
  simp only [Zaq,Zaf,Zan,Zae]
  have rk:RdK i p 100 h G:=⟨KG,p',h1,h2,RG⟩
  exact ⟨_,w',rfl,⟨a0,n0,c0,e0,q,n1,c1,e1,ys,rfl,dG.setW zG⟩,wG,rk.setW (by omega) hil⟩
 have h3l:=R3.lt
 have hx3l:=Own.lt x3
 have hz3l:=Own.lt z3
 refine Zcx (fun _=>?_) (fun _=>Zcx (fun _=>?_) (fun _=>Zcx (fun _=>?_) (fun _=>?_)))
 ·-- one class more
  generalize hg5:g3 ++ [Zcd.cells Zbf [] false]=g5
  have s5:Zbc g3.length g3 g5:=by rw [← hg5]; exact Zam
  have c5:g5[g3.length]?=some (.cells Zbf [] false):=by rw [← hg5]; simp
  have l5:g5.length=g3.length + 1:=by rw [← hg5]; simp
  have x5:=s5.get x3 hx3l
  have z5:=s5.get z3 hz3l
  have d5:=d3.same s5
  have R5:=R3.same s5
  simp only [Zao x5,Nat.zero_add,List.getElem?_cons_zero,Zae]
  refine Vec.app0 (n:=0) (e:=true) c5 Zxb Yhi Yhd Yig (by simp) ((d5.cls.row Zeb).rowOf) (Zrs (enc:=eP) (fun _=>rfl) w.cs) (by omega) (fun g6 hl6 hi6 hk6=>?_)
  have keep6:∀ {j:Nat} {o:Zcd},g5[j]?=some o→j≠g3.length→g6[j]?=some o:=fun {j o} hj hne=>by rw [hk6 j (Own.lt hj) hne]; exact hj
  have x6:=keep6 x5 (by omega)
  have z6:=keep6 z5 (by omega)
  have d6:WDr b g6 a0 n0 c0 q n1 c1 ys w:=d3.keep fun j hj hjl=>by rw [hk6 j (by omega) (by omega),s5.eq j hjl]
  have K6:Zdu i h g6:=by
   have:=(KK3.trans (Zdu.of_same s5)).le
   exact ⟨by omega,fun j hj hji=>by rw [hk6 j (by omega) (by have:=KK3.le; omega)]; exact (KK3.trans (Zdu.of_same s5)).eq j hj hji⟩
  have R6:Rdr g6 i (p + 1):=R5.agree (fun j hj=>hk6 j (by omega) (by omega)) (by omega)
  have i6:g6[g5.length]?=some (.cells Zbf (Zdn eP w.cs) false):=by simpa using hi6
  simp only [Zae]
  have h6l:=R6.lt
  refine (Zmq (R6.app _) (by omega) (j:=g6.length) (t:=Zbe) (n:=4) (l:=[[69],[73],[],[72]]) (by simp [Zdn,eS]) (by omega) rfl (by omega)).mono ?_
  rintro v g7 ⟨s,hs,rfl,K7,R7,l7⟩
  simp only [Zal]
  have hsz:s.length≤1000∧∀ b∈s,b < 256:=by
   simp only [List.mem_cons,List.not_mem_nil,or_false] at hs
   rcases hs with rfl | rfl | rfl | rfl <;> exact ⟨by decide,by decide⟩
  have h7l:=R7.lt
  refine (Zmq (R7.app _) (by omega) (j:=g7.length) (t:=Zbe) (n:=4) (l:=[[],[69],[72],[90]]) (by simp [Zdn,eS]) (by omega) rfl (by omega)).mono ?_
  rintro v g8 ⟨s',hs',rfl,K8,R8,l8⟩
  simp only [Zal]
  have hsz':s'.length≤1000:=by
   simp only [List.mem_cons,List.not_mem_nil,or_false] at hs'
   rcases hs' with rfl | rfl | rfl | rfl <;> decide
  have K68:Zdu i g6 g8:=(((Zdu.app i g6 _).trans K7).trans (Zdu.app i g7 _)).trans K8
  have x8:=K68.get x6 (by omega)
  have z8:=K68.get z6 (by omega)
  have i8:=K68.get i6 (by omega)
  have d8:=d6.kp K68 hib
  have hlcs:w.cs.length=n0:=d.cls.1
  refine (Vec.mk1 (n:=0 + n0) (c:=0 + n0) i8).pushN (sz:=2) Zxb Yhi Yhd Yig (by rw [Zay Zeb]; omega) rfl (by omega) rfl (by omega) (fun g9 hl9 hi9 hk9=>?_)
  have keep9:∀ {j:Nat} {o:Zcd},g8[j]?=some o→j≠g5.length→g9[j]?=some o:=fun {j o} hj hne=>by rw [hk9 j (Own.lt hj) (fun i hi=>by cases hi; exact hne)]; exact hj
  have x9:=keep9 x8 (by omega)
  have z9:=keep9 z8 (by omega)
  have KK8:=K6.trans K68
  have hKl:=KK8.le
  simp only [Zae]
  rw [Zbd x9 (by simp)]
  simp only [Zas,putRow,List.take_zero,List.length_cons,List.length_nil,List.drop_succ_cons,List.drop_zero,List.drop_nil,List.cons_append,List.nil_append,List.append_nil]
  have hi9':(g9.set h.length (.cells Zab [.slice (some (g8.length + 1,0)) (0 + n0 + 1) (0 + n0 + 1) false,.slice (some (q,0)) n1 c1 e1] false))[g8.length + 1]?=some (.cells Zbf (Zdn eP (w.cs ++ [(s,s')])) false):=by rw [Zbs (by omega)]; simpa [eP] using hi9
  have rk:RdK i p 100 h g9:=⟨⟨by omega,fun j hj hji=>by rw [hk9 j (by omega) (fun i' hi'=>by cases hi'; have:=KK3.le; omega)]; exact KK8.eq j hj hji⟩,p + 1 + 1 + 1,by omega,by omega,R8.agree (fun j hj=>hk9 j (by omega) (fun i' hi'=>by cases hi'; omega)) (by omega)⟩
  obtain ⟨KW,pW,hW1,hW2,RW⟩:=rk.setW (z:=h.length) (x:=.cells Zab [.slice (some (g8.length + 1,0)) (0 + n0 + 1) (0 + n0 + 1) false,.slice (some (q,0)) n1 c1 e1] false) (Nat.le_refl _) hil
  exact fin _ _ _ _ _ _ _ _ _ ys ⟨w.cs ++ [(s,s')],w.is⟩ pW KW RW hW1 hW2 (Zbz x9) (by rw [Zbs (by omega)]; exact z9)
   (d8.newCls (fun {j t cs} h1 h2 hj=>by rw [Zbs (Zfm x9 (keep9 hj (Zfm hj i8 h1)) (Ne.symm h2))]; exact keep9 hj (Zfm hj i8 h1)) hi9' (by omega) (by simp; omega) (Nat.le_refl _)) ((ws.addC (p:=(s,s')) ⟨hsz.1,hsz',hsz.2⟩).mono (by omega))
 ·-- one instance more
  generalize hg5:g3 ++ [Zcd.cells Zac [] false]=g5
  have s5:Zbc g3.length g3 g5:=by rw [← hg5]; exact Zam
  have c5:g5[g3.length]?=some (.cells Zac [] false):=by rw [← hg5]; simp
  have l5:g5.length=g3.length + 1:=by rw [← hg5]; simp
  have x5:=s5.get x3 hx3l
  have z5:=s5.get z3 hz3l
  have d5:=d3.same s5
  have R5:=R3.same s5
  simp only [Zao x5,Nat.zero_add,List.getElem?_cons_succ,List.getElem?_cons_zero,Zae]
  have row5:rowOf g5 (some (q,0)) (n1 * 3)=some (Zdn eN ys):=((Vec.mk1 (n:=0) (c:=0) d5.ob).row (m:=n1 * 3) (by rw [Zay Zpu,d5.len])).rowOf
  refine Vec.app0 (n:=0) (e:=true) c5 Zqp Zyw Zxk Zyg (by simp) row5 (Zrs (enc:=eN) (fun _=>rfl) ys) (by omega) (fun g6 hl6 hi6 hk6=>?_)
  have keep6:∀ {j:Nat} {o:Zcd},g5[j]?=some o→j≠g3.length→g6[j]?=some o:=fun {j o} hj hne=>by rw [hk6 j (Own.lt hj) hne]; exact hj
  have x6:=keep6 x5 (by omega)
  have z6:=keep6 z5 (by omega)
  have d6:WDr b g6 a0 n0 c0 q n1 c1 ys w:=d3.keep fun j hj hjl=>by rw [hk6 j (by omega) (by omega),s5.eq j hjl]
  have K6:Zdu i h g6:=by
   have:=(KK3.trans (Zdu.of_same s5)).le
   exact ⟨by omega,fun j hj hji=>by rw [hk6 j (by omega) (by have:=KK3.le; omega)]; exact (KK3.trans (Zdu.of_same s5)).eq j hj hji⟩
  have R6:Rdr g6 i (p + 1):=R5.agree (fun j hj=>hk6 j (by omega) (by omega)) (by omega)
  have i6:g6[g5.length]?=some (.cells Zac (Zdn eN ys) false):=by simpa using hi6
  simp only [Zae]
  have h6l:=R6.lt
  refine (Zmq (R6.app _) (by omega) (j:=g6.length) (t:=Zbe) (n:=3) (l:=[[69],[72],[65]]) (by simp [Zdn,eS]) (by omega) rfl (by omega)).mono ?_
  rintro v g7 ⟨s,hs,rfl,K7,R7,l7⟩
  simp only [Zal]
  have hsz1:s.length≤1000:=by
   simp only [List.mem_cons,List.not_mem_nil,or_false] at hs
   rcases hs with rfl | rfl | rfl <;> decide
  have h7l:=R7.lt
  refine (Zmq (R7.app _) (by omega) (j:=g7.length) (t:=Zbe) (n:=4) (l:=[[120],[113],[105],[108,40,120,41]]) (by simp [Zdn,eS]) (by omega) rfl (by omega)).mono ?_
  rintro v g8 ⟨s',hs',rfl,K8,R8,l8⟩
  simp only [Zal]
  have hsz2:s'.length≤1000:=by
   simp only [List.mem_cons,List.not_mem_nil,or_false] at hs'
   rcases hs' with rfl | rfl | rfl | rfl <;> decide
  have h8l:=R8.lt
  refine (Zmq (R8.app _) (by omega) (j:=g8.length) (t:=Zbe) (n:=3) (l:=[[69],[65],[72]]) (by simp [Zdn,eS]) (by omega) rfl (by omega)).mono ?_
  rintro v g9 ⟨s2,hs2,rfl,K9,R9,l9⟩
  simp only [Zal]
  have hsz3:s2.length≤1000:=by
   simp only [List.mem_cons,List.not_mem_nil,or_false] at hs2
   rcases hs2 with rfl | rfl | rfl <;> decide
  have h9l:=R9.lt
  refine (Zmq (R9.app _) (by omega) (j:=g9.length) (t:=Zbe) (n:=3) (l:=[[121],[105],[113]]) (by simp [Zdn,eS]) (by omega) rfl (by omega)).mono ?_
  rintro v ga ⟨s3,hs3,rfl,Ka,Ra,la⟩
  simp only [Zal]
  have hsz4:s3.length≤1000:=by
   simp only [List.mem_cons,List.not_mem_nil,or_false] at hs3
   rcases hs3 with rfl | rfl | rfl <;> decide
  have K6a:Zdu i g6 ga:=(((((((Zdu.app i g6 _).trans K7).trans (Zdu.app i g7 _)).trans K8).trans (Zdu.app i g8 _)).trans K9).trans (Zdu.app i g9 _)).trans Ka
  have hK6a:=K6a.le
  generalize hgb:ga ++ [Zcd.cells Zad [.str s2,.str s3] false]=gb
  have sb:Zbc ga.length ga gb:=by rw [← hgb]; exact Zam
  have nb:gb[ga.length]?=some (.cells Zad (Zdn eP [(s2,s3)]) false):=by rw [← hgb]; simp [eP]
  have lb:gb.length=ga.length + 1:=by rw [← hgb]; simp
  have K6b:=K6a.trans (Zdu.of_same sb)
  have xb:=K6b.get x6 (by omega)
  have zb:=K6b.get z6 (by omega)
  have ib:=K6b.get i6 (by omega)
  have db:=d6.kp K6b hib
  have Rb:=Ra.same sb
  have Kb:=K6.trans K6b
  have hKl:=Kb.le
  have hlI:ys.length=n1:=d.len
  have hKl3:=KK3.le
  refine (Vec.mk1 (n:=0 + n1) (c:=0 + n1) ib).pushN (sz:=3) Zqp Zyw Zxk Zyg (by rw [Zay Zpu]; omega) rfl (by omega) rfl (by omega) (fun gc hlc hic hkc=>?_)
  have keepc:∀ {j:Nat} {o:Zcd},gb[j]?=some o→j≠g5.length→gc[j]?=some o:=fun {j o} hj hne=>by rw [hkc j (Own.lt hj) (fun i hi=>by cases hi; exact hne)]; exact hj
  have xc:=keepc xb (by omega)
  have zc:=keepc zb (by omega)
  have dc:WDr b gc a0 n0 c0 (gb.length + 1) (n1 + 1) (0 + n1 + 1) (ys ++ [⟨s,s',some (ga.length,0),1,1,true⟩]) ⟨w.cs,w.is ++ [((s,s'),[(s2,s3)])]⟩:=
   db.push (z:=g5.length) (x:=⟨s,s',some (ga.length,0),1,1,true⟩) (i:=((s,s'),[(s2,s3)])) ⟨rfl,rfl,rfl,.inr ⟨ga.length,rfl,by omega,nb⟩⟩ (by omega) (by simpa [eN] using hic) (fun o ho=>by rw [ib] at ho; cases ho; exact ⟨_,rfl⟩) (fun j hj hne=>hkc j hj (fun i hi=>by cases hi; exact hne)) (by omega)
  simp only [Zae]
  rw [Zbd xc (by simp)]
  simp only [Zas,putRow,List.take_succ_cons,List.take_zero,List.length_cons,List.length_nil,List.drop_succ_cons,List.drop_zero,List.drop_nil,List.cons_append,List.nil_append,List.append_nil]
  have rk:RdK i p 100 h gc:=⟨⟨by omega,fun j hj hji=>by rw [hkc j (by omega) (fun i' hi'=>by cases hi'; omega)]; exact Kb.eq j hj hji⟩,_,by omega,by omega,Rb.agree (fun j hj=>hkc j (by omega) (fun i' hi'=>by cases hi'; omega)) (by omega)⟩
  obtain ⟨KW,pW,hW1,hW2,RW⟩:=rk.setW (z:=h.length) (x:=.cells Zab [.slice a0 n0 c0 e0,.slice (some (gb.length + 1,0)) (0 + n1 + 1) (0 + n1 + 1) false] false) (Nat.le_refl _) hil
  have e01:0 + n1 + 1=n1 + 1:=by omega
  rw [e01] at KW RW dc ⊢
  exact fin _ _ _ _ _ _ _ _ _ _ _ pW KW RW hW1 hW2 (Zbz xc) (by rw [Zbs (by omega)]; exact zc) (dc.setW xc) ((ws.addI (i:=((s,s'),[(s2,s3)])) ⟨hsz1,hsz2,by simp,fun q hq=>by simp at hq; subst hq; exact ⟨hsz3,hsz4⟩⟩).mono (by omega))
 ·-- ten instances more
  refine Zic.L8ind (J:=fun (g:Nat) x50 k=>x50=(g:Int)∧g≤10∧Zdu i h k∧Rdr k i (p + 1)∧k[g0.length]?=some (.cells Zab [.slice none 0 0 true,.slice none 0 0 true] false) ∧
    ∃ q n1 c1 e1 ys w',k[h.length]?=some (.cells Zab [.slice a0 n0 c0 e0,.slice (some (q,0)) n1 c1 e1] false)∧WDr b k a0 n0 c0 q n1 c1 ys w'∧WS (m + g) w') (m:=fun g=>10 - g) (hr:=?_) (g:=0)
   (hj:=⟨rfl,by omega,KK3,R3,z3,q,n1,c1,e1,ys,w,x3,d3,ws⟩) ..
  rintro g x50 k ⟨rfl,hg,Kk,Rk,zk,q,n1,c1,e1,ys,w',xk,dk,wk'⟩ R hR
  have hkl:=Rk.lt
  have hxl:=Own.lt xk
  have hzl:=Own.lt zk
  have hn1':n1≤200000:=by have:=wk'.li; have:=dk.wl; omega
  unfold Zic.L8t
  refine Zat (fun hlt=>?_) (fun hge=>?_)
  ·simp only [Zaw]
   generalize hg5:k ++ [Zcd.cells Zac [] false]=g5
   have s5:Zbc k.length k g5:=by rw [← hg5]; exact Zam
   have c5:g5[k.length]?=some (.cells Zac [] false):=by rw [← hg5]; simp
   have l5:g5.length=k.length + 1:=by rw [← hg5]; simp
   have x5:=s5.get xk hxl
   have z5:=s5.get zk hzl
   have d5:=dk.same s5
   have R5:=Rk.same s5
   simp only [Zao x5,Nat.zero_add,List.getElem?_cons_succ,List.getElem?_cons_zero,Zae]
   have row5:rowOf g5 (some (q,0)) (n1 * 3)=some (Zdn eN ys):=((Vec.mk1 (n:=0) (c:=0) d5.ob).row (m:=n1 * 3) (by rw [Zay Zpu,d5.len])).rowOf
   refine Vec.app0 (n:=0) (e:=true) c5 Zqp Zyw Zxk Zyg (by simp) row5 (Zrs (enc:=eN) (fun _=>rfl) ys) (by omega) (fun g6 hl6 hi6 hk6=>?_)
   have keep6:∀ {j:Nat} {o:Zcd},g5[j]?=some o→j≠k.length→g6[j]?=some o:=fun {j o} hj hne=>by rw [hk6 j (Own.lt hj) hne]; exact hj
   have x6:=keep6 x5 (by omega)
   have z6:=keep6 z5 (by omega)
   have d6:WDr b g6 a0 n0 c0 q n1 c1 ys w':=dk.keep fun j hj hjl=>by rw [hk6 j (by omega) (by omega),s5.eq j hjl]
   have i6:g6[g5.length]?=some (.cells Zac (Zdn eN ys) false):=by simpa using hi6
   simp only [Zae]
   generalize hga:g6 ++ [Zcd.cells Zad [] false]=ga
   have sa:Zbc g6.length g6 ga:=by rw [← hga]; exact Zam
   have na:ga[g6.length]?=some (.cells Zad [] false):=by rw [← hga]; simp
   have la:ga.length=g6.length + 1:=by rw [← hga]; simp
   have xa:=sa.get x6 (Own.lt x6)
   have za:=sa.get z6 (Own.lt z6)
   have ia:=sa.get i6 (Own.lt i6)
   have da:=d6.same sa
   have hkb:=Kk.le
   have hlI:ys.length=n1:=dk.len
   refine (Vec.mk1 (n:=0 + n1) (c:=0 + n1) ia).pushN (sz:=3) Zqp Zyw Zxk Zyg (by rw [Zay Zpu]; omega) rfl (by omega) rfl (by omega) (fun gc hlc hic hkc=>?_)
   have keepc:∀ {j:Nat} {o:Zcd},ga[j]?=some o→j≠g5.length→gc[j]?=some o:=fun {j o} hj hne=>by rw [hkc j (Own.lt hj) (fun i hi=>by cases hi; exact hne)]; exact hj
   have xc:=keepc xa (by omega)
   have zc:=keepc za (by omega)
   have dc:WDr b gc a0 n0 c0 (ga.length + 1) (n1 + 1) (0 + n1 + 1) (ys ++ [⟨[69],[105],some (g6.length,0),0,0,true⟩]) ⟨w'.cs,w'.is ++ [(([69],[105]),[])]⟩:=
    da.push (z:=g5.length) (x:=⟨[69],[105],some (g6.length,0),0,0,true⟩) (i:=(([69],[105]),[])) ⟨rfl,rfl,rfl,.inl rfl⟩ (by omega) (by simpa [eN] using hic) (fun o ho=>by rw [ia] at ho; cases ho; exact ⟨_,rfl⟩) (fun j hj hne=>hkc j hj (fun i hi=>by cases hi; exact hne)) (by omega)
   simp only [Zae]
   rw [Zbd xc (by simp)]
   simp only [Zas,putRow,List.take_succ_cons,List.take_zero,List.length_cons,List.length_nil,List.drop_succ_cons,List.drop_zero,List.drop_nil,List.cons_append,List.nil_append,List.append_nil]
   rw [Zbl (by omega)]
   have low:∀ j,j < k.length→gc[j]?=k[j]?:=fun j hj=>by rw [hkc j (by omega) (fun i' hi'=>by cases hi'; omega),sa.eq j (by omega),hk6 j (by omega) (by omega),s5.eq j hj]
   have rk:RdK i (p + 1) 0 h gc:=⟨⟨by omega,fun j hj hji=>by rw [low j (by omega)]; exact Kk.eq j hj hji⟩,_,Nat.le_refl _,Nat.le_refl _,Rk.agree (fun j hj=>low j (by omega)) (by omega)⟩
   obtain ⟨KW,pW,hW1,hW2,RW⟩:=rk.setW (z:=h.length) (x:=.cells Zab [.slice a0 n0 c0 e0,.slice (some (ga.length + 1,0)) (0 + n1 + 1) (0 + n1 + 1) false] false) (Nat.le_refl _) hil
   have e01:0 + n1 + 1=n1 + 1:=by omega
   have ep:pW=p + 1:=by omega
   subst ep
   rw [e01] at KW RW dc ⊢
   exact hR (g + 1) _ _ (by omega) ⟨rfl,by omega,KW,RW,by rw [Zbs (by omega)]; exact zc,_,_,_,_,_,_,Zbz xc,dc.setW xc,wk'.addI (i:=(([69],[105]),[])) ⟨by simp,by simp,by simp,by simp⟩⟩
  ·apply Zic.A8x1i
   exact fin k a0 n0 c0 e0 q n1 c1 e1 ys w' (p + 1) Kk Rk (by omega) (by omega) xk zk dk (wk'.mono (by omega))
 ·exact fin g3 a0 n0 c0 e0 q n1 c1 e1 ys w (p + 1) KK3 R3 (by omega) (by omega) x3 z3 d3 (ws.mono (by omega))
theorem Zuk {h:Zaa} {i p:Nat} (r:Rdr h i p) (hp:p≤600000000000):Zah pg Zin [.ptr (some (i,0))] h (DWQ i p 200000 1021 h):=by
 have hil:=r.lt
 apply Zub.call
 simp only [Zaw]
 generalize hg0:h ++ [Zcd.cells Zab [.slice none 0 0 true,.slice none 0 0 true] false]=g0
 have s0:Zbc h.length h g0:=by rw [← hg0]; exact Zam
 have z0:g0[h.length]?=some (.cells Zab [.slice none 0 0 true,.slice none 0 0 true] false):=by rw [← hg0]; simp
 have l0:g0.length=h.length + 1:=by rw [← hg0]; simp
 refine (Yny (r.same s0) (by omega)).mono ?_
 rintro v g1 ⟨u,w,rfl,⟨a0,n0,c0,e0,q,n1,c1,e1,ys,rfl,d⟩,ws,K1,p1,hp1,hp2,R1⟩
 have z1:=K1.get z0 (by omega)
 have l1:=K1.le
 simp only [Zdd,Zaf,Zae,Zan]
 refine (Yow R1 (by omega) (d.low (show h.length≤g0.length by omega)) hil (by omega) ws (by omega)).mono ?_
 rintro v g2 ⟨u,w',rfl,⟨a0,n0,c0,e0,q,n1,c1,e1,ys,rfl,d2⟩,ws2,K2,p2,hp3,hp4,R2⟩
 have z2:=K2.get z1 (by omega)
 simp only [Zdd,Zaf,Zae,Zan]
 rw [Zbd z2 (by simp)]
 simp only [Zas,putRow,List.take_zero,List.length_cons,List.length_nil,List.drop_succ_cons,List.drop_zero,List.drop_nil,List.cons_append,List.nil_append,List.append_nil,Nat.zero_add]
 rw [Zbk (Zbz z2)]
 simp only [Zaq,Zaf,Zan,Zae]
 have rk:RdK i p 200000 h g2:=⟨((Zdu.of_same s0).trans K1).trans K2,p2,by omega,by omega,R2⟩
 exact ⟨_,w',rfl,⟨a0,n0,c0,e0,q,n1,c1,e1,ys,rfl,d2.setW z2⟩,ws2,rk.setW (Nat.le_refl _) hil⟩
end Go.Sim

set_option linter.unusedVariables false
set_option linter.unusedSimpArgs false
set_option maxRecDepth 20000
namespace Go.Sim
open Go Go.RowKit

theorem WDr.setN {b:Nat} {h:Zaa} {a0:Pt} {n0 c0 q n1 c1:Nat} {ys:List EI} {w:Wd} {z:Nat} {x:Zcd} (d:WDr b h a0 n0 c0 q n1 c1 ys w) (hz:z < b):WDr b (h.set z x) a0 n0 c0 q n1 c1 ys w:=d.keep fun j hj hl=>Zbs (by omega)
end Go.Sim

set_option linter.unusedVariables false
set_option linter.unusedSimpArgs false
set_option maxRecDepth 20000
namespace Go.Sim
open Go Go.RowKit

theorem Zvl {h:Zaa} {i p:Nat} {a0 a1:Pt} {n0 c0 n1 c1:Nat} {e0 e1:Bool} (r:Rdr h i p) (hp:p≤900000000000) :
  Zah pg Zji [.ptr (some (i,0)),.agg [.slice a0 n0 c0 e0,.slice a1 n1 c1 e1]] h fun v h'=>∃ x,v=.int .i64 x∧RdK i p 5 h h':=by
 have hil:=r.lt
 apply Zpe.call
 simp only [Zaw]
 generalize hg0:h ++ [Zcd.cells Zab [.slice a0 n0 c0 e0,.slice a1 n1 c1 e1] false]=g0
 have s0:Zbc h.length h g0:=by rw [← hg0]; exact Zam
 have x0:g0[h.length]?=some (.cells Zab [.slice a0 n0 c0 e0,.slice a1 n1 c1 e1] false):=by rw [← hg0]; simp
 have R0:=r.same s0
 have oth:∀ (G:Zaa) (p':Nat),Zdu i h G→Rdr G i p'→p≤p'→p'≤p + 3→Zah pg Zdq [.ptr (some (i,0)),.slice (some (List.length G,0)) 4 4 true] (G ++ [.cells Zfw [.int .i64 0,.int .i64 (-1),.int .i64 10,.int .i64 9223372036854775807] false]) fun v_6 h_7=>Zdo .i64 (some v_6) fun x_8=>∃ x,Zau.int .i64 x_8=.int .i64 x∧RdK i p 5 h h_7:=by
  intro G p' KG RG h1 h2
  have hGl:=RG.lt
  refine (Yhj (RG.app _) (by omega) (j:=G.length) (t:=Zfw) (n:=4) (l:=[0,-1,10,9223372036854775807]) (by simp [Zdn,eI]) (by omega) rfl (by omega)).mono ?_
  rintro v g7 ⟨x,hx,rfl,K7,R7,l7⟩
  simp only [Zar]
  exact ⟨x,rfl,(KG.trans (Zdu.app i G _)).trans K7,_,by omega,by omega,R7⟩
 simp only [Zao x0,Nat.zero_add,List.getElem?_cons_succ,List.getElem?_cons_zero,Zae]
 refine Zcx (fun _=>oth g0 p (Zdu.of_same s0) R0 (by omega) (by omega)) (fun hne=>?_)
 refine (Zcv R0 (by omega) 10).mono ?_
 rintro v g1 ⟨x,rfl,_,_,_,K1,R1,l1⟩
 have x1:=K1.get x0 (by omega)
 have KK1:=(Zdu.of_same (i:=i) s0).trans K1
 simp only [Zar]
 refine Zcx (fun _=>oth g1 _ KK1 R1 (by omega) (by omega)) (fun _=>?_)
 apply Zpe.J3i
 simp only [Zao x1,Nat.zero_add,List.getElem?_cons_succ,List.getElem?_cons_zero,Zae]
 refine (Zcv R1 (by omega) (n1:Int)).mono ?_
 rintro v g2 ⟨y,rfl,_,_,_,K2,R2,l2⟩
 simp only [Zar]
 exact ⟨y,rfl,KK1.trans K2,_,by omega,by omega,R2⟩
def DWI (h:Zaa) (v:Zau) (h':Zaa):Prop:=∃ a0 n0 c0 e0 a1 n1 c1 e1 w x y,v=.tup [.agg [.slice a0 n0 c0 e0,.slice a1 n1 c1 e1],.int .i64 x,.int .i64 y]∧Zbc h.length h h'∧Zmf h' a0 n0 c0 a1 n1 c1 w∧WB w
theorem Zwu {h:Zaa} {a:Pt} {n c:Nat} {e:Bool} {l:List Nat} (r:Row h.length h a n (Zdn eB l)) (hb:∀ b∈l,b < 256) (hnc:n≤c):Zah pg Ziv [.slice a n c e] h (DWI h):=by
 apply Zmy.call
 simp only [Zaw]
 generalize hg0:h ++ [Zcd.cells Zab [.slice none 0 0 true,.slice none 0 0 true] false]=g0
 have s0:Zbc h.length h g0:=by rw [← hg0]; exact Zam
 have w0:g0[h.length]?=some (.cells Zab [.slice none 0 0 true,.slice none 0 0 true] false):=by rw [← hg0]; simp
 have l0:g0.length=h.length + 1:=by rw [← hg0]; simp
 refine (Zsy (r.same' s0) hb hnc).mono ?_
 rintro v g2 ⟨rfl,s2,R2,l2⟩
 simp only [Zhr]
 have w2:=s2.get w0 (Own.lt w0)
 refine (Zuk R2 (by omega)).mono ?_
 rintro v g3 ⟨u,w,rfl,⟨a0,n0,c0,e0,q,n1,c1,e1,ys,rfl,d⟩,ws,K3,p3,hp1,hp2,R3⟩
 have w3:=K3.get w2 (by omega)
 have l3:=K3.le
 simp only [Zdd,Zaf,Zae,Zan]
 rw [Zfk]
 simp only [Zas]
 generalize hg4:g3 ++ [Zcd.cells Zab [.slice a0 n0 c0 e0,.slice (some (q,0)) n1 c1 e1] false]=g4
 have s4:Zbc g3.length g3 g4:=by rw [← hg4]; exact Zam
 have y4:g4[g3.length]?=some (.cells Zab [.slice a0 n0 c0 e0,.slice (some (q,0)) n1 c1 e1] false):=by rw [← hg4]; simp
 have w4:=s4.get w3 (Own.lt w3)
 have d4:=d.same s4
 have R4:=R3.same s4
 rw [Zbk y4]
 simp only [Zaq,Zaf,Zan,Zae]
 refine (Zvl R4 (by omega)).mono ?_
 rintro v g5 ⟨x,rfl,K5,p5,hp3,hp4,R5⟩
 have y5:=K5.get y4 (by omega)
 have w5:=K5.get w4 (by omega)
 have d5:=d4.kp K5 (by omega)
 simp only [Zar]
 rw [Zbk y5]
 simp only [Zaq,Zaf,Zan,Zae,true_and]
 refine (Zvl R5 (by omega)).mono ?_
 rintro v g6 ⟨y,rfl,K6,p6,hp5,hp6,R6⟩
 have y6:=K6.get y5 (by omega)
 have w6:=K6.get w5 (by omega)
 have d6:=d5.kp K6 (by omega)
 simp only [Zar]
 refine ⟨Zbk y6,?_⟩
 rw [Zbd w6 (by simp)]
 simp only [Zas,putRow,List.take_zero,List.length_cons,List.length_nil,List.drop_succ_cons,List.drop_zero,List.drop_nil,List.cons_append,List.nil_append,List.append_nil,Nat.zero_add]
 rw [Zbk (Zbz w6)]
 simp only [Zaq,Zaf,Zan,Zae]
 have hl4:=s4.le
 have hl5:=K5.le
 have hl6:=K6.le
 exact ⟨a0,n0,c0,e0,_,n1,c1,e1,w,x,y,rfl,⟨by simp; omega,fun j hj=>by rw [Zbs (by omega),K6.eq j (by omega) (by omega),K5.eq j (by omega) (by omega),s4.eq j (by omega),K3.eq j (by omega) (by omega),s2.eq j (by omega)]; exact s0.eq j hj⟩,(d6.setN (by omega)).rep,ws.wb (by omega)⟩
theorem Ysi {h:Zaa} {i o:Nat} {x y z:Zau} (r:Zbj h (.ptr (some (i,o))) 3=some [x,y,z]):Zbj h (.ptr (some (i,o))) 2=some [x,y]:=by
 cases hx:h[i]? with
 | none=>simp [Zbj,hx] at r
 | some ob=>
  cases ob with
  | cells t cs f=>
   simp only [Zbj,hx] at r ⊢
   split at r
   ·rename_i hle
    injection r with r
    rw [if_pos (by omega)]
    have:(cs.drop o).take 2=((cs.drop o).take 3).take 2:=by rw [List.take_take]; rfl
    rw [this,r]; rfl
   ·cases r
  | _=>simp [Zbj,hx] at r
end Go.Sim

set_option linter.unusedVariables false
set_option linter.unusedSimpArgs false
set_option maxRecDepth 20000
namespace Go.Sim
open Go Go.RowKit
theorem Zsj {α:Type} {l:List α} {g:Nat} (hg:g < l.length) {x:α}:x∈l.take (g + 1) ↔ x∈l.take g ∨ l[g]=x:=by
 rw [List.take_succ_eq_append_getElem hg,List.mem_append,List.mem_singleton]
 constructor
 ·rintro (h | h)
  ·exact .inl h
  ·exact .inr h.symm
 ·rintro (h | h)
  ·exact .inl h
  ·exact .inr h.symm
end Go.Sim

set_option linter.unusedVariables false
set_option linter.unusedSimpArgs false
set_option maxRecDepth 20000
namespace Go.Sim
open Go Go.RowKit

theorem Ysp {α:Type} {f:α→Bool} {l:List α} {k:Nat} (hk:k < l.length) (hf:f l[k]=true):(k:Int)∈ixs f l:=by
 unfold ixs
 exact List.mem_map.2 ⟨(l[k],k),List.mem_filter.2 ⟨List.mem_zipIdx_iff_getElem?.2 (List.getElem?_eq_getElem hk),hf⟩,rfl⟩
theorem Ymw {w:Wd} (hw:Zeg w=true) {k:Nat} (hk:k < w.is.length):Zht w w.is[k].1=true:=by
 unfold Zeg at hw
 simp only [Bool.and_eq_true,List.all_eq_true] at hw
 have h3:=hw.2 _ (List.getElem_mem hk)
 unfold Zmu at h3
 simp only [Bool.and_eq_true] at h3
 unfold Zht
 rw [h3.1.1.1.1.1.2,h3.1.1.1.1.2]; rfl
theorem Zpp {w:Wd} {x y:Int}:Znh w x y=true ↔ Zeg w=true∧Zzn w x=true∧Zzn w y=true∧Znc (Zne w x) (Zne w y)=true:=by
 unfold Znh Zne; simp only [Bool.and_eq_true,and_assoc]
theorem Ygp {w:Wd} {x y z:Int} (h:Znh w x y=true) (k:Znh w y z=true):Znh w x z=true:=by
 obtain ⟨h1,h2,h3,h4⟩:=Zpp.1 h
 obtain ⟨_,_,k3,k4⟩:=Zpp.1 k
 exact Zpp.2 ⟨h1,h2,k3,Yfy h4 k4⟩
theorem Yad {w:Wd} (hw:Zeg w=true) {k:Nat} (hk:k < w.is.length):Znc w.is[k] w.is[k]=true:=by
 have:=Ymw hw hk
 unfold Zht at this
 simp only [Bool.and_eq_true] at this
 unfold Znc
 simp [Yjr this.2]
theorem Ykf {w:Wd} (hw:Zeg w=true) {k:Nat} (hk:k < w.is.length):Znh w k k=true:=
 Zpp.2 ⟨hw,Zmt hk,Zmt hk,by rw [Zlw hk]; exact Yad hw hk⟩
theorem lawFSpecial {h:Zaa} {a:Pt} {n c:Nat} {e:Bool} {l:List Nat} (r:Row h.length h a n (Zdn eB l)) (hb:∀ b∈l,b < 256) (hnc:n≤c) :
  Zah pg Zrg [.slice a n c e] h fun v _=>v=.bool true:=by
 apply Zdc.call
 refine Zat (fun _=>rfl) (fun _=>?_)
 refine (Zwu r hb hnc).mono ?_
 rintro v h1 ⟨a0,n0,c0,e0,a1,n1,c1,e1,w,x,y,rfl,s1,rep,wb⟩
 simp only [Zct,Zaf,Zdd,Zae,Zar,Zan,Zaw]
 rw [Zfk]
 simp only [Zas]
 generalize hgA:h1 ++ [Zcd.cells Zab [.slice a0 n0 c0 e0,.slice a1 n1 c1 e1] false]=gA
 have sA:Zbc h1.length h1 gA:=by rw [← hgA]; exact Zam
 have xA:gA[h1.length]?=some (.cells Zab [.slice a0 n0 c0 e0,.slice a1 n1 c1 e1] false):=by rw [← hgA]; simp
 have RA:=rep.same sA
 have hl1:=rep.len1
 have hli:=wb.li
 rw [Zbk xA]
 simp only [Zaq,Zaf,Zan,Zae]
 refine (Zmh RA wb).mono ?_
 rintro v g1 ⟨rfl,t1⟩
 have x1:=t1.get xA (Own.lt xA)
 have R1:=RA.same t1
 simp only [Zap]
 rw [Zbk x1]
 simp only [Zaq,Zaf,Zan,Zae]
 refine (Zui R1 wb).mono ?_
 rintro v g2 ⟨rfl,t2⟩
 have x2:=t2.get x1 (Own.lt x1)
 have R2:=R1.same t2
 simp only [Zap,beq_self_eq_true,Bool.not_true,Zca,Zao x2,Nat.zero_add,List.getElem?_cons_succ,List.getElem?_cons_zero,Zae]
 refine Zdc.L8ind _ _ _ _ _ _ _ (J:=fun (g:Nat) z k=>z=(g:Int)∧g≤n1∧k[h1.length]?=some (.cells Zab [.slice a0 n0 c0 e0,.slice a1 n1 c1 e1] false)∧Zmf k a0 n0 c0 a1 n1 c1 w) (fun g=>n1 - g) ?_ 0 _ _ ⟨rfl,by omega,x2,R2⟩
 rintro g z k ⟨rfl,hg,xk,Rk⟩ R hR
 unfold Zdc.L8t
 refine Zat (fun hlt=>?_) (fun hge=>?_)
 ·have j12:∀ k:Zaa,k[h1.length]?=some (.cells Zab [.slice a0 n0 c0 e0,.slice a1 n1 c1 e1] false)→Zmf k a0 n0 c0 a1 n1 c1 w→Zdc.J12 (fun v _=>v=.bool true) R h1.length 0 (g:Int) (g:Int) (n1:Int) (Znh w x y) y x k:=by
   intro k xk Rk
   have nxt:∀ k:Zaa,k[h1.length]?=some (.cells Zab [.slice a0 n0 c0 e0,.slice a1 n1 c1 e1] false)→Zmf k a0 n0 c0 a1 n1 c1 w→Zdc.J14 (fun v _=>v=.bool true) R (g:Int) (n1:Int) (Znh w x y) h1.length 0 y x k:=by
    intro k xk Rk
    apply Zdc.J14i
    rw [Zbl (by omega)]
    exact hR (g + 1) _ _ (by omega) ⟨rfl,by omega,xk,Rk⟩
   apply Zdc.J12i
   rw [Zbk xk]
   simp only [Zaq,Zaf,Zan,Zae]
   refine (Zkt Rk wb).mono ?_
   rintro v k1 ⟨rfl,t1⟩
   have xk1:=t1.get xk (Own.lt xk)
   have Rk1:=Rk.same t1
   simp only [Zap]
   refine Zcu (fun hw=>?_) (fun _=>nxt k1 xk1 Rk1)
   rw [Zbk xk1]
   simp only [Zaq,Zaf,Zan,Zae]
   refine (Zmh Rk1 wb).mono ?_
   rintro v k2 ⟨rfl,t2⟩
   simp only [Zap]
   rw [Ykf hw (by omega)]
   exact nxt k2 (t2.get xk1 (Own.lt xk1)) (Rk1.same t2)
  refine Zcu (fun hs=>?_) (fun _=>j12 k xk Rk)
  rw [Zbk xk]
  simp only [Zaq,Zaf,Zan,Zae]
  refine (Zmh Rk wb).mono ?_
  rintro v k1 ⟨rfl,t1⟩
  have xk1:=t1.get xk (Own.lt xk)
  have Rk1:=Rk.same t1
  simp only [Zap]
  refine Zcu (fun hk=>?_) (fun _=>j12 k1 xk1 Rk1)
  rw [Zbk xk1]
  simp only [Zaq,Zaf,Zan,Zae]
  refine (Zmh Rk1 wb).mono ?_
  rintro v k2 ⟨rfl,t2⟩
  simp only [Zap]
  rw [Ygp hs hk]
  exact j12 k2 (t2.get xk1 (Own.lt xk1)) (Rk1.same t2)
 ·apply Zdc.A8x0i
  refine Zcu (fun hs=>?_) (fun _=>rfl)
  obtain ⟨hw,hx,hy,hsp⟩:=Zpp.1 hs
  obtain ⟨kx,rfl,hkx⟩:=Zqq hx
  obtain ⟨ky,rfl,hky⟩:=Zqq hy
  obtain ⟨i,o,ka,kn,kc,ke,rfl,hi,hr3,_⟩:=Zho Rk hkx
  simp only [Zao xk,Nat.zero_add,List.getElem?_cons_succ,List.getElem?_cons_zero,Zae,Zav,Int.toNat_natCast,Nat.add_zero,Ysi hr3,Zaq,Zaf,Zal,Zan,Zaw]
  refine ⟨by omega,?_⟩
  rw [Zfk]
  simp only [Zas]
  generalize hgB:k ++ [Zcd.cells Zad [.str w.is[kx].1.1,.str w.is[kx].1.2] false]=gB
  have sB:Zbc k.length k gB:=by rw [← hgB]; exact Zam
  have yB:gB[k.length]?=some (.cells Zad [.str w.is[kx].1.1,.str w.is[kx].1.2] false):=by rw [← hgB]; simp
  have xB:=sB.get xk (Own.lt xk)
  have RB:=Rk.same sB
  rw [Zbk xB,Zbk yB]
  simp only [Zaq,Zaf,Zan,Zae,Zal]
  refine (Zsa (nd:=w.is[kx].1) RB wb).mono ?_
  rintro v k2 ⟨s2,b,m,cp,ee,rfl,f⟩
  simp only [Zct,Zaf,Zae,Zap,Zan]
  have hok:(Zeg w && Zht w w.is[kx].1)=true:=by rw [hw,Ymw hw hkx]; rfl
  have hin:(ky:Int)∈Zhq w w.is[kx].1:=by
   unfold Zhq Zwr
   rw [hok,if_pos rfl]
   refine Ysp hky ?_
   rw [Zlw hkx,Zlw hky] at hsp
   unfold Znc at hsp
   unfold Zlr
   simp only [Bool.and_eq_true,decide_eq_true_eq] at hsp ⊢
   exact ⟨hsp.1.symm,hsp.2⟩
  rw [hok]
  have hml:=f.1
  have hmb:(Zhq w w.is[kx].1).length≤1048576:=by unfold Zhq Zwr; rw [hok,if_pos rfl]; have:=Zqi (Zlr w.is[kx].1) w.is; omega
  have rowf:Row k2.length k2 b m (Zdn eI (Zhq w w.is[kx].1)):=by have:=f.row Zjg; rwa [Nat.mul_one] at this
  generalize Zhq w w.is[kx].1=L at hin hml hmb rowf
  refine Zdc.L20ind _ _ _ _ _ _ _ _ (J:=fun (g:Nat) q z k'=>z=(g:Int)∧g≤m∧k'=k2∧q=decide ((ky:Int)∈L.take g)) (fun g=>m - g) ?_ 0 _ _ _ ⟨rfl,by omega,rfl,by simp⟩
  rintro g q z k' ⟨rfl,hg,rfl,rfl⟩ R hR
  unfold Zdc.L20t
  refine Zat (fun hlt=>?_) (fun hge=>?_)
  ·obtain ⟨i,o,hgl,rfl,_,hc⟩:=rowf.i64 (k:=g) (by omega)
   simp only [Zav,Int.toNat_natCast,hc,Zar]
   refine ⟨by omega,?_⟩
   have nxt:∀ q,q=decide ((ky:Int)∈L.take (g + 1))→Zdc.J23 (fun v _=>v=.bool true) R (g:Int) (m:Int) (some (i,o)) m cp ee q (ky:Int) true k':=by
    rintro q rfl
    apply Zdc.J23i
    rw [Zbl (by omega)]
    exact hR (g + 1) _ _ _ (by omega) ⟨rfl,by omega,rfl,rfl⟩
   refine Zcu (fun ht=>?_) (fun hf=>?_)
   ·refine nxt true ?_
    have:=of_decide_eq_true ht
    exact (decide_eq_true ((Zsj hgl).2 (.inl this))).symm
   ·refine nxt _ ?_
    have hno:=of_decide_eq_false hf
    rw [Bool.eq_iff_iff,beq_iff_eq,decide_eq_true_eq,Zsj hgl]
    exact ⟨.inr,fun h=>h.resolve_left hno⟩
  ·apply Zdc.A20x2i
   have:g=m:=by omega
   subst this
   rw [List.take_of_length_le (by omega),decide_eq_true hin]
   rfl
end Go.Sim

set_option linter.unusedVariables false
set_option linter.unusedSimpArgs false
set_option maxRecDepth 20000
namespace Go.Sim
open Go Go.RowKit
theorem Yhg {P:Program} {h:Zaa} {f:Nat} {e:TypeId} (he:P.underlying e=some (.int .u8)):∀ (vs:List (List Zau)) (ds:List Dt),ds.length=vs.length→(∀ (i:Nat) (v:List Zau) (x:Dt),vs[i]?=some v→ds[i]?=some x→v.length=P.cellsOf e∧rd P h (f + 1) e v x) →
  ∃ l:List Nat,vs.flatten=Zdn eB l∧∀ z∈l,z < 256
 | [],_,_,_=>⟨[],rfl,by simp⟩
 | v :: vs,[],h,_=>by simp at h
 | v :: vs,d :: ds,hl,hall=>by
  obtain ⟨l,hfl,hs⟩:=Yhg he vs ds (by simpa using hl) fun i v x hv hx=>hall (i + 1) v x (by simpa using hv) (by simpa using hx)
  have h0:=(hall 0 v d rfl rfl).2
  simp only [rd,he] at h0
  obtain ⟨z,rfl,_,hw⟩:=h0
  simp [Lit.wf,IntKind.min,IntKind.max,IntKind.signed,IntKind.bits] at hw
  refine ⟨z.toNat :: l,?_,fun x hx=>?_⟩
  ·simp [hfl,eB]; omega
  ·rcases List.mem_cons.1 hx with rfl | hx
   ·omega
   ·exact hs x hx
theorem rd_bytes {P:Program} {h:Zaa} {f:Nat} {t e:TypeId} {cs:List Zau} {d:Dt} (ht:P.underlying t=some (.slice e)) (he:P.underlying e=some (.int .u8)) (hc:P.cellsOf e=1) (hr:rd P h (f + 2) t cs d) :
  ∃ a n c ex,∃ l:List Nat,cs=[.slice a n c ex]∧Row h.length h a n (Zdn eB l)∧∀ z∈l,z < 256:=by
 unfold rd at hr
 rw [ht] at hr
 obtain ⟨a,n,c,ex,ds,vs,rfl,rfl,hdl,hn,hvl,hrow,hall⟩:=hr
 obtain ⟨l,hfl,hs⟩:=Yhg (f:=f) he vs ds (by omega) hall
 rw [hc,Nat.mul_one,hfl] at hrow
 exact ⟨a,n,c,ex,l,rfl,hrow,hs⟩
end Go.Sim
