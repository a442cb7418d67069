/- A part of the proof of a statement of this seat: see the text that holds the theorem. No condition. -/
import Derived.Test.YtflfcofeedjblaaGreatDoorPTCDrawU
import Derived.Test.YtflfcofeedjblaaGreatDoorCDrawV
import Derived.Test.YtflfcofeedjblaaGreatDoorCFind
import Derived.Test.YtflfcofeedjblaaGreatDoorCAsked
import Derived.Test.YtflfcofeedjblaaGreatDoorCMost
import Derived.Test.YtflfcofeedjblaaGreatDoorPTCInN
import Derived.Test.YtflfcofeedjblaaGreatDoorCWVar2
import Derived.Test.YtflfcofeedjblaaGreatDoorPTCSApply
import Derived.Test.YtflfcofeedjblaaGreatDoorCSplitC
set_option linter.unusedVariables false
set_option linter.unusedSimpArgs false
set_option linter.all false
set_option linter.unusedVariables false
set_option linter.unusedSimpArgs false
set_option maxRecDepth 20000
namespace Go.Sim
open Go Go.RowKit

def WAt (b:Nat) (h:Zaa) (u:List Zay) (w:Wd):Prop:=∃ a0 n0 c0 e0 q n1 c1 e1 ys,u=[.slice a0 n0 c0 e0,.slice (some (q,0)) n1 c1 e1]∧WDr b h a0 n0 c0 q n1 c1 ys w
theorem RdK.trans {i p k k' p':Nat} {h h1 h2:Zaa} (a:Zem i h h1) (hp:p≤p') (hk:p' + k'≤p + k) (r:RdK i p' k' h1 h2):RdK i p k h h2:=⟨a.trans r.1,r.2.imp fun q ⟨h1,h2,h3⟩=>⟨by omega,by omega,h3⟩⟩
theorem WDr.newCls {b:Nat} {h h':Zaa} {a0:Pt} {n0 c0 q n1 c1:Nat} {ys:List EI} {w:Wd} (d:WDr b h a0 n0 c0 q n1 c1 ys w) (off:∀ {j:Nat} {t:TypeId} {cs:List Zay},t≠Zbj→t≠Zac→h[j]?=some (.cells t cs false)→h'[j]?=some (.cells t cs false))
  {y n c:Nat} {cs':List Nd} (hy:h'[y]?=some (.cells Zbj (Zdb eP cs') false)) (hb:b≤y) (hn:cs'.length=n) (hc:n≤c):WDr b h' (some (y,0)) n c q n1 c1 ys ⟨cs',w.is⟩:=
 ⟨⟨hn,.inr ⟨y,rfl,hb,hy⟩⟩,hc,d.bq,off (by decide) (by decide) d.ob,d.len,d.wl,d.le1,fun k x i hx hi=>⟨(d.need k x i hx hi).1,(d.need k x i hx hi).2.1,⟨(d.need k x i hx hi).2.2.1,(d.need k x i hx hi).2.2.2.imp id fun ⟨j,ha,hb,hj⟩=>⟨j,ha,hb,off (by decide) (by decide) hj⟩⟩⟩⟩
theorem Ytz {h:Zaa} {i p b m:Nat} {a0:Pt} {n0 c0 q n1 c1:Nat} {e0 e1:Bool} {ys:List EI} {w:Wd} (r:Rdr h i p) (hp:p≤800000000000) (d:WDr b h a0 n0 c0 q n1 c1 ys w) (hib:i < b) (hbh:b≤h.length) (ws:WS m w) (hm:m≤100000) :
  Zak pg Zui [.ptr (some (i,0)),.agg [.slice a0 n0 c0 e0,.slice (some (q,0)) n1 c1 e1]] h fun v h'=>∃ u w',v=.agg u∧WAt b h' u w'∧WS (m + 11) w'∧RdK i p 100 h h':=by
 have hil:=r.lt
 have hn0:n0≤100000:=by have:=ws.lc; have:=d.cls.1; omega
 have hn1:n1≤100000:=by have:=ws.li; have:=d.wl; omega
 apply Zjj.call
 simp only [Zaw]
 generalize hg0:h ++ [Zcb.cells Zac [.slice a0 n0 c0 e0,.slice (some (q,0)) n1 c1 e1] false]=g0
 have s0:Zbc h.length h g0:=by rw [← hg0]; exact Zal
 have x0:g0[h.length]?=some (.cells Zac [.slice a0 n0 c0 e0,.slice (some (q,0)) n1 c1 e1] false):=by rw [← hg0]; simp
 have l0:g0.length=h.length + 1:=by rw [← hg0]; simp
 generalize hg1:g0 ++ [Zcb.cells Zac [.slice none 0 0 true,.slice none 0 0 true] false]=g1
 have s1:Zbc g0.length g0 g1:=by rw [← hg1]; exact Zal
 have x1:=s1.get x0 (Own.lt x0)
 have z1:g1[g0.length]?=some (.cells Zac [.slice none 0 0 true,.slice none 0 0 true] false):=by rw [← hg1]; simp
 have l1:g1.length=g0.length + 1:=by rw [← hg1]; simp
 have S1:=s0.cat s1
 refine (Zdd (r.same S1) (by omega) 36).mono ?_
 rintro v g3 ⟨x,rfl,_,_,_,K3,R3,l3⟩
 have x3:=K3.get x1 (by omega)
 have z3:=K3.get z1 (by omega)
 have KK3:=(Zem.of_same (i:=i) S1).trans K3
 have d3:WDr b g3 a0 n0 c0 q n1 c1 ys w:=(d.same S1).kp K3 hib
 simp only [Zax]
 have fin:∀ (G:Zaa) (a0:Pt) (n0 c0:Nat) (e0:Bool) (q n1 c1:Nat) (e1:Bool) (ys:List EI) (w':Wd) (p':Nat),Zem i h G→Rdr G i p'→p≤p'→p'≤p + 100→G[h.length]?=some (.cells Zac [.slice a0 n0 c0 e0,.slice (some (q,0)) n1 c1 e1] false)→G[g0.length]?=some (.cells Zac [.slice none 0 0 true,.slice none 0 0 true] false) →
   WDr b G a0 n0 c0 q n1 c1 ys w'→WS (m + 11) w'→Zjj.J11 (fun v h'=>∃ u w',v=.agg u∧WAt b h' u w'∧WS (m + 11) w'∧RdK i p 100 h h') h.length 0 g0.length 0 G:=by
  intro G a0 n0 c0 e0 q n1 c1 e1 ys w' p' KG RG h1 h2 xG zG dG wG
  apply Zjj.J11i
  rw [Zaz xG]
  simp only [Zao,Zae,Zam,Zaj]
  rw [Zbg zG (by simp)]
  simp only [Zas,putRow,List.take_zero,List.length_cons,List.length_nil,List.drop_succ_cons,List.drop_zero,List.drop_nil,List.cons_append,List.nil_append,List.append_nil,Nat.zero_add]
  rw [Zaz (Zce zG)]
  simp only [Zao,Zae,Zam,Zaj]
  have rk:RdK i p 100 h G:=⟨KG,p',h1,h2,RG⟩
  exact ⟨_,w',rfl,⟨a0,n0,c0,e0,q,n1,c1,e1,ys,rfl,dG.setW zG⟩,wG,rk.setW (by omega) hil⟩
 have h3l:=R3.lt
 have hx3l:=Own.lt x3
 have hz3l:=Own.lt z3
 refine Zcw (fun _=>?_) (fun _=>Zcw (fun _=>?_) (fun _=>Zcw (fun _=>?_) (fun _=>?_)))
 ·-- one class more
  generalize hg5:g3 ++ [Zcb.cells Zbj [] false]=g5
  have s5:Zbc g3.length g3 g5:=by rw [← hg5]; exact Zal
  have c5:g5[g3.length]?=some (.cells Zbj [] false):=by rw [← hg5]; simp
  have l5:g5.length=g3.length + 1:=by rw [← hg5]; simp
  have x5:=s5.get x3 hx3l
  have z5:=s5.get z3 hz3l
  have d5:=d3.same s5
  have R5:=R3.same s5
  simp only [Zan x5,Nat.zero_add,List.getElem?_cons_zero,Zaj]
  refine Vec.app0 (n:=0) (e:=true) c5 Yab Ymh Yml Ylr (by simp) ((d5.cls.row Zcr).rowOf) (Zjw (enc:=eP) (fun _=>rfl) w.cs) (by omega) (fun g6 hl6 hi6 hk6=>?_)
  have keep6:∀ {j:Nat} {o:Zcb},g5[j]?=some o→j≠g3.length→g6[j]?=some o:=fun {j o} hj hne=>by rw [hk6 j (Own.lt hj) hne]; exact hj
  have x6:=keep6 x5 (by omega)
  have z6:=keep6 z5 (by omega)
  have d6:WDr b g6 a0 n0 c0 q n1 c1 ys w:=d3.keep fun j hj hjl=>by rw [hk6 j (by omega) (by omega),s5.eq j hjl]
  have K6:Zem i h g6:=by
   have:=(KK3.trans (Zem.of_same s5)).le
   exact ⟨by omega,fun j hj hji=>by rw [hk6 j (by omega) (by have:=KK3.le; omega)]; exact (KK3.trans (Zem.of_same s5)).eq j hj hji⟩
  have R6:Rdr g6 i (p + 1):=R5.agree (fun j hj=>hk6 j (by omega) (by omega)) (by omega)
  have i6:g6[g5.length]?=some (.cells Zbj (Zdb eP w.cs) false):=by simpa using hi6
  simp only [Zaj]
  have h6l:=R6.lt
  refine (Znk (R6.app _) (by omega) (j:=g6.length) (t:=Zbi) (n:=4) (l:=[[69],[73],[],[72]]) (by simp [Zdb,eS]) (by omega) rfl (by omega)).mono ?_
  rintro v g7 ⟨s,hs,rfl,K7,R7,l7⟩
  simp only [Zah]
  have hsz:s.length≤1000∧∀ b∈s,b < 256:=by
   simp only [List.mem_cons,List.not_mem_nil,or_false] at hs
   rcases hs with rfl | rfl | rfl | rfl <;> exact ⟨by decide,by decide⟩
  have h7l:=R7.lt
  refine (Znk (R7.app _) (by omega) (j:=g7.length) (t:=Zbi) (n:=4) (l:=[[],[69],[72],[90]]) (by simp [Zdb,eS]) (by omega) rfl (by omega)).mono ?_
  rintro v g8 ⟨s',hs',rfl,K8,R8,l8⟩
  simp only [Zah]
  have hsz':s'.length≤1000:=by
   simp only [List.mem_cons,List.not_mem_nil,or_false] at hs'
   rcases hs' with rfl | rfl | rfl | rfl <;> decide
  have K68:Zem i g6 g8:=(((Zem.app i g6 _).trans K7).trans (Zem.app i g7 _)).trans K8
  have x8:=K68.get x6 (by omega)
  have z8:=K68.get z6 (by omega)
  have i8:=K68.get i6 (by omega)
  have d8:=d6.kp K68 hib
  have hlcs:w.cs.length=n0:=d.cls.1
  refine (Vec.mk1 (n:=0 + n0) (c:=0 + n0) i8).pushN (sz:=2) Yab Ymh Yml Ylr (by rw [Zat Zcr]; omega) rfl (by omega) rfl (by omega) (fun g9 hl9 hi9 hk9=>?_)
  have keep9:∀ {j:Nat} {o:Zcb},g8[j]?=some o→j≠g5.length→g9[j]?=some o:=fun {j o} hj hne=>by rw [hk9 j (Own.lt hj) (fun i hi=>by cases hi; exact hne)]; exact hj
  have x9:=keep9 x8 (by omega)
  have z9:=keep9 z8 (by omega)
  have KK8:=K6.trans K68
  have hKl:=KK8.le
  simp only [Zaj]
  rw [Zbg x9 (by simp)]
  simp only [Zas,putRow,List.take_zero,List.length_cons,List.length_nil,List.drop_succ_cons,List.drop_zero,List.drop_nil,List.cons_append,List.nil_append,List.append_nil]
  have hi9':(g9.set h.length (.cells Zac [.slice (some (g8.length + 1,0)) (0 + n0 + 1) (0 + n0 + 1) false,.slice (some (q,0)) n1 c1 e1] false))[g8.length + 1]?=some (.cells Zbj (Zdb eP (w.cs ++ [(s,s')])) false):=by rw [Zbw (by omega)]; simpa [eP] using hi9
  have rk:RdK i p 100 h g9:=⟨⟨by omega,fun j hj hji=>by rw [hk9 j (by omega) (fun i' hi'=>by cases hi'; have:=KK3.le; omega)]; exact KK8.eq j hj hji⟩,p + 1 + 1 + 1,by omega,by omega,R8.agree (fun j hj=>hk9 j (by omega) (fun i' hi'=>by cases hi'; omega)) (by omega)⟩
  obtain ⟨KW,pW,hW1,hW2,RW⟩:=rk.setW (z:=h.length) (x:=.cells Zac [.slice (some (g8.length + 1,0)) (0 + n0 + 1) (0 + n0 + 1) false,.slice (some (q,0)) n1 c1 e1] false) (Nat.le_refl _) hil
  exact fin _ _ _ _ _ _ _ _ _ ys ⟨w.cs ++ [(s,s')],w.is⟩ pW KW RW hW1 hW2 (Zce x9) (by rw [Zbw (by omega)]; exact z9)
   (d8.newCls (fun {j t cs} h1 h2 hj=>by rw [Zbw (Zgr x9 (keep9 hj (Zgr hj i8 h1)) (Ne.symm h2))]; exact keep9 hj (Zgr hj i8 h1)) hi9' (by omega) (by simp; omega) (Nat.le_refl _)) ((ws.addC (p:=(s,s')) ⟨hsz.1,hsz',hsz.2⟩).mono (by omega))
 ·-- one instance more
  generalize hg5:g3 ++ [Zcb.cells Zad [] false]=g5
  have s5:Zbc g3.length g3 g5:=by rw [← hg5]; exact Zal
  have c5:g5[g3.length]?=some (.cells Zad [] false):=by rw [← hg5]; simp
  have l5:g5.length=g3.length + 1:=by rw [← hg5]; simp
  have x5:=s5.get x3 hx3l
  have z5:=s5.get z3 hz3l
  have d5:=d3.same s5
  have R5:=R3.same s5
  simp only [Zan x5,Nat.zero_add,List.getElem?_cons_succ,List.getElem?_cons_zero,Zaj]
  have row5:rowOf g5 (some (q,0)) (n1 * 3)=some (Zdb eN ys):=((Vec.mk1 (n:=0) (c:=0) d5.ob).row (m:=n1 * 3) (by rw [Zat Zrs,d5.len])).rowOf
  refine Vec.app0 (n:=0) (e:=true) c5 Zrz Ych Yba Yby (by simp) row5 (Zjw (enc:=eN) (fun _=>rfl) ys) (by omega) (fun g6 hl6 hi6 hk6=>?_)
  have keep6:∀ {j:Nat} {o:Zcb},g5[j]?=some o→j≠g3.length→g6[j]?=some o:=fun {j o} hj hne=>by rw [hk6 j (Own.lt hj) hne]; exact hj
  have x6:=keep6 x5 (by omega)
  have z6:=keep6 z5 (by omega)
  have d6:WDr b g6 a0 n0 c0 q n1 c1 ys w:=d3.keep fun j hj hjl=>by rw [hk6 j (by omega) (by omega),s5.eq j hjl]
  have K6:Zem i h g6:=by
   have:=(KK3.trans (Zem.of_same s5)).le
   exact ⟨by omega,fun j hj hji=>by rw [hk6 j (by omega) (by have:=KK3.le; omega)]; exact (KK3.trans (Zem.of_same s5)).eq j hj hji⟩
  have R6:Rdr g6 i (p + 1):=R5.agree (fun j hj=>hk6 j (by omega) (by omega)) (by omega)
  have i6:g6[g5.length]?=some (.cells Zad (Zdb eN ys) false):=by simpa using hi6
  simp only [Zaj]
  have h6l:=R6.lt
  refine (Znk (R6.app _) (by omega) (j:=g6.length) (t:=Zbi) (n:=3) (l:=[[69],[72],[65]]) (by simp [Zdb,eS]) (by omega) rfl (by omega)).mono ?_
  rintro v g7 ⟨s,hs,rfl,K7,R7,l7⟩
  simp only [Zah]
  have hsz1:s.length≤1000:=by
   simp only [List.mem_cons,List.not_mem_nil,or_false] at hs
   rcases hs with rfl | rfl | rfl <;> decide
  have h7l:=R7.lt
  refine (Znk (R7.app _) (by omega) (j:=g7.length) (t:=Zbi) (n:=4) (l:=[[120],[113],[105],[108,40,120,41]]) (by simp [Zdb,eS]) (by omega) rfl (by omega)).mono ?_
  rintro v g8 ⟨s',hs',rfl,K8,R8,l8⟩
  simp only [Zah]
  have hsz2:s'.length≤1000:=by
   simp only [List.mem_cons,List.not_mem_nil,or_false] at hs'
   rcases hs' with rfl | rfl | rfl | rfl <;> decide
  have h8l:=R8.lt
  refine (Znk (R8.app _) (by omega) (j:=g8.length) (t:=Zbi) (n:=3) (l:=[[69],[65],[72]]) (by simp [Zdb,eS]) (by omega) rfl (by omega)).mono ?_
  rintro v g9 ⟨s2,hs2,rfl,K9,R9,l9⟩
  simp only [Zah]
  have hsz3:s2.length≤1000:=by
   simp only [List.mem_cons,List.not_mem_nil,or_false] at hs2
   rcases hs2 with rfl | rfl | rfl <;> decide
  have h9l:=R9.lt
  refine (Znk (R9.app _) (by omega) (j:=g9.length) (t:=Zbi) (n:=3) (l:=[[121],[105],[113]]) (by simp [Zdb,eS]) (by omega) rfl (by omega)).mono ?_
  rintro v ga ⟨s3,hs3,rfl,Ka,Ra,la⟩
  simp only [Zah]
  have hsz4:s3.length≤1000:=by
   simp only [List.mem_cons,List.not_mem_nil,or_false] at hs3
   rcases hs3 with rfl | rfl | rfl <;> decide
  have K6a:Zem i g6 ga:=(((((((Zem.app i g6 _).trans K7).trans (Zem.app i g7 _)).trans K8).trans (Zem.app i g8 _)).trans K9).trans (Zem.app i g9 _)).trans Ka
  have hK6a:=K6a.le
  generalize hgb:ga ++ [Zcb.cells Zab [.str s2,.str s3] false]=gb
  have sb:Zbc ga.length ga gb:=by rw [← hgb]; exact Zal
  have nb:gb[ga.length]?=some (.cells Zab (Zdb eP [(s2,s3)]) false):=by rw [← hgb]; simp [eP]
  have lb:gb.length=ga.length + 1:=by rw [← hgb]; simp
  have K6b:=K6a.trans (Zem.of_same sb)
  have xb:=K6b.get x6 (by omega)
  have zb:=K6b.get z6 (by omega)
  have ib:=K6b.get i6 (by omega)
  have db:=d6.kp K6b hib
  have Rb:=Ra.same sb
  have Kb:=K6.trans K6b
  have hKl:=Kb.le
  have hlI:ys.length=n1:=d.len
  have hKl3:=KK3.le
  refine (Vec.mk1 (n:=0 + n1) (c:=0 + n1) ib).pushN (sz:=3) Zrz Ych Yba Yby (by rw [Zat Zrs]; omega) rfl (by omega) rfl (by omega) (fun gc hlc hic hkc=>?_)
  have keepc:∀ {j:Nat} {o:Zcb},gb[j]?=some o→j≠g5.length→gc[j]?=some o:=fun {j o} hj hne=>by rw [hkc j (Own.lt hj) (fun i hi=>by cases hi; exact hne)]; exact hj
  have xc:=keepc xb (by omega)
  have zc:=keepc zb (by omega)
  have dc:WDr b gc a0 n0 c0 (gb.length + 1) (n1 + 1) (0 + n1 + 1) (ys ++ [⟨s,s',some (ga.length,0),1,1,true⟩]) ⟨w.cs,w.is ++ [((s,s'),[(s2,s3)])]⟩:=
   db.push (z:=g5.length) (x:=⟨s,s',some (ga.length,0),1,1,true⟩) (i:=((s,s'),[(s2,s3)])) ⟨rfl,rfl,rfl,.inr ⟨ga.length,rfl,by omega,nb⟩⟩ (by omega) (by simpa [eN] using hic) (fun o ho=>by rw [ib] at ho; cases ho; exact ⟨_,rfl⟩) (fun j hj hne=>hkc j hj (fun i hi=>by cases hi; exact hne)) (by omega)
  simp only [Zaj]
  rw [Zbg xc (by simp)]
  simp only [Zas,putRow,List.take_succ_cons,List.take_zero,List.length_cons,List.length_nil,List.drop_succ_cons,List.drop_zero,List.drop_nil,List.cons_append,List.nil_append,List.append_nil]
  have rk:RdK i p 100 h gc:=⟨⟨by omega,fun j hj hji=>by rw [hkc j (by omega) (fun i' hi'=>by cases hi'; omega)]; exact Kb.eq j hj hji⟩,_,by omega,by omega,Rb.agree (fun j hj=>hkc j (by omega) (fun i' hi'=>by cases hi'; omega)) (by omega)⟩
  obtain ⟨KW,pW,hW1,hW2,RW⟩:=rk.setW (z:=h.length) (x:=.cells Zac [.slice a0 n0 c0 e0,.slice (some (gb.length + 1,0)) (0 + n1 + 1) (0 + n1 + 1) false] false) (Nat.le_refl _) hil
  have e01:0 + n1 + 1=n1 + 1:=by omega
  rw [e01] at KW RW dc ⊢
  exact fin _ _ _ _ _ _ _ _ _ _ _ pW KW RW hW1 hW2 (Zce xc) (by rw [Zbw (by omega)]; exact zc) (dc.setW xc) ((ws.addI (i:=((s,s'),[(s2,s3)])) ⟨hsz1,hsz2,by simp,fun q hq=>by simp at hq; subst hq; exact ⟨hsz3,hsz4⟩⟩).mono (by omega))
 ·-- ten instances more
  refine Zjj.L8ind (J:=fun (g:Nat) x50 k=>x50=(g:Int)∧g≤10∧Zem i h k∧Rdr k i (p + 1)∧k[g0.length]?=some (.cells Zac [.slice none 0 0 true,.slice none 0 0 true] false) ∧
    ∃ q n1 c1 e1 ys w',k[h.length]?=some (.cells Zac [.slice a0 n0 c0 e0,.slice (some (q,0)) n1 c1 e1] false)∧WDr b k a0 n0 c0 q n1 c1 ys w'∧WS (m + g) w') (m:=fun g=>10 - g) (hr:=?_) (g:=0)
   (hj:=⟨rfl,by omega,KK3,R3,z3,q,n1,c1,e1,ys,w,x3,d3,ws⟩) ..
  rintro g x50 k ⟨rfl,hg,Kk,Rk,zk,q,n1,c1,e1,ys,w',xk,dk,wk'⟩ R hR
  have hkl:=Rk.lt
  have hxl:=Own.lt xk
  have hzl:=Own.lt zk
  have hn1':n1≤200000:=by have:=wk'.li; have:=dk.wl; omega
  unfold Zjj.L8t
  refine Zar (fun hlt=>?_) (fun hge=>?_)
  ·simp only [Zaw]
   generalize hg5:k ++ [Zcb.cells Zad [] false]=g5
   have s5:Zbc k.length k g5:=by rw [← hg5]; exact Zal
   have c5:g5[k.length]?=some (.cells Zad [] false):=by rw [← hg5]; simp
   have l5:g5.length=k.length + 1:=by rw [← hg5]; simp
   have x5:=s5.get xk hxl
   have z5:=s5.get zk hzl
   have d5:=dk.same s5
   have R5:=Rk.same s5
   simp only [Zan x5,Nat.zero_add,List.getElem?_cons_succ,List.getElem?_cons_zero,Zaj]
   have row5:rowOf g5 (some (q,0)) (n1 * 3)=some (Zdb eN ys):=((Vec.mk1 (n:=0) (c:=0) d5.ob).row (m:=n1 * 3) (by rw [Zat Zrs,d5.len])).rowOf
   refine Vec.app0 (n:=0) (e:=true) c5 Zrz Ych Yba Yby (by simp) row5 (Zjw (enc:=eN) (fun _=>rfl) ys) (by omega) (fun g6 hl6 hi6 hk6=>?_)
   have keep6:∀ {j:Nat} {o:Zcb},g5[j]?=some o→j≠k.length→g6[j]?=some o:=fun {j o} hj hne=>by rw [hk6 j (Own.lt hj) hne]; exact hj
   have x6:=keep6 x5 (by omega)
   have z6:=keep6 z5 (by omega)
   have d6:WDr b g6 a0 n0 c0 q n1 c1 ys w':=dk.keep fun j hj hjl=>by rw [hk6 j (by omega) (by omega),s5.eq j hjl]
   have i6:g6[g5.length]?=some (.cells Zad (Zdb eN ys) false):=by simpa using hi6
   simp only [Zaj]
   generalize hga:g6 ++ [Zcb.cells Zab [] false]=ga
   have sa:Zbc g6.length g6 ga:=by rw [← hga]; exact Zal
   have na:ga[g6.length]?=some (.cells Zab [] false):=by rw [← hga]; simp
   have la:ga.length=g6.length + 1:=by rw [← hga]; simp
   have xa:=sa.get x6 (Own.lt x6)
   have za:=sa.get z6 (Own.lt z6)
   have ia:=sa.get i6 (Own.lt i6)
   have da:=d6.same sa
   have hkb:=Kk.le
   have hlI:ys.length=n1:=dk.len
   refine (Vec.mk1 (n:=0 + n1) (c:=0 + n1) ia).pushN (sz:=3) Zrz Ych Yba Yby (by rw [Zat Zrs]; omega) rfl (by omega) rfl (by omega) (fun gc hlc hic hkc=>?_)
   have keepc:∀ {j:Nat} {o:Zcb},ga[j]?=some o→j≠g5.length→gc[j]?=some o:=fun {j o} hj hne=>by rw [hkc j (Own.lt hj) (fun i hi=>by cases hi; exact hne)]; exact hj
   have xc:=keepc xa (by omega)
   have zc:=keepc za (by omega)
   have dc:WDr b gc a0 n0 c0 (ga.length + 1) (n1 + 1) (0 + n1 + 1) (ys ++ [⟨[69],[105],some (g6.length,0),0,0,true⟩]) ⟨w'.cs,w'.is ++ [(([69],[105]),[])]⟩:=
    da.push (z:=g5.length) (x:=⟨[69],[105],some (g6.length,0),0,0,true⟩) (i:=(([69],[105]),[])) ⟨rfl,rfl,rfl,.inl rfl⟩ (by omega) (by simpa [eN] using hic) (fun o ho=>by rw [ia] at ho; cases ho; exact ⟨_,rfl⟩) (fun j hj hne=>hkc j hj (fun i hi=>by cases hi; exact hne)) (by omega)
   simp only [Zaj]
   rw [Zbg xc (by simp)]
   simp only [Zas,putRow,List.take_succ_cons,List.take_zero,List.length_cons,List.length_nil,List.drop_succ_cons,List.drop_zero,List.drop_nil,List.cons_append,List.nil_append,List.append_nil]
   rw [Zbm (by omega)]
   have low:∀ j,j < k.length→gc[j]?=k[j]?:=fun j hj=>by rw [hkc j (by omega) (fun i' hi'=>by cases hi'; omega),sa.eq j (by omega),hk6 j (by omega) (by omega),s5.eq j hj]
   have rk:RdK i (p + 1) 0 h gc:=⟨⟨by omega,fun j hj hji=>by rw [low j (by omega)]; exact Kk.eq j hj hji⟩,_,Nat.le_refl _,Nat.le_refl _,Rk.agree (fun j hj=>low j (by omega)) (by omega)⟩
   obtain ⟨KW,pW,hW1,hW2,RW⟩:=rk.setW (z:=h.length) (x:=.cells Zac [.slice a0 n0 c0 e0,.slice (some (ga.length + 1,0)) (0 + n1 + 1) (0 + n1 + 1) false] false) (Nat.le_refl _) hil
   have e01:0 + n1 + 1=n1 + 1:=by omega
   have ep:pW=p + 1:=by omega
   subst ep
   rw [e01] at KW RW dc ⊢
   exact hR (g + 1) _ _ (by omega) ⟨rfl,by omega,KW,RW,by rw [Zbw (by omega)]; exact zc,_,_,_,_,_,_,Zce xc,dc.setW xc,wk'.addI (i:=(([69],[105]),[])) ⟨by simp,by simp,by simp,by simp⟩⟩
  ·apply Zjj.A8x1i
   exact fin k a0 n0 c0 e0 q n1 c1 e1 ys w' (p + 1) Kk Rk (by omega) (by omega) xk zk dk (wk'.mono (by omega))
 ·exact fin g3 a0 n0 c0 e0 q n1 c1 e1 ys w (p + 1) KK3 R3 (by omega) (by omega) x3 z3 d3 (ws.mono (by omega))
theorem Ygt {h:Zaa} {i p:Nat} (r:Rdr h i p) (hp:p≤600000000000):Zak pg Zoy [.ptr (some (i,0))] h (DWQ i p 200000 1021 h):=by
 have hil:=r.lt
 apply Zxc.call
 simp only [Zaw]
 generalize hg0:h ++ [Zcb.cells Zac [.slice none 0 0 true,.slice none 0 0 true] false]=g0
 have s0:Zbc h.length h g0:=by rw [← hg0]; exact Zal
 have z0:g0[h.length]?=some (.cells Zac [.slice none 0 0 true,.slice none 0 0 true] false):=by rw [← hg0]; simp
 have l0:g0.length=h.length + 1:=by rw [← hg0]; simp
 refine (Yse (r.same s0) (by omega)).mono ?_
 rintro v g1 ⟨u,w,rfl,⟨a0,n0,c0,e0,q,n1,c1,e1,ys,rfl,d⟩,ws,K1,p1,hp1,hp2,R1⟩
 have z1:=K1.get z0 (by omega)
 have l1:=K1.le
 simp only [Zdt,Zae,Zaj,Zam]
 refine (Ytz R1 (by omega) (d.low (show h.length≤g0.length by omega)) hil (by omega) ws (by omega)).mono ?_
 rintro v g2 ⟨u,w',rfl,⟨a0,n0,c0,e0,q,n1,c1,e1,ys,rfl,d2⟩,ws2,K2,p2,hp3,hp4,R2⟩
 have z2:=K2.get z1 (by omega)
 simp only [Zdt,Zae,Zaj,Zam]
 rw [Zbg z2 (by simp)]
 simp only [Zas,putRow,List.take_zero,List.length_cons,List.length_nil,List.drop_succ_cons,List.drop_zero,List.drop_nil,List.cons_append,List.nil_append,List.append_nil,Nat.zero_add]
 rw [Zaz (Zce z2)]
 simp only [Zao,Zae,Zam,Zaj]
 have rk:RdK i p 200000 h g2:=⟨((Zem.of_same s0).trans K1).trans K2,p2,by omega,by omega,R2⟩
 exact ⟨_,w',rfl,⟨a0,n0,c0,e0,q,n1,c1,e1,ys,rfl,d2.setW z2⟩,ws2,rk.setW (Nat.le_refl _) hil⟩
theorem Zvy {h:Zaa} {i p b m:Nat} {a0:Pt} {n0 c0 q n1 c1:Nat} {e0 e1:Bool} {ys:List EI} {w:Wd} (r:Rdr h i p) (hp:p≤900000000000) (d:WDr b h a0 n0 c0 q n1 c1 ys w) (hib:i < b) (ws:WS m w) :
  Zak pg Zjo [.ptr (some (i,0)),.agg [.slice a0 n0 c0 e0,.slice (some (q,0)) n1 c1 e1]] h fun v h'=>∃ s:List Nat,v=.str s∧s.length≤1000∧RdK i p 10 h h':=by
 have hil:=r.lt
 apply Zpj.call
 simp only [Zaw]
 generalize hg0:h ++ [Zcb.cells Zac [.slice a0 n0 c0 e0,.slice (some (q,0)) n1 c1 e1] false]=g0
 have s0:Zbc h.length h g0:=by rw [← hg0]; exact Zal
 have x0:g0[h.length]?=some (.cells Zac [.slice a0 n0 c0 e0,.slice (some (q,0)) n1 c1 e1] false):=by rw [← hg0]; simp
 have R0:=r.same s0
 have oth:∀ (G:Zaa) (p':Nat),Zem i h G→Rdr G i p'→p≤p'→p'≤p + 5→Zak pg Zck [.ptr (some (i,0)),.slice (some (List.length G,0)) 4 4 true] (G ++ [.cells Zbi [.str [69],.str [90],.str [],.str [69,79]] false]) fun v_6 h_7=>Zbd (some v_6) fun s_8=>∃ s:List Nat,Zay.str s_8=.str s∧s.length≤1000∧RdK i p 10 h h_7:=by
  intro G p' KG RG h1 h2
  have hGl:=RG.lt
  refine (Znk (RG.app _) (by omega) (j:=G.length) (t:=Zbi) (n:=4) (l:=[[69],[90],[],[69,79]]) (by simp [Zdb,eS]) (by omega) rfl (by omega)).mono ?_
  rintro v g7 ⟨s,hs,rfl,K7,R7,l7⟩
  simp only [Zah]
  refine ⟨s,rfl,?_,⟨(KG.trans (Zem.app i G _)).trans K7,_,by omega,by omega,R7⟩⟩
  simp only [List.mem_cons,List.not_mem_nil,or_false] at hs
  rcases hs with rfl | rfl | rfl | rfl <;> decide
 simp only [Zan x0,Nat.zero_add,List.getElem?_cons_zero,Zaj]
 refine Zcw (fun _=>oth g0 p (Zem.of_same s0) R0 (by omega) (by omega)) (fun hne=>?_)
 refine (Zdd R0 (by omega) 16).mono ?_
 rintro v g1 ⟨x,rfl,_,_,_,K1,R1,l1⟩
 have x1:=K1.get x0 (by omega)
 have KK1:=(Zem.of_same (i:=i) s0).trans K1
 simp only [Zax]
 refine Zcw (fun _=>oth g1 _ KK1 R1 (by omega) (by omega)) (fun _=>?_)
 apply Zpj.J3i
 simp only [Zan x1,Nat.zero_add,List.getElem?_cons_zero,Zaj,true_and]
 refine (Zdd R1 (by omega) (n0:Int)).mono ?_
 rintro v g2 ⟨y,rfl,hy0,hy1,_,K2,R2,l2⟩
 have hy1:=hy1 (by omega)
 have x2:=K2.get x1 (by omega)
 obtain ⟨k,rfl⟩:∃ k:Nat,y=k:=⟨y.toNat,by omega⟩
 have KK2:=KK1.trans K2
 obtain ⟨ic,oc,hkc,ha,_,_,hc,_⟩:=(d.kp KK2 hib).rep.class (k:=k) (by omega)
 subst ha
 have hcl:=(ws.cs _ (List.getElem_mem hkc)).1
 simp only [Zax,Zan x2,List.getElem?_cons_zero,Zau,Int.toNat_natCast,Nat.add_zero,hc,Zah,true_and]
 exact ⟨⟨by omega,by omega⟩,_,rfl,hcl,KK2,_,by omega,by omega,R2⟩
end Go.Sim

set_option linter.unusedVariables false
set_option linter.unusedSimpArgs false
set_option maxRecDepth 20000
namespace Go.Sim
open Go Go.RowKit

def Yzt (i p:Nat) (h:Zaa) (v:Zay) (h':Zaa):Prop:=∃ u w,∃ nd:Nd,v=.tup [.agg u,.agg [.str nd.1,.str nd.2]]∧Xas h h' u w∧WS 1021 w∧nd.1.length≤1000∧nd.2.length≤1000∧RdK i p 300000 h h'
theorem WDr.setN {b:Nat} {h:Zaa} {a0:Pt} {n0 c0 q n1 c1:Nat} {ys:List EI} {w:Wd} {z:Nat} {x:Zcb} (d:WDr b h a0 n0 c0 q n1 c1 ys w) (hz:z < b):WDr b (h.set z x) a0 n0 c0 q n1 c1 ys w:=d.keep fun j hj hl=>Zbw (by omega)
theorem Yqb {h:Zaa} {i p:Nat} (r:Rdr h i p) (hp:p≤500000000000):Zak pg Zou [.ptr (some (i,0))] h (Yzt i p h):=by
 have hil:=r.lt
 apply Zkd.call
 simp only [Zaw]
 generalize hg0:h ++ [Zcb.cells Zac [.slice none 0 0 true,.slice none 0 0 true] false]=g0
 have s0:Zbc h.length h g0:=by rw [← hg0]; exact Zal
 have w0:g0[h.length]?=some (.cells Zac [.slice none 0 0 true,.slice none 0 0 true] false):=by rw [← hg0]; simp
 have l0:g0.length=h.length + 1:=by rw [← hg0]; simp
 generalize hg1:g0 ++ [Zcb.cells Zab [.str [],.str []] false]=g1
 have s1:Zbc g0.length g0 g1:=by rw [← hg1]; exact Zal
 have w1:=s1.get w0 (Own.lt w0)
 have n1':g1[g0.length]?=some (.cells Zab [.str [],.str []] false):=by rw [← hg1]; simp
 have l1:g1.length=g0.length + 1:=by rw [← hg1]; simp
 have S1:=s0.cat s1
 refine (Ygt (r.same S1) (by omega)).mono ?_
 rintro v g3 ⟨u,w,rfl,⟨a0,n0,c0,e0,q,n1,c1,e1,ys,rfl,d⟩,ws,K3,p3,hp1,hp2,R3⟩
 have w3:=K3.get w1 (by omega)
 have m3:=K3.get n1' (by omega)
 have l3:=K3.le
 have d:=d.low (show g1.length≤g1.length by omega)
 simp only [Zdt,Zae,Zaj,Zam]
 rw [Zfb]
 simp only [Zas]
 generalize hg4:g3 ++ [Zcb.cells Zac [.slice a0 n0 c0 e0,.slice (some (q,0)) n1 c1 e1] false]=g4
 have s4:Zbc g3.length g3 g4:=by rw [← hg4]; exact Zal
 have y4:g4[g3.length]?=some (.cells Zac [.slice a0 n0 c0 e0,.slice (some (q,0)) n1 c1 e1] false):=by rw [← hg4]; simp
 have l4:g4.length=g3.length + 1:=by rw [← hg4]; simp
 have w4:=s4.get w3 (Own.lt w3)
 have m4:=s4.get m3 (Own.lt m3)
 have d4:=d.same s4
 have KK4:=((Zem.of_same (i:=i) S1).trans K3).trans (Zem.of_same s4)
 rw [Zaz y4]
 simp only [Zao,Zae,Zam,Zaj]
 refine (Zvy (R3.same s4) (by omega) d4 (by omega) ws).mono ?_
 rintro v g5 ⟨s,rfl,hs,K5,p5,hp3,hp4,R5⟩
 simp only [Zah]
 refine (Zdd R5 (by omega) 4).mono ?_
 rintro v g6 ⟨x,rfl,hx0,hx1,_,K6,R6,l6⟩
 have hx1:=hx1 (by omega)
 simp only [Zax]
 refine (Zdd R6 (by omega) 4).mono ?_
 rintro v g7 ⟨y,rfl,hy0,hy1,_,K7,R7,l7⟩
 simp only [Zax]
 obtain ⟨dd,rfl⟩:∃ d:Nat,x=d:=⟨x.toNat,by omega⟩
 have hdd:dd≤3:=by omega
 have hB:4 ^ (dd + 1)≤256:=by
  have:dd=0 ∨ dd=1 ∨ dd=2 ∨ dd=3:=by omega
  rcases this with rfl | rfl | rfl | rfl <;> decide
 refine (Zwt dd (by omega) R7 (by omega) _).mono ?_
 rintro v g8 ⟨t,rfl,hok,hlen,K8,p8,hp5,hp6,R8⟩
 generalize htt:t.txt=tt at hlen
 have K48:Zem i g4 g8:=((K5.trans K6).trans K7).trans K8
 have y8:=K48.get y4 (by omega)
 have w8:=K48.get w4 (by omega)
 have m8:=K48.get m4 (by omega)
 have d8:=d4.kp K48 (by omega)
 have KK8:=KK4.trans K48
 simp only [Zah]
 rw [Zfb]
 simp only [Zas]
 generalize hg9:g8 ++ [Zcb.cells Zab [.str s,.str tt] false]=g9
 have s9:Zbc g8.length g8 g9:=by rw [← hg9]; exact Zal
 have v9:g9[g8.length]?=some (.cells Zab [.str s,.str tt] false):=by rw [← hg9]; simp
 have l9:g9.length=g8.length + 1:=by rw [← hg9]; simp
 have y9:=s9.get y8 (Own.lt y8)
 have w9:=s9.get w8 (Own.lt w8)
 have m9:=s9.get m8 (Own.lt m8)
 have d9:=d8.same s9
 have R9:=R8.same s9
 have KK9:=KK8.trans (Zem.of_same s9)
 have hKl:=KK8.le
 have hK48l:=K48.le
 -- the results
 have out:∀ (G:Zaa) (p':Nat) (nd:Nd),Zem i h G→Rdr G i p'→p≤p'→p'≤p + 300000→G[h.length]?=some (.cells Zac [.slice a0 n0 c0 e0,.slice (some (q,0)) n1 c1 e1] false)→G[g0.length]?=some (.cells Zab [.str nd.1,.str nd.2] false)→WDr g1.length G a0 n0 c0 q n1 c1 ys w→nd.1.length≤1000→nd.2.length≤1000 →
   Zcd (Zbe G (.ptr (some (h.length,0))) 2) fun cs_101=>Zai cs_101 fun c_102 r_103=>xSl (some c_102) fun a_104 n_105 c_106 e_107=>Zai r_103 fun c_108 r_109=>xSl (some c_108) fun a_110 n_111 c_112 e_113=>Zbq r_109 (Zcd (Zbe G (.ptr (some (g0.length,0))) 2) fun cs_114=>Zai cs_114 fun c_115 r_116=>Zbd (some c_115) fun s_117=>Zai r_116 fun c_118 r_119=>Zbd (some c_118) fun s_120=>Zbq r_119 (Yzt i p h (.tup [.agg [.slice a_104 n_105 c_106 e_107,.slice a_110 n_111 c_112 e_113],.agg [.str s_117,.str s_120]]) G)):=by
  intro G p' nd KG RG h1 h2 wG mG dG hn1 hn2
  rw [Zaz wG,Zaz mG]
  simp only [Zao,Zae,Zam,Zaj,Zah]
  exact ⟨_,w,nd,rfl,⟨a0,n0,c0,e0,q,n1,c1,e1,ys,rfl,dG.low (by omega)⟩,ws,hn1,hn2,KG,p',h1,h2,RG⟩
 have fin8:∀ (G:Zaa) (p':Nat) (nd:Nd),Zem i h G→Rdr G i p'→p≤p'→p'≤p + 300000→G[h.length]?=some (.cells Zac [.slice none 0 0 true,.slice none 0 0 true] false)→G[g0.length]?=some (.cells Zab [.str [],.str []] false)→G[g3.length]?=some (.cells Zac [.slice a0 n0 c0 e0,.slice (some (q,0)) n1 c1 e1] false)→G[g8.length]?=some (.cells Zab [.str nd.1,.str nd.2] false) →
   WDr g1.length G a0 n0 c0 q n1 c1 ys w→nd.1.length≤1000→nd.2.length≤1000→Zkd.J8 (Yzt i p h) g3.length 0 g8.length 0 h.length 0 g0.length 0 G:=by
  intro G p' nd KG RG h1 h2 wG mG yG vG dG hn1 hn2
  apply Zkd.J8i
  rw [Zaz yG,Zaz vG]
  simp only [Zao,Zae,Zam,Zaj,Zah]
  rw [Zbg wG (by simp)]
  simp only [Zas,putRow,List.take_zero,List.length_cons,List.length_nil,List.drop_succ_cons,List.drop_zero,List.drop_nil,List.cons_append,List.nil_append,List.append_nil,Nat.zero_add]
  have w1:=Zce wG (x:=.cells Zac [.slice a0 n0 c0 e0,.slice (some (q,0)) n1 c1 e1] false)
  have m1:(G.set h.length (.cells Zac [.slice a0 n0 c0 e0,.slice (some (q,0)) n1 c1 e1] false))[g0.length]?=some (.cells Zab [.str [],.str []] false):=by rw [Zbw (by omega)]; exact mG
  have v1:(G.set h.length (.cells Zac [.slice a0 n0 c0 e0,.slice (some (q,0)) n1 c1 e1] false))[g8.length]?=some (.cells Zab [.str nd.1,.str nd.2] false):=by rw [Zbw (by omega)]; exact vG
  refine ⟨by rw [Zaz v1],?_⟩
  rw [Zbg m1 (by simp)]
  simp only [Zas,putRow,List.take_zero,List.length_cons,List.length_nil,List.drop_succ_cons,List.drop_zero,List.drop_nil,List.cons_append,List.nil_append,List.append_nil,Nat.zero_add]
  have rk:RdK i p 300000 h G:=⟨KG,p',h1,h2,RG⟩
  obtain ⟨KX,pX,hX1,hX2,RX⟩:=(rk.setW (z:=h.length) (x:=.cells Zac [.slice a0 n0 c0 e0,.slice (some (q,0)) n1 c1 e1] false) (Nat.le_refl _) hil).setW (z:=g0.length) (x:=.cells Zab [.str nd.1,.str nd.2] false) (by omega) hil
  exact out _ pX nd KX RX hX1 hX2 (by rw [Zbw (by omega)]; exact w1) (Zce m1) ((dG.setN (by omega)).setN (by omega)) hn1 hn2
 have fin6:∀ (G:Zaa) (p':Nat),Zem i g9 G→Rdr G i p'→p≤p'→p'≤p + 250000→Zkd.J6 (Yzt i p h) (some (i,0)) g8.length 0 g3.length 0 h.length 0 g0.length 0 G:=by
  intro G p' KG RG h1 h2
  apply Zkd.J6i
  refine (Zdd RG (by omega) 20).mono ?_
  rintro v k1 ⟨z,rfl,_,_,_,K1,R1,_⟩
  have K91:=KG.trans K1
  have w1:=K91.get w9 (by omega)
  have m1:=K91.get m9 (by omega)
  have y1:=K91.get y9 (by omega)
  have v1:=K91.get v9 (by omega)
  have d1:=d9.kp K91 (by omega)
  simp only [Zax]
  refine Zcw (fun _=>?_) (fun _=>?_)
  ·refine (Yvb R1 (by omega)).mono ?_
   rintro v k2 ⟨s',rfl,hs',K2,p2,hp7,hp8,R2⟩
   have K92:=K91.trans K2
   have v2:=K2.get v1 (by omega)
   simp only [Zah]
   rw [Zbg v2 (by simp)]
   simp only [Zas,putRow,List.take_succ_cons,List.take_zero,List.length_cons,List.length_nil,List.drop_succ_cons,List.drop_zero,List.drop_nil,List.cons_append,List.nil_append,List.append_nil,Nat.zero_add]
   have rk:RdK i p 300000 h k2:=⟨KK9.trans K92,p2,by omega,by omega,R2⟩
   obtain ⟨KX,pX,hX1,hX2,RX⟩:=rk.setW (z:=g8.length) (x:=.cells Zab [.str s,.str s'] false) (by omega) hil
   have dX:WDr g1.length (k2.set g8.length (.cells Zab [.str s,.str s'] false)) a0 n0 c0 q n1 c1 ys w:=by
    have d2:=d1.kp K2 (by omega)
    -- nothing of the world is that need
    have d8':=d8.kp ((Zem.of_same (i:=i) s9).trans K92) (by omega)
    have hsub:∀ j,g1.length≤j→j < g8.length→(k2.set g8.length (.cells Zab [.str s,.str s'] false))[j]?=g8[j]?:=fun j hj hjl=>by rw [Zbw (by omega),K92.eq j (by omega) (by omega),s9.eq j hjl]
    exact d8.keep hsub
   exact fin8 _ pX (s,s') KX RX hX1 hX2 (by rw [Zbw (by omega)]; exact K2.get w1 (by omega)) (by rw [Zbw (by omega)]; exact K2.get m1 (by omega)) (by rw [Zbw (by omega)]; exact K2.get y1 (by omega)) (Zce v2) dX hs hs'
  ·exact fin8 k1 _ (s,tt) (KK9.trans K91) R1 (by omega) (by omega) w1 m1 y1 v1 d1 hs (by simp only; omega)
 simp only [Zan y9,Nat.zero_add,List.getElem?_cons_succ,List.getElem?_cons_zero,Zaj]
 refine Zar (fun hpos=>?_) (fun _=>fin6 g9 p8 (Zem.refl _ _) R9 (by omega) (by omega))
 refine (Zdd R9 (by omega) 2).mono ?_
 rintro v ga ⟨z,rfl,_,_,_,Ka,Ra,la⟩
 simp only [Zax]
 refine Zcw (fun _=>?_) (fun _=>fin6 ga _ Ka Ra (by omega) (by omega))
 have ya:=Ka.get y9 (by omega)
 have wa:=Ka.get w9 (by omega)
 have ma:=Ka.get m9 (by omega)
 have hya:=Own.lt ya
 -- an instance's form
 have mid:∀ (G:Zaa) (p' z k:Nat) (hk:k < w.is.length) (na:Pt) (nn nc:Nat) (ne:Bool),Zem i ga G→Rdr G i p'→p≤p'→p'≤p + 250000→ga.length≤z→G[z]?=some (.cells Zad [.str [],.str [],.slice none 0 0 true] false) →
   Zbt (Zbb G (.ptr (some (z,0))) [.str w.is[k].1.1,.str w.is[k].1.2,.slice na nn nc ne]) fun h_80=>Zcd (Zbe h_80 (.ptr (some (g3.length,0))) 2) fun cs_81=>Zai cs_81 fun c_82 r_83=>xSl (some c_82) fun a_84 n_85 c_86 e_87=>Zai r_83 fun c_88 r_89=>xSl (some c_88) fun a_90 n_91 c_92 e_93=>Zbq r_89 (Zbd (Zag h_80 (.ptr (some (z,0 + 0 + 0)))) fun s_94=>Zbd (Zag h_80 (.ptr (some (z,0 + 0 + 1)))) fun s_95=>(Zag h_80 (.ptr (some (z,0 + 0 + 0)))=Zag h_80 (.ptr (some (z,0 + 0 + 0))))∧(Zbe h_80 (.ptr (some (g3.length,0))) 2=Zbe h_80 (.ptr (some (g3.length,0))) 2)∧Zak pg Zme [.ptr (some (i,0)),.str s_95] h_80 fun v_96 h_97=>
    Zbd (some v_96) fun s_98=>(Zag h_97 (.ptr (some (z,0 + 0 + 0)))=Zag h_80 (.ptr (some (z,0 + 0 + 0))))∧(Zbe h_97 (.ptr (some (g3.length,0))) 2=Zbe h_80 (.ptr (some (g3.length,0))) 2)∧Zbt (Zbb h_97 (.ptr (some (h.length,0))) [.slice a_84 n_85 c_86 e_87,.slice a_90 n_91 c_92 e_93]) fun h_99=>(Zag h_99 (.ptr (some (z,0 + 0 + 0)))=Zag h_97 (.ptr (some (z,0 + 0 + 0))))∧Zbt (Zbb h_99 (.ptr (some (g0.length,0))) [.str s_94,.str s_98]) fun h_100=>Zcd (Zbe h_100 (.ptr (some (h.length,0))) 2) fun cs_101=>Zai cs_101 fun c_102 r_103=>xSl (some c_102) fun a_104 n_105 c_106 e_107=>Zai r_103 fun c_108 r_109=>xSl (some c_108) fun a_110 n_111 c_112 e_113=>Zbq r_109 (Zcd (Zbe h_100 (.ptr (some (g0.length,0))) 2) fun cs_114=>Zai cs_114 fun c_115 r_116=>Zbd (some c_115) fun s_117=>Zai r_116 fun c_118 r_119=>Zbd (some c_118) fun s_120=>Zbq r_119 (Yzt i p h (.tup [.agg [.slice a_104 n_105 c_106 e_107,.slice a_110 n_111 c_112 e_113],.agg [.str s_117,.str s_120]]) h_100))):=by
  intro G p' z k hk na nn nc ne KG RG h1 h2 hz iG
  have hzG:=Own.lt iG
  rw [Zbg iG (by simp)]
  simp only [Zas,putRow,List.take_zero,List.length_cons,List.length_nil,List.drop_succ_cons,List.drop_zero,List.drop_nil,List.cons_append,List.nil_append,List.append_nil,Nat.zero_add,Nat.add_zero]
  have i2:=Zce iG (x:=.cells Zad [.str w.is[k].1.1,.str w.is[k].1.2,.slice na nn nc ne] false)
  have low:∀ j,j≠z→(G.set z (.cells Zad [.str w.is[k].1.1,.str w.is[k].1.2,.slice na nn nc ne] false))[j]?=G[j]?:=fun j hj=>Zbw (fun e=>hj e.symm)
  have l2:(G.set z (.cells Zad [.str w.is[k].1.1,.str w.is[k].1.2,.slice na nn nc ne] false)).length=G.length:=by simp
  generalize G.set z (.cells Zad [.str w.is[k].1.1,.str w.is[k].1.2,.slice na nn nc ne] false)=G2 at i2 low l2 ⊢
  have K9G:=Ka.trans KG
  have KG2:Zem i ga G2:=⟨by have:=KG.le; omega,fun j hj hji=>by rw [low j (by omega)]; exact KG.eq j hj hji⟩
  have K92:=Ka.trans KG2
  have R2:Rdr G2 i p':=RG.agree (fun j hj=>low j (by have:=Ra.lt; omega)) (by omega)
  have y2:=KG2.get ya (by omega)
  have w2:=KG2.get wa (by omega)
  have m2:=KG2.get ma (by omega)
  have d2:=d9.kp K92 (by omega)
  have hin:=ws.is _ (List.getElem_mem hk)
  rw [Zaz y2]
  simp only [Zao,Zae,Zam,Zaj,Zan i2,List.getElem?_cons_succ,List.getElem?_cons_zero,Zah,true_and]
  refine (Yrf R2 (by omega) (by omega)).mono ?_
  rintro v G3 ⟨s',rfl,hs',K3',p3',hq1,hq2,R3'⟩
  have K93:=K92.trans K3'
  have i3:=K3'.get i2 (by have:=Ra.lt; omega)
  have y3:=K3'.get y2 (by omega)
  have w3':=K3'.get w2 (by omega)
  have m3':=K3'.get m2 (by omega)
  have d3:=d2.kp K3' (by omega)
  simp only [Zah]
  refine ⟨by rw [Zan i3]; rfl,by rw [Zaz y3],?_⟩
  rw [Zbg w3' (by simp)]
  simp only [Zas,putRow,List.take_zero,List.length_cons,List.length_nil,List.drop_succ_cons,List.drop_zero,List.drop_nil,List.cons_append,List.nil_append,List.append_nil,Nat.zero_add]
  have w4':=Zce w3' (x:=.cells Zac [.slice a0 n0 c0 e0,.slice (some (q,0)) n1 c1 e1] false)
  have hK9:=KK9.le
  have hKa:=Ka.le
  have hzh:h.length≠z:=by omega
  have hzg:g0.length≠z:=by omega
  have m4':(G3.set h.length (.cells Zac [.slice a0 n0 c0 e0,.slice (some (q,0)) n1 c1 e1] false))[g0.length]?=some (.cells Zab [.str [],.str []] false):=by rw [Zbw (by omega)]; exact m3'
  have i4:(G3.set h.length (.cells Zac [.slice a0 n0 c0 e0,.slice (some (q,0)) n1 c1 e1] false))[z]?=some (.cells Zad [.str w.is[k].1.1,.str w.is[k].1.2,.slice na nn nc ne] false):=by rw [Zbw hzh]; exact i3
  refine ⟨by rw [Zan i4,Zan i3],?_⟩
  rw [Zbg m4' (by simp)]
  simp only [Zas,putRow,List.take_zero,List.length_cons,List.length_nil,List.drop_succ_cons,List.drop_zero,List.drop_nil,List.cons_append,List.nil_append,List.append_nil,Nat.zero_add]
  have rk:RdK i p 300000 h G3:=⟨KK9.trans K93,p3',by omega,by omega,R3'⟩
  obtain ⟨KX,pX,hX1,hX2,RX⟩:=(rk.setW (z:=h.length) (x:=.cells Zac [.slice a0 n0 c0 e0,.slice (some (q,0)) n1 c1 e1] false) (Nat.le_refl _) hil).setW (z:=g0.length) (x:=.cells Zab [.str w.is[k].1.1,.str s'] false) (by omega) hil
  exact out _ pX (w.is[k].1.1,s') KX RX hX1 hX2 (by rw [Zbw (by omega)]; exact w4') (Zce m4') ((d3.setN (by omega)).setN (by omega)) hin.1 hs'
 have hn1:(n1:Int)=((n1:Nat):Int):=rfl
 simp only [Zan ya,List.getElem?_cons_succ,List.getElem?_cons_zero,Zaj]
 refine ⟨?_,?_⟩
 ·refine (Zdd Ra (by omega) (n1:Int)).mono ?_
  rintro v gb ⟨x,rfl,hx0,hx1,_,Kb,Rb,lb⟩
  have hx1:=hx1 (by omega)
  obtain ⟨k,rfl⟩:∃ k:Nat,x=k:=⟨x.toNat,by omega⟩
  have yb:=Kb.get ya (by omega)
  obtain ⟨ii,oo,hkl,na,nn,nc,ne,ha,hii,hr,_,_,_,hrow,hln⟩:=(d9.kp (Ka.trans Kb) (by omega)).rep.inst (k:=k) (by omega)
  cases ha
  simp only [Zax,Zan yb,List.getElem?_cons_succ,List.getElem?_cons_zero,Zau,Int.toNat_natCast,Nat.zero_add,true_and]
  simp only [Nat.zero_add] at hr
  refine ⟨⟨by omega,by omega⟩,?_⟩
  rw [hr]
  simp only [Zao,Zae,Zam,Zah,Zaj]
  generalize hgc:gb ++ [Zcb.cells Zad [.str [],.str [],.slice none 0 0 true] false]=gc
  have sc:Zbc gb.length gb gc:=by rw [← hgc]; exact Zal
  have ic:gc[gb.length]?=some (.cells Zad [.str [],.str [],.slice none 0 0 true] false):=by rw [← hgc]; simp
  have yc:=sc.get yb (Own.lt yb)
  have hrc:Zbe gc (.ptr (some (q,k * 3))) 3=Zbe gb (.ptr (some (q,k * 3))) 3:=by simp only [Zbe,sc.eq q hii]
  refine ⟨by rw [hrc,hr],by rw [Zan yc]; rfl,by rw [Zan yc]; rfl,?_⟩
  have:=mid gc _ gb.length k hkl na nn nc ne (Kb.trans (Zem.of_same sc)) (Rb.same sc) (by omega) (by omega) (by omega) ic
  simpa only [Nat.zero_add,Nat.add_zero,true_and,eq_self] using this
 ·generalize hgc:ga ++ [Zcb.cells Zad [.str [],.str [],.slice none 0 0 true] false]=gc
  have sc:Zbc ga.length ga gc:=by rw [← hgc]; exact Zal
  have ic:gc[ga.length]?=some (.cells Zad [.str [],.str [],.slice none 0 0 true] false):=by rw [← hgc]; simp
  have yc:=sc.get ya (Own.lt ya)
  refine ⟨by rw [Zan yc]; rfl,by rw [Zan yc]; rfl,?_⟩
  refine (Zdd (Ra.same sc) (by omega) (n1:Int)).mono ?_
  rintro v gb ⟨x,rfl,hx0,hx1,_,Kb,Rb,lb⟩
  have hx1:=hx1 (by omega)
  obtain ⟨k,rfl⟩:∃ k:Nat,x=k:=⟨x.toNat,by omega⟩
  have yb:=Kb.get yc (by omega)
  have ib:=Kb.get ic (by have:=Ra.lt; omega)
  have Kcb:=(Zem.of_same (i:=i) sc).trans Kb
  obtain ⟨ii,oo,hkl,na,nn,nc,ne,ha,hii,hr,_,_,_,hrow,hln⟩:=(d9.kp (Ka.trans Kcb) (by omega)).rep.inst (k:=k) (by omega)
  cases ha
  simp only [Zax,Zan yb,List.getElem?_cons_succ,List.getElem?_cons_zero,Zau,Int.toNat_natCast,Nat.zero_add,true_and]
  simp only [Nat.zero_add] at hr
  refine ⟨by rw [Zan yc]; rfl,by rw [Zan yc]; rfl,⟨by omega,by omega⟩,?_⟩
  rw [hr]
  simp only [Zao,Zae,Zam,Zah,Zaj]
  have:=mid gb _ ga.length k hkl na nn nc ne Kcb Rb (by omega) (by omega) (by omega) ib
  simpa only [Nat.zero_add,Nat.add_zero,true_and,eq_self] using this
end Go.Sim

set_option linter.unusedVariables false
set_option linter.unusedSimpArgs false
set_option maxRecDepth 20000
namespace Go.Sim
open Go Go.RowKit

theorem Xac (w:Wd):∀ n x,x∈(wk w).cand n→0≤x:=by
 intro n x hx
 obtain ⟨k,_,rfl,_⟩:=Yji hx
 omega
theorem Ymz {w:Wd} {n:Nd} {sp:Bool} {y:List Nat} {m:Nd} (h:Zjz w n sp=.no y m):y≠[]:=by
 unfold Zjz at h
 split at h
 ·exact Yyi (Ypn (Xac w) 31 [] n y m h)
 ·cases h; decide
def DRQ (h:Zaa) (v:Zay) (h':Zaa):Prop:=∃ a0 n0 c0 e0 a1 n1 c1 e1 w,∃ nd:Nd,v=.tup [.agg [.slice a0 n0 c0 e0,.slice a1 n1 c1 e1],.agg [.str nd.1,.str nd.2]]∧Zbc h.length h h'∧Zkr h' a0 n0 c0 a1 n1 c1 w∧WB w∧nd.1.length≤1000∧nd.2.length≤1000
theorem Ysn {h:Zaa} {a:Pt} {n c:Nat} {e:Bool} {l:List Nat} (r:Row h.length h a n (Zdb eB l)) (hb:∀ b∈l,b < 256) (hnc:n≤c) :
  Zak pg Zlf [.slice a n c e] (h ++ [.cells Zac [.slice none 0 0 true,.slice none 0 0 true] false] ++ [.cells Zab [.str [],.str []] false]) fun v_2 h_3=>
   Zgn (some v_2) fun a_4=>Zak pg Zou [.ptr a_4] h_3 fun v_5 h_6=>
   Zle v_5 fun cs_7=>Zai cs_7 fun c_8 r_9=>Zqh c_8 fun cs_10=>Zai cs_10 fun c_11 r_12=>xSl (some c_11) fun a_13 n_14 c_15 e_16=>Zai r_12 fun c_17 r_18=>xSl (some c_17) fun a_19 n_20 c_21 e_22=>Zbq r_18 (Zai r_9 fun c_23 r_24=>Zqh c_23 fun cs_25=>Zai cs_25 fun c_26 r_27=>Zbd (some c_26) fun s_28=>Zai r_27 fun c_29 r_30=>Zbd (some c_29) fun s_31=>Zbq r_30 (Zbq r_24 (Zbt (Zbb h_6 (.ptr (some (List.length h,0))) [.slice a_13 n_14 c_15 e_16,.slice a_19 n_20 c_21 e_22]) fun h_32=>Zbt (Zbb h_32 (.ptr (some (List.length (h ++ [.cells Zac [.slice none 0 0 true,.slice none 0 0 true] false]),0))) [.str s_28,.str s_31]) fun h_33=>Zcd (Zbe h_33 (.ptr (some (List.length h,0))) 2) fun cs_34=>Zai cs_34 fun c_35 r_36=>xSl (some c_35) fun a_37 n_38 c_39 e_40=>Zai r_36 fun c_41 r_42=>xSl (some c_41) fun a_43 n_44 c_45 e_46=>Zbq r_42 (Zcd (Zbe h_33 (.ptr (some (List.length (h ++ [.cells Zac [.slice none 0 0 true,.slice none 0 0 true] false]),0))) 2) fun cs_47=>Zai cs_47 fun c_48 r_49=>Zbd (some c_48) fun s_50=>Zai r_49 fun c_51 r_52=>Zbd (some c_51) fun s_53=>Zbq r_52 (DRQ h (.tup [.agg [.slice a_37 n_38 c_39 e_40,.slice a_43 n_44 c_45 e_46],.agg [.str s_50,.str s_53]]) h_33))))):=by
 generalize hg0:h ++ [Zcb.cells Zac [.slice none 0 0 true,.slice none 0 0 true] false]=g0
 have s0:Zbc h.length h g0:=by rw [← hg0]; exact Zal
 have w0:g0[h.length]?=some (.cells Zac [.slice none 0 0 true,.slice none 0 0 true] false):=by rw [← hg0]; simp
 have l0:g0.length=h.length + 1:=by rw [← hg0]; simp
 generalize hg1:g0 ++ [Zcb.cells Zab [.str [],.str []] false]=g1
 have s1:Zbc g0.length g0 g1:=by rw [← hg1]; exact Zal
 have w1:=s1.get w0 (Own.lt w0)
 have n1':g1[g0.length]?=some (.cells Zab [.str [],.str []] false):=by rw [← hg1]; simp
 have l1:g1.length=g0.length + 1:=by rw [← hg1]; simp
 have S1:=s0.cat s1
 refine (Ydk (r.same' S1) hb hnc).mono ?_
 rintro v g2 ⟨rfl,s2,R2,l2⟩
 simp only [Zer]
 have w2:=s2.get w1 (Own.lt w1)
 have n2:=s2.get n1' (Own.lt n1')
 refine (Yqb R2 (by omega)).mono ?_
 rintro v g3 ⟨u,w,nd,rfl,⟨a0,n0,c0,e0,q,n1,c1,e1,ys,rfl,d⟩,ws,hn1,hn2,K3,p3,_,_,R3⟩
 have w3:=K3.get w2 (by omega)
 have n3:=K3.get n2 (by omega)
 simp only [Zco,Zae,Zdt,Zaj,Zah,Zam]
 rw [Zbg w3 (by simp)]
 simp only [Zas,putRow,List.take_zero,List.length_cons,List.length_nil,List.drop_succ_cons,List.drop_zero,List.drop_nil,List.cons_append,List.nil_append,List.append_nil,Nat.zero_add]
 have w4:=Zce w3 (x:=.cells Zac [.slice a0 n0 c0 e0,.slice (some (q,0)) n1 c1 e1] false)
 have n4:(g3.set h.length (.cells Zac [.slice a0 n0 c0 e0,.slice (some (q,0)) n1 c1 e1] false))[g0.length]?=some (.cells Zab [.str [],.str []] false):=by rw [Zbw (by omega)]; exact n3
 rw [Zbg n4 (by simp)]
 simp only [Zas,putRow,List.take_zero,List.length_cons,List.length_nil,List.drop_succ_cons,List.drop_zero,List.drop_nil,List.cons_append,List.nil_append,List.append_nil,Nat.zero_add]
 have w5:((g3.set h.length (.cells Zac [.slice a0 n0 c0 e0,.slice (some (q,0)) n1 c1 e1] false)).set g0.length (.cells Zab [.str nd.1,.str nd.2] false))[h.length]?=some (.cells Zac [.slice a0 n0 c0 e0,.slice (some (q,0)) n1 c1 e1] false):=by rw [Zbw (by omega)]; exact w4
 rw [Zaz w5,Zaz (Zce n4)]
 simp only [Zao,Zae,Zam,Zaj,Zah]
 have K3l:=K3.le
 exact ⟨a0,n0,c0,e0,_,n1,c1,e1,w,nd,rfl,⟨by simp; omega,fun j hj=>by rw [Zbw (by omega),Zbw (by omega),K3.eq j (by omega) (by omega),s2.eq j (by omega)]; exact S1.eq j hj⟩,((d.setN (by omega)).setN (by omega)).rep,ws.wb (by omega),hn1,hn2⟩
theorem Yhy {h:Zaa} {a:Pt} {n c:Nat} {e:Bool} {l:List Nat} (r:Row h.length h a n (Zdb eB l)) (hb:∀ b∈l,b < 256) (hnc:n≤c):Zak pg Zlp [.slice a n c e] h (DRQ h):=by
 apply Zpt.call
 simp only [Zaw]
 exact Ysn r hb hnc
end Go.Sim

set_option linter.unusedVariables false
set_option linter.unusedSimpArgs false
set_option maxRecDepth 20000
namespace Go.Sim
open Go Go.RowKit

end Go.Sim

set_option linter.unusedVariables false
set_option linter.unusedSimpArgs false
set_option maxRecDepth 20000
namespace Go.Sim
open Go Go.RowKit
theorem Zup {h:Zaa} {a0 a1:Pt} {n0 n1 c0 c1:Nat} {e0 e1:Bool} {l0 l1:List Nd} (r0:Row h.length h a0 (n0 * 2) (Zdb eP l0)) (r1:Row h.length h a1 (n1 * 2) (Zdb eP l1)) (hn:n0≤4611686018427387904) :
  Zak pg Zez [.slice a0 n0 c0 e0,.slice a1 n1 c1 e1] h fun v h'=>v=.bool (decide (l0=l1))∧h'=h:=by
 have h0:l0.length=n0:=by have:=r0.1; rw [Zat Zcr] at this; omega
 have h1:l1.length=n1:=by have:=r1.1; rw [Zat Zcr] at this; omega
 apply Zkx.call
 have hm:(if ((n1:Nat):Int) < ((n0:Nat):Int) then ((n1:Nat):Int) else ((n0:Nat):Int))=((min n0 n1:Nat):Int):=by split <;> omega
 rw [hm]
 refine Zkx.L2ind _ _ _ _ _ _ _ _ _ _ (J:=fun (g:Nat) x11 h'=>x11=(g:Int)∧g≤min n0 n1∧h'=h∧l0.take g=l1.take g) (fun g=>min n0 n1 - g) ?_ 0 _ _ ⟨rfl,by omega,rfl,by simp⟩
 rintro g x5 h' ⟨rfl,hg,rfl,ht⟩ R hR
 unfold Zkx.L2t
 refine Zar (fun hlt=>?_) (fun hge=>?_)
 ·obtain ⟨i,o,hgl,rfl,hi,hc,_⟩:=r0.pr (k:=g) (by omega)
  obtain ⟨i',o',hgl',rfl,hi',hc',_⟩:=r1.pr (k:=g) (by omega)
  simp only [Zau,Int.toNat_natCast,hc,hc',Zao,Zae,Zah,Zam]
  refine ⟨by omega,by omega,by trivial,Zbs (fun hne=>?_) (fun he=>?_)⟩
  ·have:l0≠l1:=fun e=>by subst e; simp at hne
   simp [this]
  ·rw [Zbm (by omega)]
   refine hR (g + 1) _ _ (by omega) ⟨rfl,by omega,rfl,?_⟩
   simp only [Bool.and_eq_true,decide_eq_true_eq] at he
   rw [List.take_succ_eq_append_getElem hgl,List.take_succ_eq_append_getElem hgl',ht,Prod.ext he.1 he.2]
 ·apply Zkx.A2x0i
  refine ⟨?_,rfl⟩
  congr 1
  by_cases hnn:n0=n1
  ·subst hnn
   rw [List.take_of_length_le (by omega),List.take_of_length_le (by omega)] at ht
   simp [ht]
  ·have:l0≠l1:=fun e=>by subst e; omega
   simp [this]; omega
end Go.Sim

set_option linter.unusedVariables false
set_option linter.unusedSimpArgs false
set_option maxRecDepth 20000
namespace Go.Sim
open Go Go.RowKit

theorem lawFAsked {h:Zaa} {a:Pt} {n c:Nat} {e:Bool} {l:List Nat} (r:Row h.length h a n (Zdb eB l)) (hb:∀ b∈l,b < 256) (hnc:n≤c) :
  Zak pg Zrh [.slice a n c e] h fun v _=>v=.bool true:=by
 apply Zgl.call
 refine Zar (fun _=>rfl) (fun _=>?_)
 refine (Yhy r hb hnc).mono ?_
 rintro v h1 ⟨a0,n0,c0,e0,a1,n1,c1,e1,w,nd,rfl,s1,rep,wb,hn1,hn2⟩
 simp only [Zco,Zae,Zdt,Zaj,Zah,Zam,Zaw]
 generalize hgA:h1 ++ [Zcb.cells Zac [.slice none 0 0 true,.slice none 0 0 true] false]=gA
 have sA:Zbc h1.length h1 gA:=by rw [← hgA]; exact Zal
 have wA:gA[h1.length]?=some (.cells Zac [.slice none 0 0 true,.slice none 0 0 true] false):=by rw [← hgA]; simp
 have lA:gA.length=h1.length + 1:=by rw [← hgA]; simp
 generalize hgB:gA ++ [Zcb.cells Zab [.str [],.str []] false]=gB
 have sB:Zbc gA.length gA gB:=by rw [← hgB]; exact Zal
 have wB:=sB.get wA (Own.lt wA)
 have nB:gB[gA.length]?=some (.cells Zab [.str [],.str []] false):=by rw [← hgB]; simp
 have lB:gB.length=gA.length + 1:=by rw [← hgB]; simp
 rw [Zbg wB (by simp)]
 simp only [Zas,putRow,List.take_zero,List.length_cons,List.length_nil,List.drop_succ_cons,List.drop_zero,List.drop_nil,List.cons_append,List.nil_append,List.append_nil,Nat.zero_add]
 have wC:=Zce wB (x:=.cells Zac [.slice a0 n0 c0 e0,.slice a1 n1 c1 e1] false)
 have nC:(gB.set h1.length (.cells Zac [.slice a0 n0 c0 e0,.slice a1 n1 c1 e1] false))[gA.length]?=some (.cells Zab [.str [],.str []] false):=by rw [Zbw (by omega)]; exact nB
 rw [Zbg nC (by simp)]
 simp only [Zas,putRow,List.take_zero,List.length_cons,List.length_nil,List.drop_succ_cons,List.drop_zero,List.drop_nil,List.cons_append,List.nil_append,List.append_nil,Nat.zero_add]
 have x0:((gB.set h1.length (.cells Zac [.slice a0 n0 c0 e0,.slice a1 n1 c1 e1] false)).set gA.length (.cells Zab [.str nd.1,.str nd.2] false))[h1.length]?=some (.cells Zac [.slice a0 n0 c0 e0,.slice a1 n1 c1 e1] false):=by rw [Zbw (by omega)]; exact wC
 have y0:=Zce nC (x:=.cells Zab [.str nd.1,.str nd.2] false)
 have S0:Zbc h1.length h1 ((gB.set h1.length (.cells Zac [.slice a0 n0 c0 e0,.slice a1 n1 c1 e1] false)).set gA.length (.cells Zab [.str nd.1,.str nd.2] false)):=((sA.cat sB).set' (Nat.le_refl _)).set' (by omega)
 generalize (gB.set h1.length (.cells Zac [.slice a0 n0 c0 e0,.slice a1 n1 c1 e1] false)).set gA.length (.cells Zab [.str nd.1,.str nd.2] false)=g0 at x0 y0 S0 ⊢
 have R0:=rep.same S0
 rw [Zaz x0,Zaz y0]
 simp only [Zao,Zae,Zam,Zaj,Zah]
 refine (Ylb (nd:=nd) R0 wb).mono ?_
 rintro v g1 ⟨t1,qa,qn,qc,qe,rfl,q1⟩
 simp only [Zco,Zae,Zaj,Zaq,Zam]
 have x1:=t1.get x0 (Own.lt x0)
 have y1:=t1.get y0 (Own.lt y0)
 have R1:=R0.same t1
 rw [Zaz x1,Zaz y1]
 simp only [Zao,Zae,Zam,Zaj,Zah]
 refine (Yhn (nd:=nd) R1 wb (by omega)).mono ?_
 rintro v g2 ⟨t2,pa,pn,pc,pe,rfl,p2⟩
 simp only [Zco,Zae,Zaj,Zaq,Zam]
 have x2:=t2.get x1 (Own.lt x1)
 have y2:=t2.get y1 (Own.lt y1)
 have R2:=R1.same t2
 have q2:=q1.same' t2
 have hln:=Ywg (w:=w) (nd:=nd) (sp:=false)
 have hqn:(Zwg w nd false).length=qn:=by have:=q1.1; rw [Zat Zcr] at this; omega
 refine (Zup q2 p2 (by omega)).mono ?_
 rintro v g3 ⟨rfl,hg3⟩
 subst hg3
 simp only [Zaq,decide_true,Bool.not_true,Zca,beq_self_eq_true]
 refine Zbs (fun hno=>?_) (fun hc=>?_)
 ·refine (Zup q2 p2 (by omega)).mono ?_
  rintro v g4 ⟨rfl,_⟩
  simp only [Zaq,decide_true,Zcv,beq_self_eq_true]
 apply Zgl.J8i
 rw [Zaz x2,Zaz y2]
 simp only [Zao,Zae,Zam,Zaj,Zah]
 refine (Ybj (nd:=nd) R2 wb).mono ?_
 rintro v g4 ⟨rfl,t4⟩
 simp only [Zco,Zae,Zah,Zam]
 have x4:=t4.get x2 (Own.lt x2)
 have y4:=t4.get y2 (Own.lt y2)
 have R4:=R2.same t4
 rw [Zaz x4,Zaz y4]
 simp only [Zao,Zae,Zam,Zaj,Zah]
 refine (Ycy (nd:=nd) R4 wb).mono ?_
 rintro v g5 ⟨rfl,t5⟩
 simp only [Zco,Zae,Zdt,Zah,Zaq,Zam]
 have x5:=t5.get x4 (Own.lt x4)
 have y5:=t5.get y4 (Own.lt y4)
 have R5:=R4.same t5
 have q5:=(q2.same' t4).same' t5
 simp only [Zaw]
 rw [Zfb]
 simp only [Zas]
 generalize hg6:g5 ++ [Zcb.cells Zab [.str (Ztz w nd).1.1,.str (Ztz w nd).1.2] false]=g6
 have t6:Zbc g5.length g5 g6:=by rw [← hg6]; exact Zal
 have f6:g6[g5.length]?=some (.cells Zab [.str (Ztz w nd).1.1,.str (Ztz w nd).1.2] false):=by rw [← hg6]; simp
 have x6:=t6.get x5 (Own.lt x5)
 have y6:=t6.get y5 (Own.lt y5)
 have R6:=R5.same t6
 have q6:=q5.same' t6
 obtain ⟨δ,hδ⟩:=Ypy (sp:=false) hc
 have hpos:0 < qn:=by rw [← hqn,hδ]; simp
 have hfn:(Ztz w nd).2=!decide (Yjh (Zjz w nd false)=[]):=by
  unfold Ztz
  rw [if_pos hc]
  cases hf:Zjz w nd false with
  | ok s=>rfl
  | no y m=>have:=Ymz hf; simp [Yjh,this]
 rw [hfn]
 simp only [beq_self_eq_true,Bool.not_true,Zca]
 refine Zcw (fun h0=>by omega) (fun _=>?_)
 obtain ⟨i0,o0,hgl,rfl,_,hr0,_⟩:=q6.pr (k:=0) (by omega)
 have hr0':Zbe g6 (.ptr (some (i0,o0 + (Int.toNat 0) * 2))) 2=some [.str nd.1,.str nd.2]:=by
  have:(Zwg w nd false)[0]=nd:=by simp [hδ]
  rw [this] at hr0; exact hr0
 simp only [Zau,hr0',Zaz y6,Zao,Zae,Zam,Zah,decide_true,Bool.and_true,Bool.not_true,Zca,true_and]
 refine ⟨by omega,Zar (fun h3=>by omega) (fun _=>?_)⟩
 apply Zgl.J12i
 cases hf:Zjz w nd false with
 | ok s=>
  simp only [Yjh,decide_true,Zcv]
  have hall:=Yvi hf
  refine Zgl.L14ind (J:=fun (g:Nat) x93 h'=>x93=(g:Int)∧g≤qn∧Zbc g6.length g6 h') (m:=fun g=>qn - g) (hr:=?_) (g:=0) (hj:=⟨rfl,by omega,Zbc.refl _ _⟩)
  rintro g x93 h7 ⟨rfl,hg,t7⟩ R hR
  unfold Zgl.L14t
  refine Zar (fun hlt=>?_) (fun hge=>?_)
  ·obtain ⟨ij,oj,hkj,hja,hjl,hrj,_⟩:=(q6.same' t7).pr (k:=g) (by omega)
   have x7:=t7.get x6 (Own.lt x6)
   have R7:=R6.same t7
   simp only [hja,Zau,Int.toNat_natCast,hrj,Zao,Zae,Zam,Zah,Zaw]
   rw [← hja,Zfb]
   simp only [Zas]
   refine ⟨by omega,?_⟩
   generalize hh8:h7 ++ [Zcb.cells Zab [.str (Zwg w nd false)[g].1,.str (Zwg w nd false)[g].2] false]=h8
   have t8:Zbc h7.length h7 h8:=by rw [← hh8]; exact Zal
   have m8:h8[h7.length]?=some (.cells Zab [.str (Zwg w nd false)[g].1,.str (Zwg w nd false)[g].2] false):=by rw [← hh8]; simp
   have x8:=t8.get x7 (Own.lt x7)
   rw [Zaz x8,Zaz m8]
   simp only [Zao,Zae,Zam,Zaj,Zah]
   refine (Ydb (nd:=(Zwg w nd false)[g]) (R7.same t8) wb).mono ?_
   rintro v h9 ⟨rfl,t9⟩
   rw [hall _ (List.getElem_mem hkj)]
   simp only [Zaq,Bool.not_true,Zca]
   rw [Zbm (by omega)]
   exact hR (g + 1) _ _ (by omega) ⟨rfl,by omega,(t7.cat t8).cat t9⟩
  ·apply Zgl.A14x0i
   rfl
 | no y m=>
  have hy:=Ymz hf
  simp only [Yjh,hy,decide_false,Zca]
  refine Zar (fun _=>⟨by trivial,by trivial⟩) (fun hl=>?_)
  have hlast:=(Ysc hc hf).resolve_left hl
  have hz:IntKind.wrap .i64 (((qn:Nat):Int) - 1)=((qn - 1:Nat):Int):=by rw [IntWalk.i64_in _ (by omega)]; omega
  obtain ⟨ij,oj,hkj,hja,hjl,hrj,_⟩:=q6.pr (k:=qn - 1) (by omega)
  have hm:(Zwg w nd false)[qn - 1]=m:=by
   rw [List.getLast?_eq_getElem?,hqn,List.getElem?_eq_getElem hkj] at hlast
   exact Option.some.inj hlast
  have hF:(Ztz w nd).1=m:=by unfold Ztz; rw [if_pos hc,hf]
  rw [hz]
  simp only [hja,Zau,Int.toNat_natCast,hrj,Zao,Zae,Zam,Zah,Zaz f6,hm,hF,decide_true,Bool.and_true,true_and]
  refine ⟨by omega,?_⟩
  trivial
end Go.Sim

set_option linter.unusedVariables false
set_option linter.unusedSimpArgs false
set_option maxRecDepth 20000
namespace Go.Sim
open Go Go.RowKit
theorem Ylx {P:Program} {h:Zaa} {f:Nat} {e:TypeId} (he:P.underlying e=some (.int .u8)):∀ (vs:List (List Zay)) (ds:List Dt),ds.length=vs.length→(∀ (i:Nat) (v:List Zay) (x:Dt),vs[i]?=some v→ds[i]?=some x→v.length=P.cellsOf e∧rd P h (f + 1) e v x) →
  ∃ l:List Nat,vs.flatten=Zdb eB l∧∀ z∈l,z < 256
 | [],_,_,_=>⟨[],rfl,by simp⟩
 | v :: vs,[],h,_=>by simp at h
 | v :: vs,d :: ds,hl,hall=>by
  obtain ⟨l,hfl,hs⟩:=Ylx he vs ds (by simpa using hl) fun i v x hv hx=>hall (i + 1) v x (by simpa using hv) (by simpa using hx)
  have h0:=(hall 0 v d rfl rfl).2
  simp only [rd,he] at h0
  obtain ⟨z,rfl,_,hw⟩:=h0
  simp [Lit.wf,IntKind.min,IntKind.max,IntKind.signed,IntKind.bits] at hw
  refine ⟨z.toNat :: l,?_,fun x hx=>?_⟩
  ·simp [hfl,eB]; omega
  ·rcases List.mem_cons.1 hx with rfl | hx
   ·omega
   ·exact hs x hx
theorem rd_bytes {P:Program} {h:Zaa} {f:Nat} {t e:TypeId} {cs:List Zay} {d:Dt} (ht:P.underlying t=some (.slice e)) (he:P.underlying e=some (.int .u8)) (hc:P.cellsOf e=1) (hr:rd P h (f + 2) t cs d) :
  ∃ a n c ex,∃ l:List Nat,cs=[.slice a n c ex]∧Row h.length h a n (Zdb eB l)∧∀ z∈l,z < 256:=by
 unfold rd at hr
 rw [ht] at hr
 obtain ⟨a,n,c,ex,ds,vs,rfl,rfl,hdl,hn,hvl,hrow,hall⟩:=hr
 obtain ⟨l,hfl,hs⟩:=Ylx (f:=f) he vs ds (by omega) hall
 rw [hc,Nat.mul_one,hfl] at hrow
 exact ⟨a,n,c,ex,l,rfl,hrow,hs⟩
end Go.Sim
