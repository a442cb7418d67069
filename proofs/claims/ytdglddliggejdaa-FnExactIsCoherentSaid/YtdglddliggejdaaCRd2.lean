/- A part of the proof of a statement of this seat: see the text that holds the theorem. No condition. -/
import Derived.Test.YtdglddliggejdaaPTCText
import Derived.Test.YtdglddliggejdaaCSrch
import Derived.Test.YtdglddliggejdaaCGr
set_option linter.unusedVariables false
set_option linter.unusedSimpArgs false
set_option linter.all false
set_option linter.unusedVariables false
set_option linter.unusedSimpArgs false
set_option maxRecDepth 20000
namespace Go.Sim
open Go Go.RowKit
theorem Yfy:pg.underlying Zko=some (.slice Zfz):=by kernel_rfl
theorem Yke:pg.cellsOf Zfz=1:=by kernel_rfl
theorem Yjs:pg.okElem Zfz=true:=by kernel_rfl
theorem Yil:pg.bytesOf Zfz≤127:=Nat.le_of_ble_eq_true (by kernel_rfl)
noncomputable def ovP (x y:Ins):Bool:=decide (x.1.1=y.1.1) && !Zkp x.1.2 y.1.2
noncomputable def ovB (w:Wd) (g k:Nat):Bool:=match w.is[g]?,w.is[k]? with | some x,some y=>ovP x y | _,_=>false
noncomputable def ovI (w:Wd) (g m:Nat):List (Nat × Nat):=((List.range m).filter fun k=>decide (g < k) && ovB w g k).map fun k=>(g,k)
noncomputable def ovW (w:Wd) (g:Nat):List (Nat × Nat):=(List.range g).flatMap fun i=>ovI w i w.is.length
noncomputable def Ybu (w:Wd):List (Nat × Nat):=ovW w w.is.length
theorem Yaf (w:Wd) (g m:Nat):ovI w g (m + 1)=ovI w g m ++ if g < m∧ovB w g m=true then [(g,m)] else []:=by
 unfold ovI
 rw [List.range_succ,List.filter_append,List.map_append]
 congr 1
 by_cases h:g < m∧ovB w g m=true
 ·simp [h.1,h.2]
 ·rw [if_neg h]
  have:(decide (g < m) && ovB w g m)=false:=by
   cases hb:ovB w g m with
   | false=>simp
   | true=>simp; exact Nat.le_of_not_lt fun hlt=>h ⟨hlt,hb⟩
  simp [this]
theorem Zxc (w:Wd) (g:Nat):ovI w g (g + 1)=[]:=by
 unfold ovI
 rw [List.map_eq_nil_iff,List.filter_eq_nil_iff]
 intro k hk
 have:=List.mem_range.1 hk
 simp; omega
theorem Zyd (w:Wd) (g m:Nat):(ovI w g m).length≤m:=by
 unfold ovI
 rw [List.length_map]
 exact Nat.le_trans (List.length_filter_le _ _) (by simp)
theorem Zvb (w:Wd) (g:Nat):ovW w (g + 1)=ovW w g ++ ovI w g w.is.length:=by unfold ovW; rw [List.range_succ,List.flatMap_append]; simp
theorem Zyw (w:Wd):∀ g,(ovW w g).length≤g * w.is.length
 | 0=>by simp [ovW]
 | g + 1=>by
  have:=Zyw w g
  have:=Zyd w g w.is.length
  rw [Zvb,List.length_append,Nat.succ_mul]; omega
theorem Yht {w:Wd} {g k:Nat} (hg:g < w.is.length) (hk:k < w.is.length):ovB w g k=ovP w.is[g] w.is[k]:=by
 unfold ovB; rw [List.getElem?_eq_getElem hg,List.getElem?_eq_getElem hk]
def eSl (x:Nat × Nat × Bool):List Zag:=[.slice (some (x.1,0)) 2 x.2.1 x.2.2]
theorem Yjr (x:Nat × Nat × Bool):(eSl x).length=1:=rfl
structure PV (lo:Nat) (h:Zaa) (a:Pt) (n c:Nat) (xs:List (Nat × Nat × Bool)) (l:List (Nat × Nat)):Prop where
 len:xs.length=l.length
 num:n=l.length
 vec:Vec Zfz h a n c (Zen eSl xs)
 low:∀ i,a=some (i,0)→lo≤i
 el:∀ (k:Nat) (x:Nat × Nat × Bool),xs[k]?=some x→lo≤x.1∧2≤x.2.1∧a≠some (x.1,0)∧∃ p:Nat × Nat,l[k]?=some p∧h[x.1]?=some (.cells Zrl [.int .i64 (p.1:Int),.int .i64 (p.2:Int)] false)
 nd:(xs.map (·.1)).Nodup
section
variable {lo n c:Nat} {h h':Zaa} {a:Pt} {xs:List (Nat × Nat × Bool)} {l:List (Nat × Nat)}
theorem PV.same (p:PV lo h a n c xs l) (s:Zbb h.length h h'):PV lo h' a n c xs l:=⟨p.len,p.num,p.vec.same s,p.low,fun k x hx=>by
 obtain ⟨h1,h2,h3,q,h4,h5⟩:=p.el k x hx
 exact ⟨h1,h2,h3,q,h4,s.get h5 (Own.lt h5)⟩,p.nd⟩
theorem PV.in (p:PV lo h a n c xs l) {q:Nat} (hq:q∈xs.map (·.1)):q < h.length:=by
 obtain ⟨x,hx,rfl⟩:=List.mem_map.1 hq
 obtain ⟨k,hk⟩:=List.getElem?_of_mem hx
 obtain ⟨_,_,_,_,_,h5⟩:=p.el k x hk
 exact Own.lt h5
theorem PV.alt (p:PV lo h a n c xs l) {i:Nat} (ha:a=some (i,0)):i < h.length:=by
 have:=p.vec
 rw [ha] at this
 exact this.lt
theorem PV.push {hb:Zaa} {e:Bool} {q cq x y:Nat} {eq:Bool} {K:Zag→Zaa→Prop} (p:PV lo hb a n c xs l) (hlo:lo≤hb.length) (hn:n≤1000000000) (hq:lo≤q) (hcq:2≤cq) (hqa:a≠some (q,0)) (hqx:q ∉ xs.map (·.1))
  (ho:hb[q]?=some (.cells Zrl [.int .i64 (x:Int),.int .i64 (y:Int)] false))
  (hk:∀ h',hb.length≤h'.length→(∀ j,j < hb.length→a≠some (j,0)→h'[j]?=hb[j]?)→PV lo h' (some (hb.length + 1,0)) (n + 1) (n + 1) (xs ++ [(q,cq,eq)]) (l ++ [(x,y)])→K (.slice (some (hb.length + 1,0)) (n + 1) (n + 1) false) h') :
  Zdv pg Zko (hb ++ [.cells Zfz [.slice (some (q,0)) 2 cq eq] false]) (.slice a n c e) (.slice (some (hb.length,0)) 1 1 true) K:=by
 refine p.vec.push Yfy Yke Yjs Yil (by rw [Zbj Yjr,p.len,p.num]; omega) rfl (by omega) (fun h' hl hi hj=>?_)
 have hj':∀ j,j < hb.length→a≠some (j,0)→h'[j]?=hb[j]?:=fun j hlt hne=>hj j hlt fun i hi e=>hne (by rw [hi,e])
 refine hk h' (by omega) hj' ⟨by simp [p.len],by rw [List.length_append,← p.num]; rfl,Vec.mk1 ?_,fun i hi=>by cases hi; omega,fun k z hz=>?_,?_⟩
 ·rw [hi,Zse]; rfl
 ·by_cases hkl:k < xs.length
  ·rw [List.getElem?_append_left hkl] at hz
   obtain ⟨h1,h2,h3,r,h4,h5⟩:=p.el k z hz
   have:=Own.lt h5
   refine ⟨h1,h2,fun e=>by simp at e; omega,r,by rw [List.getElem?_append_left (by rw [← p.len]; exact hkl)]; exact h4,?_⟩
   rw [hj' _ this h3]; exact h5
  ·have hke:k=xs.length:=by
    have:=(List.getElem?_eq_some_iff.1 hz).1
    simp at this; omega
   subst hke
   simp at hz
   subst hz
   have:=Own.lt ho
   exact ⟨hq,hcq,fun e=>by simp at e; omega,(x,y),by rw [p.len]; simp,by rw [hj' _ this hqa]; exact ho⟩
 ·rw [List.map_append,List.nodup_append]
  refine ⟨p.nd,by simp,?_⟩
  intro a1 h1 b1 h2 e
  simp at h2
  subst h2; subst e
  exact hqx h1
end
theorem Zmv {h h':Zaa} (s:Zbb h.length h h') {i o n:Nat} (hi:i < h.length):Zbk h' (.ptr (some (i,o))) n=Zbk h (.ptr (some (i,o))) n:=by simp only [Zbk,s.eq i hi]
def OvQ (w:Wd) (h:Zaa) (v:Zag) (h':Zaa):Prop:=Zbb h.length h h'∧∃ a n c e xs,v=.tup [.slice a n c e,.bool (Zfy w)]∧n≤c∧PV h.length h' a n c xs (if Zfy w then Ybu w else [])
theorem Zuw {h:Zaa} {a0 a1:Pt} {n0 c0 n1 c1:Nat} {e0 e1:Bool} {w:Wd} (r:Zor h a0 n0 c0 a1 n1 c1 w) (b:WB w) :
  Zad pg Zhw [.agg [.slice a0 n0 c0 e0,.slice a1 n1 c1 e1]] h (OvQ w h):=by
 have hl1:=r.len1
 apply Zbu.call
 simp only [Zba]
 generalize hh0:h ++ [Zcp.cells Zan [.slice a0 n0 c0 e0,.slice a1 n1 c1 e1] false]=h0
 have s0:Zbb h.length h h0:=by rw [← hh0]; exact Zat
 have w0:h0[h.length]?=some (Ztv a0 n0 c0 e0 a1 n1 c1 e1):=by rw [← hh0]; simp [Ztv]
 rw [Yjy w0]
 simp only [Zas,Zai,Zaq,Zaj]
 refine (Ztz (r.same s0) b).mono ?_
 rintro v h2 ⟨rfl,s2⟩
 have w2:=s2.get w0 (Own.lt w0)
 have S2:=s0.cat s2
 simp only [Zah]
 refine Zcm (fun b1=>⟨S2,none,0,0,true,[],by rw [b1],Nat.le_refl _,by rw [b1]; exact ⟨rfl,rfl,Vec.mk0,fun i hi=>(by cases hi),fun k x hx=>(by simp at hx),by simp⟩⟩) (fun b1=>?_)
 generalize hh3:h2 ++ [Zcp.cells Zfz [] false]=h3
 have s3:Zbb h2.length h2 h3:=by rw [← hh3]; exact Zat
 have o3:h3[h2.length]?=some (.cells Zfz [] false):=by rw [← hh3]; simp
 have w3:=s3.get w2 (Own.lt w2)
 have S3:=S2.cat s3
 have hl10:=Zsf b1
 have hl2:=S2.le
 simp only [Zmb w3,Nat.zero_add,List.getElem?_cons_succ,List.getElem?_cons_zero,Zaj]
 have wlt:=Own.lt w0
 have l0:h0.length=h.length + 1:=by rw [← hh0]; simp
 have l02:=s2.le
 have l3:h3.length=h2.length + 1:=by rw [← hh3]; simp
 have bound:∀ g,g≤w.is.length→(ovW w g).length≤100:=fun g hg=>by
  have h1:=Zyw w g
  have h2:g * w.is.length≤10 * 10:=Nat.mul_le_mul (by omega) hl10
  omega
 refine Zbu.L5ind (J:=fun (g:Nat) a4 n4 c4 e4 x16 k=>x16=(g:Int)∧g≤n1∧Zbb h.length h k∧k[h.length]?=some (Ztv a0 n0 c0 e0 a1 n1 c1 e1)∧n4≤c4∧∃ xs,PV (h.length + 1) k a4 n4 c4 xs (ovW w g)) (m:=fun g=>n1 - g) (hr:=?_) (g:=0)
  (hj:=⟨rfl,by omega,S3,w3,Nat.le_refl _,[],rfl,rfl,Vec.mk1 o3,fun i hi=>by cases hi; omega,fun k x hx=>(by simp at hx),by simp⟩) ..
 rintro g a4 n4 c4 e4 x16 k ⟨rfl,hg,Sk,wk,hnc,xs,pv⟩ R hR
 unfold Zbu.L5t
 refine Zam (fun hlt=>?_) (fun hge=>?_)
 ·have hgl:g < w.is.length:=by omega
  rw [Zbx (by omega)]
  refine Zbu.L8ind (J:=fun (m:Nat) a4 n4 c4 e4 x6 k=>x6=(m:Int)∧g + 1≤m∧m≤n1∧Zbb h.length h k∧k[h.length]?=some (Ztv a0 n0 c0 e0 a1 n1 c1 e1)∧n4≤c4∧∃ xs,PV (h.length + 1) k a4 n4 c4 xs (ovW w g ++ ovI w g m)) (m:=fun m=>n1 - m) (hr:=?_) (g:=g + 1)
   (hj:=⟨rfl,by omega,by omega,Sk,wk,hnc,xs,by rw [Zxc,List.append_nil]; exact pv⟩) ..
  clear hnc pv xs wk Sk k a4 n4 c4 e4
  rintro m a4 n4 c4 e4 x6 k ⟨rfl,hm0,hm1,Sk,wk,hnc,xs,pv⟩ R' hR'
  unfold Zbu.L8t
  rw [Zmb wk]
  simp only [Nat.zero_add,List.getElem?_cons_succ,List.getElem?_cons_zero,Zaj]
  refine Zam (fun hlt2=>?_) (fun hge2=>?_)
  ·have hml:m < w.is.length:=by omega
   have rk:=r.same Sk
   obtain ⟨i,o,aa,na,ca,ea,hai,hil,hra,_,_,_,_⟩:=Zqs rk hgl
   obtain ⟨i',o',ab,nb,cb,eb,hbi,hil',hrb,_,_,_,_⟩:=Zqs rk hml
   rw [hai] at hbi
   cases hbi
   subst hai
   have hov:=Yaf w g m
   have hob:=Yht hgl hml
   have bd:=bound g (by omega)
   have bd2:=Zyd w g m
   have hpn:=pv.num
   rw [List.length_append] at hpn
   -- from the two rows on
   have tail:∀ kz p1 p2,Zbb k.length k kz→kz[p1]?=some (.cells Zac [.str w.is[g].1.1,.str w.is[g].1.2,.slice aa na ca ea] false)→kz[p2]?=some (.cells Zac [.str w.is[m].1.1,.str w.is[m].1.2,.slice ab nb cb eb] false) →
     Zbz (Zae kz (.ptr (some (p1,0)))) fun s_68=>Zbz (Zae kz (.ptr (some (p2,0)))) fun s_69=>bcase (decide (s_68=s_69)) (Zbz (Zae kz (.ptr (some (p1,1)))) fun s_70=>Zbz (Zae kz (.ptr (some (p2,1)))) fun s_71=>Zad pg Zfl [.str s_70,.str s_71] kz fun v_72 h_73=>
      Zbr (some v_72) fun b_74=>bcase (!b_74) (Zdv pg Zko (h_73 ++ [Zcp.cells Zrl [.int .i64 (g:Int),.int .i64 (m:Int)] false] ++ [Zcp.cells Zfz [.slice (some (List.length h_73,0)) 2 2 true] false]) (.slice a4 n4 c4 e4) (.slice (some (List.length (h_73 ++ [Zcp.cells Zrl [.int .i64 (g:Int),.int .i64 (m:Int)] false]),0)) 1 1 true) fun v_77 h_78=>xSl (some v_77) fun a_79 n_80 c_81 e_82=>Zbu.J9 (OvQ w h) R R' (m:Int) h.length 0 (g:Int) a_79 n_80 c_81 e_82 (g:Int) (n1:Int) h_78) (Zbu.J9 (OvQ w h) R R' (m:Int) h.length 0 (g:Int) a4 n4 c4 e4 (g:Int) (n1:Int) h_73)) (Zbu.J9 (OvQ w h) R R' (m:Int) h.length 0 (g:Int) a4 n4 c4 e4 (g:Int) (n1:Int) kz):=by
    intro kz p1 p2 sz q1 q2
    have skip:∀ k2,Zbb k.length k k2→ovP w.is[g] w.is[m]=false→Zbu.J9 (OvQ w h) R R' (m:Int) h.length 0 (g:Int) a4 n4 c4 e4 (g:Int) (n1:Int) k2:=by
     intro k2 s2 hno
     apply Zbu.J9i
     rw [Zbx (by omega)]
     refine hR' (m + 1) _ _ _ _ _ _ (by omega) ⟨rfl,by omega,by omega,Sk.cat s2,s2.get wk (Own.lt wk),hnc,xs,?_⟩
     rw [hov,if_neg (by rw [hob,hno]; simp),List.append_nil]
     exact pv.same s2
    simp only [Zak q1,Zak q2,List.getElem?_cons_zero,List.getElem?_cons_succ,Zap]
    refine Zam (fun hc=>?_) (fun hc=>skip _ sz (by unfold ovP; simp [hc]))
    refine (Zyr _ _ kz).mono ?_
    rintro v k2 ⟨rfl,s2⟩
    simp only [Zah]
    have S2:=sz.cat s2
    refine Zdl (fun hap=>?_) (fun hap=>skip _ S2 (by unfold ovP; rw [hap]; simp))
    generalize hk3:k2 ++ [Zcp.cells Zrl [.int .i64 (g:Int),.int .i64 (m:Int)] false]=k3
    have s3:Zbb k2.length k2 k3:=by rw [← hk3]; exact Zat
    have o3:k3[k2.length]?=some (.cells Zrl [.int .i64 (g:Int),.int .i64 (m:Int)] false):=by rw [← hk3]; simp
    have S3:=S2.cat s3
    have le3:=S3.le
    have leS:=Sk.le
    have le2:=S2.le
    have wl:=Own.lt wk
    have pv3:=pv.same S3
    refine pv3.push (x:=g) (y:=m) (by omega) (by omega) (by omega) (Nat.le_refl _) (fun e=>?_) (fun hm=>?_) o3 (fun k4 hl4 hj4 pv4=>?_)
    ·have:=pv.alt e; omega
    ·have:=pv.in hm; omega
    ·simp only [Zaj]
     apply Zbu.J9i
     rw [Zbx (by omega)]
     refine hR' (m + 1) _ _ _ _ _ _ (by omega) ⟨rfl,by omega,by omega,⟨by omega,fun j hj=>?_⟩,?_,Nat.le_refl _,xs ++ [(k2.length,2,true)],?_⟩
     ·rw [hj4 j (by omega) (fun e=>by have:=pv.low j e; omega),S3.eq j (by omega)]; exact Sk.eq j hj
     ·rw [hj4 _ (by omega) (fun e=>by have:=pv.low _ e; omega),S3.eq _ (by omega)]; exact wk
     ·have hyes:g < m∧ovB w g m=true:=⟨by omega,by rw [hob]; unfold ovP; rw [hap]; simp [hc]⟩
      rw [hov,if_pos hyes,← List.append_assoc]
      exact pv4
   simp only [Zmb wk,List.getElem?_cons_succ,List.getElem?_cons_zero,Zaj,Zav,Int.toNat_natCast,hra,hrb,Zas,Zai,Zaq,Zap,Zba]
   refine ⟨by omega,by omega,?_⟩
   refine ⟨?_,?_⟩
   ·generalize hk1:k ++ [Zcp.cells Zac [.str [],.str [],.slice none 0 0 true] false]=k1
    generalize hk2:k1 ++ [Zcp.cells Zac [.str [],.str [],.slice none 0 0 true] false]=k2
    have s1:Zbb k.length k k1:=by rw [← hk1]; exact Zat
    have s2:Zbb k1.length k1 k2:=by rw [← hk2]; exact Zat
    have l1:k1.length=k.length + 1:=by rw [← hk1]; simp
    have z1:k1[k.length]?=some (.cells Zac [.str [],.str [],.slice none 0 0 true] false):=by rw [← hk1]; simp
    have zA:=s2.get z1 (Own.lt z1)
    have zB:k2[k1.length]?=some (.cells Zac [.str [],.str [],.slice none 0 0 true] false):=by rw [← hk2]; simp
    have S2:=s1.cat s2
    have w1:=s1.get wk (Own.lt wk)
    have w2':=S2.get wk (Own.lt wk)
    rw [Zbh zA (by simp)]
    simp only [Zar,Zbs,List.take_zero,List.length_cons,List.length_nil,List.drop_succ_cons,List.drop_zero,List.drop_nil,List.cons_append,List.nil_append,List.append_nil,Nat.zero_add]
    have yA:=Zcj zA (x:=.cells Zac [.str w.is[g].1.1,.str w.is[g].1.2,.slice aa na ca ea] false)
    have yB:(k2.set k.length (.cells Zac [.str w.is[g].1.1,.str w.is[g].1.2,.slice aa na ca ea] false))[k1.length]?=some (.cells Zac [.str [],.str [],.slice none 0 0 true] false):=by rw [Zbq (by omega)]; exact zB
    have S3:=S2.set' (i:=k.length) (x:=.cells Zac [.str w.is[g].1.1,.str w.is[g].1.2,.slice aa na ca ea] false) (by omega)
    generalize k2.set k.length (.cells Zac [.str w.is[g].1.1,.str w.is[g].1.2,.slice aa na ca ea] false)=k3 at yA yB S3 ⊢
    rw [Zbh yB (by simp)]
    simp only [Zar,Zbs,List.take_zero,List.length_cons,List.length_nil,List.drop_succ_cons,List.drop_zero,List.drop_nil,List.cons_append,List.nil_append,List.append_nil,Nat.zero_add]
    have S4:=S3.set' (i:=k1.length) (x:=.cells Zac [.str w.is[m].1.1,.str w.is[m].1.2,.slice ab nb cb eb] false) (by omega)
    have uA:(k3.set k1.length (.cells Zac [.str w.is[m].1.1,.str w.is[m].1.2,.slice ab nb cb eb] false))[k.length]?=some (.cells Zac [.str w.is[g].1.1,.str w.is[g].1.2,.slice aa na ca ea] false):=by rw [Zbq (by omega)]; exact yA
    have uB:=Zcj yB (x:=.cells Zac [.str w.is[m].1.1,.str w.is[m].1.2,.slice ab nb cb eb] false)
    have T:=tail _ k.length k1.length S4 uA uB
    have w3':=S3.get wk (Own.lt wk)
    have e1:∀ o n,Zbk k1 (.ptr (some (i,o))) n=Zbk k (.ptr (some (i,o))) n:=fun o n=>Zmv s1 hil
    have e2:∀ o n,Zbk k2 (.ptr (some (i,o))) n=Zbk k (.ptr (some (i,o))) n:=fun o n=>Zmv S2 hil
    have e3:∀ o n,Zbk k3 (.ptr (some (i,o))) n=Zbk k (.ptr (some (i,o))) n:=fun o n=>Zmv S3 hil
    simp only [e1,e2,e3,hra,hrb,Zmb wk,Zmb w1,Zmb w2',Zmb w3',List.getElem?_cons_succ,List.getElem?_cons_zero,true_and]
    exact T
   ·generalize hk1:k ++ [Zcp.cells Zac [.str [],.str [],.slice none 0 0 true] false]=k1
    generalize hk2:k1 ++ [Zcp.cells Zac [.str [],.str [],.slice none 0 0 true] false]=k2
    have s1:Zbb k.length k k1:=by rw [← hk1]; exact Zat
    have s2:Zbb k1.length k1 k2:=by rw [← hk2]; exact Zat
    have l1:k1.length=k.length + 1:=by rw [← hk1]; simp
    have z1:k1[k.length]?=some (.cells Zac [.str [],.str [],.slice none 0 0 true] false):=by rw [← hk1]; simp
    have zA:=s2.get z1 (Own.lt z1)
    have zB:k2[k1.length]?=some (.cells Zac [.str [],.str [],.slice none 0 0 true] false):=by rw [← hk2]; simp
    have S2:=s1.cat s2
    have w1:=s1.get wk (Own.lt wk)
    have w2':=S2.get wk (Own.lt wk)
    rw [Zbh zB (by simp)]
    simp only [Zar,Zbs,List.take_zero,List.length_cons,List.length_nil,List.drop_succ_cons,List.drop_zero,List.drop_nil,List.cons_append,List.nil_append,List.append_nil,Nat.zero_add]
    have yA:=Zcj zB (x:=.cells Zac [.str w.is[g].1.1,.str w.is[g].1.2,.slice aa na ca ea] false)
    have yB:(k2.set k1.length (.cells Zac [.str w.is[g].1.1,.str w.is[g].1.2,.slice aa na ca ea] false))[k.length]?=some (.cells Zac [.str [],.str [],.slice none 0 0 true] false):=by rw [Zbq (by omega)]; exact zA
    have S3:=S2.set' (i:=k1.length) (x:=.cells Zac [.str w.is[g].1.1,.str w.is[g].1.2,.slice aa na ca ea] false) (by omega)
    generalize k2.set k1.length (.cells Zac [.str w.is[g].1.1,.str w.is[g].1.2,.slice aa na ca ea] false)=k3 at yA yB S3 ⊢
    rw [Zbh yB (by simp)]
    simp only [Zar,Zbs,List.take_zero,List.length_cons,List.length_nil,List.drop_succ_cons,List.drop_zero,List.drop_nil,List.cons_append,List.nil_append,List.append_nil,Nat.zero_add]
    have S4:=S3.set' (i:=k.length) (x:=.cells Zac [.str w.is[m].1.1,.str w.is[m].1.2,.slice ab nb cb eb] false) (by omega)
    have uA:(k3.set k.length (.cells Zac [.str w.is[m].1.1,.str w.is[m].1.2,.slice ab nb cb eb] false))[k1.length]?=some (.cells Zac [.str w.is[g].1.1,.str w.is[g].1.2,.slice aa na ca ea] false):=by rw [Zbq (by omega)]; exact yA
    have uB:=Zcj yB (x:=.cells Zac [.str w.is[m].1.1,.str w.is[m].1.2,.slice ab nb cb eb] false)
    have T:=tail _ k1.length k.length S4 uA uB
    have w3':=S3.get wk (Own.lt wk)
    have e1:∀ o n,Zbk k1 (.ptr (some (i,o))) n=Zbk k (.ptr (some (i,o))) n:=fun o n=>Zmv s1 hil
    have e2:∀ o n,Zbk k2 (.ptr (some (i,o))) n=Zbk k (.ptr (some (i,o))) n:=fun o n=>Zmv S2 hil
    have e3:∀ o n,Zbk k3 (.ptr (some (i,o))) n=Zbk k (.ptr (some (i,o))) n:=fun o n=>Zmv S3 hil
    simp only [e1,e2,e3,hra,hrb,Zmb wk,Zmb w1,Zmb w2',Zmb w3',List.getElem?_cons_succ,List.getElem?_cons_zero,true_and]
    exact T
  ·apply Zbu.A8x2i
   have:m=n1:=by omega
   subst this
   rw [Zbx (by omega)]
   refine hR (g + 1) _ _ _ _ _ _ (by omega) ⟨rfl,by omega,Sk,wk,hnc,xs,?_⟩
   rw [Zvb,hl1]; exact pv
 ·apply Zbu.A5x0i
  have:g=n1:=by omega
  subst this
  refine ⟨Sk,a4,n4,c4,e4,xs,by rw [b1],hnc,?_⟩
  rw [b1,if_pos rfl]
  unfold Ybu
  rw [hl1]
  exact ⟨pv.len,pv.num,pv.vec,fun i hi=>by have:=pv.low i hi; omega,fun k x hx=>by obtain ⟨h1,h2⟩:=pv.el k x hx; exact ⟨by omega,h2⟩,pv.nd⟩
theorem Ygs {h:Zaa} {x y:Ins} {a a':Pt} {n c n' c':Nat} {e e':Bool} (hx:x.1.2.length≤1048576) (hy:y.1.2.length≤1048576) :
  Zad pg Zjy [.agg [.str x.1.1,.str x.1.2,.slice a n c e],.agg [.str y.1.1,.str y.1.2,.slice a' n' c' e']] h fun v h'=>v=.bool (ovP x y)∧Zbb h.length h h':=by
 apply Zna.call
 simp only [Zba]
 generalize hk1:h ++ [Zcp.cells Zac [.str x.1.1,.str x.1.2,.slice a n c e] false]=k1
 generalize hk2:k1 ++ [Zcp.cells Zac [.str y.1.1,.str y.1.2,.slice a' n' c' e'] false]=k2
 have s1:Zbb h.length h k1:=by rw [← hk1]; exact Zat
 have s2:Zbb k1.length k1 k2:=by rw [← hk2]; exact Zat
 have z1:k1[h.length]?=some (.cells Zac [.str x.1.1,.str x.1.2,.slice a n c e] false):=by rw [← hk1]; simp
 have zA:=s2.get z1 (Own.lt z1)
 have zB:k2[k1.length]?=some (.cells Zac [.str y.1.1,.str y.1.2,.slice a' n' c' e'] false):=by rw [← hk2]; simp
 have S2:=s1.cat s2
 simp only [Zak zA,Zak zB,Nat.zero_add,List.getElem?_cons_zero,List.getElem?_cons_succ,Zap]
 refine Zam (fun hc=>?_) (fun hc=>⟨by unfold ovP; simp [hc],S2⟩)
 refine (Zwo _ _ hx hy k2).mono ?_
 rintro v k3 ⟨rfl,s3⟩
 simp only [Zah]
 exact ⟨by unfold ovP; simp [hc],S2.cat s3⟩
def OvP (w:Wd) (h:Zaa) (v:Zag) (h':Zaa):Prop:=Zbb h.length h h'∧∃ a n c e xs,v=.slice a n c e∧n≤c∧PV h.length h' a n c xs (Ybu w)
theorem Zuk {h:Zaa} {a0 a1:Pt} {n0 c0 n1 c1:Nat} {e0 e1:Bool} {w:Wd} (r:Zor h a0 n0 c0 a1 n1 c1 w) (b:WB w) (b1:Zfy w=true) :
  Zad pg Zhq [.agg [.slice a0 n0 c0 e0,.slice a1 n1 c1 e1]] h (OvP w h):=by
 have hl1:=r.len1
 apply Zco.call
 simp only [Zba]
 generalize hh0:h ++ [Zcp.cells Zan [.slice a0 n0 c0 e0,.slice a1 n1 c1 e1] false]=h0
 have s0:Zbb h.length h h0:=by rw [← hh0]; exact Zat
 have w0:h0[h.length]?=some (Ztv a0 n0 c0 e0 a1 n1 c1 e1):=by rw [← hh0]; simp [Ztv]
 generalize hh3:h0 ++ [Zcp.cells Zfz [] false]=h3
 have s3:Zbb h0.length h0 h3:=by rw [← hh3]; exact Zat
 have o3:h3[h0.length]?=some (.cells Zfz [] false):=by rw [← hh3]; simp
 have w3:=s3.get w0 (Own.lt w0)
 have S3:=s0.cat s3
 have hl10:=Zsf b1
 simp only [Zmb w3,Nat.zero_add,List.getElem?_cons_succ,List.getElem?_cons_zero,Zaj]
 have wlt:=Own.lt w0
 have l0:h0.length=h.length + 1:=by rw [← hh0]; simp
 have l3:h3.length=h0.length + 1:=by rw [← hh3]; simp
 have bound:∀ g,g≤w.is.length→(ovW w g).length≤100:=fun g hg=>by
  have h1:=Zyw w g
  have h2:g * w.is.length≤10 * 10:=Nat.mul_le_mul (by omega) hl10
  omega
 refine Zco.L3ind (J:=fun (g:Nat) a4 n4 c4 e4 x16 k=>x16=(g:Int)∧g≤n1∧Zbb h.length h k∧k[h.length]?=some (Ztv a0 n0 c0 e0 a1 n1 c1 e1)∧n4≤c4∧∃ xs,PV (h.length + 1) k a4 n4 c4 xs (ovW w g)) (m:=fun g=>n1 - g) (hr:=?_) (g:=0)
  (hj:=⟨rfl,by omega,S3,w3,Nat.le_refl _,[],rfl,rfl,Vec.mk1 o3,fun i hi=>by cases hi; omega,fun k x hx=>(by simp at hx),by simp⟩) ..
 rintro g a4 n4 c4 e4 x16 k ⟨rfl,hg,Sk,wk,hnc,xs,pv⟩ R hR
 unfold Zco.L3t
 refine Zam (fun hlt=>?_) (fun hge=>?_)
 ·have hgl:g < w.is.length:=by omega
  obtain ⟨i,o,aa,na,ca,ea,hai,hil,hra,_,_,_,_⟩:=Zqs (r.same Sk) hgl
  subst hai
  simp only [Zav,Int.toNat_natCast,hra,Zas,Zai,Zaq,Zap,Zaj,Zba]
  rw [Yjb]
  simp only [Zar]
  refine ⟨by omega,?_⟩
  generalize hkq:k ++ [Zcp.cells Zac [.str w.is[g].1.1,.str w.is[g].1.2,.slice aa na ca ea] false]=kq
  have sq:Zbb k.length k kq:=by rw [← hkq]; exact Zat
  have oq:kq[k.length]?=some (.cells Zac [.str w.is[g].1.1,.str w.is[g].1.2,.slice aa na ca ea] false):=by rw [← hkq]; simp
  have Sq:=Sk.cat sq
  have lSk:=Sk.le
  have lq:kq.length=k.length + 1:=by rw [← hkq]; simp
  have pvq:=pv.same sq
  have plo:=pv.alt (i:=0)
  rw [Zbx (by omega)]
  have hpa:a4≠some (k.length,0):=fun e=>by have:=pv.alt e; omega
  refine Zco.L6ind (J:=fun (m:Nat) a4 n4 c4 e4 x6 k'=>x6=(m:Int)∧g + 1≤m∧m≤n1∧Zbb h.length h k'∧k'[h.length]?=some (Ztv a0 n0 c0 e0 (some (i,o)) n1 c1 e1)∧k'[k.length]?=some (.cells Zac [.str w.is[g].1.1,.str w.is[g].1.2,.slice aa na ca ea] false)∧a4≠some (k.length,0)∧n4≤c4∧∃ xs,PV (h.length + 1) k' a4 n4 c4 xs (ovW w g ++ ovI w g m)) (m:=fun m=>n1 - m) (hr:=?_) (g:=g + 1)
   (hj:=⟨rfl,by omega,by omega,Sq,sq.get wk (Own.lt wk),oq,hpa,hnc,xs,by rw [Zxc,List.append_nil]; exact pvq⟩) ..
  clear hpa plo pvq hnc pv xs a4 n4 c4 e4
  rintro m a4 n4 c4 e4 x6 k' ⟨rfl,hm0,hm1,Sk',wk',ok',hpa,hnc,xs,pv⟩ R' hR'
  unfold Zco.L6t
  rw [Zmb wk']
  simp only [Nat.zero_add,List.getElem?_cons_succ,List.getElem?_cons_zero,Zaj]
  refine Zam (fun hlt2=>?_) (fun hge2=>?_)
  ·have hml:m < w.is.length:=by omega
   obtain ⟨i',o',ab,nb,cb,eb,hbi,hil',hrb,_,_,_,_⟩:=Zqs (r.same Sk') hml
   cases hbi
   have hov:=Yaf w g m
   have hob:=Yht hgl hml
   have bd:=bound g (by omega)
   have bd2:=Zyd w g m
   have hpn:=pv.num
   rw [List.length_append] at hpn
   rw [Zum ok']
   simp only [Zmb wk',List.getElem?_cons_succ,List.getElem?_cons_zero,Zaj,Zav,Int.toNat_natCast,hrb,Zas,Zai,Zaq,Zap,Zba,true_and]
   refine ⟨by omega,?_⟩
   have skip:∀ k2,Zbb k'.length k' k2→ovP w.is[g] w.is[m]=false→Zco.J7 (OvP w h) R R' (m:Int) h.length 0 k.length 0 a4 n4 c4 e4 (g:Int) (g:Int) (n1:Int) (some (i,o)) n1 c1 e1 k2:=by
    intro k2 s2 hno
    apply Zco.J7i
    rw [Zbx (by omega)]
    refine hR' (m + 1) _ _ _ _ _ _ (by omega) ⟨rfl,by omega,by omega,Sk'.cat s2,s2.get wk' (Own.lt wk'),s2.get ok' (Own.lt ok'),hpa,hnc,xs,?_⟩
    rw [hov,if_neg (by rw [hob,hno]; simp),List.append_nil]
    exact pv.same s2
   refine (Ygs (b.is _ (List.getElem_mem hgl)).2.1 (b.is _ (List.getElem_mem hml)).2.1).mono ?_
   rintro v k2 ⟨rfl,s2⟩
   simp only [Zah]
   refine Zdl (fun hap=>?_) (fun hap=>skip _ s2 hap)
   generalize hk3:k2 ++ [Zcp.cells Zrl [.int .i64 (g:Int),.int .i64 (m:Int)] false]=k3
   have s3:Zbb k2.length k2 k3:=by rw [← hk3]; exact Zat
   have o3:k3[k2.length]?=some (.cells Zrl [.int .i64 (g:Int),.int .i64 (m:Int)] false):=by rw [← hk3]; simp
   have S3:=s2.cat s3
   have le3:=S3.le
   have leS:=Sk'.le
   have le2:=s2.le
   have wl:=Own.lt wk'
   have okl:=Own.lt ok'
   have pv3:=pv.same S3
   refine pv3.push (x:=g) (y:=m) (by omega) (by omega) (by omega) (Nat.le_refl _) (fun e=>?_) (fun hm=>?_) o3 (fun k4 hl4 hj4 pv4=>?_)
   ·have:=pv.alt e; omega
   ·have:=pv.in hm; omega
   ·simp only [Zaj]
    apply Zco.J7i
    rw [Zbx (by omega)]
    refine hR' (m + 1) _ _ _ _ _ _ (by omega) ⟨rfl,by omega,by omega,⟨by omega,fun j hj=>?_⟩,?_,?_,fun e=>by simp at e; omega,Nat.le_refl _,xs ++ [(k2.length,2,true)],?_⟩
    ·rw [hj4 j (by omega) (fun e=>by have:=pv.low j e; omega),S3.eq j (by omega)]; exact Sk'.eq j hj
    ·rw [hj4 _ (by omega) (fun e=>by have:=pv.low _ e; omega),S3.eq _ (by omega)]; exact wk'
    ·rw [hj4 _ (by omega) hpa,S3.eq _ (by omega)]; exact ok'
    ·have hyes:g < m∧ovB w g m=true:=⟨by omega,by rw [hob]; exact hap⟩
     rw [hov,if_pos hyes,← List.append_assoc]
     exact pv4
  ·apply Zco.A6x2i
   have:m=n1:=by omega
   subst this
   rw [Zbx (by omega)]
   refine hR (g + 1) _ _ _ _ _ _ (by omega) ⟨rfl,by omega,Sk',wk',hnc,xs,?_⟩
   rw [Zvb,hl1]; exact pv
 ·apply Zco.A3x0i
  have:g=n1:=by omega
  subst this
  refine ⟨Sk,a4,n4,c4,e4,xs,rfl,hnc,?_⟩
  unfold Ybu
  rw [hl1]
  exact ⟨pv.len,pv.num,pv.vec,fun i hi=>by have:=pv.low i hi; omega,fun k x hx=>by obtain ⟨h1,h2⟩:=pv.el k x hx; exact ⟨by omega,h2⟩,pv.nd⟩
theorem Zvn {h:Zaa} {a0 a1:Pt} {n0 c0 n1 c1:Nat} {e0 e1:Bool} {w:Wd} (r:Zor h a0 n0 c0 a1 n1 c1 w) (b:WB w) :
  Zad pg Zht [.agg [.slice a0 n0 c0 e0,.slice a1 n1 c1 e1]] h fun v h'=>v=.bool (Zfy w && decide (Ybu w=[]))∧Zbb h.length h h':=by
 apply Zkk.call
 simp only [Zba]
 generalize hh0:h ++ [Zcp.cells Zan [.slice a0 n0 c0 e0,.slice a1 n1 c1 e1] false]=h0
 have s0:Zbb h.length h h0:=by rw [← hh0]; exact Zat
 have w0:h0[h.length]?=some (Ztv a0 n0 c0 e0 a1 n1 c1 e1):=by rw [← hh0]; simp [Ztv]
 rw [Yjy w0]
 simp only [Zas,Zai,Zaq,Zaj]
 refine (Zuw (r.same s0) b).mono ?_
 rintro v h1 ⟨s1,a,n,c,e,xs,rfl,hnc,pv⟩
 simp only [Zee,Zai,Zaj,Zah,Zaq]
 cases hw:Zfy w with
 | false=>exact ⟨by simp,s0.cat s1⟩
 | true=>
  rw [hw,if_pos rfl] at pv
  simp only [Zcl]
  refine ⟨?_,s0.cat s1⟩
  congr 1
  have:=pv.num
  rw [Bool.true_and,Bool.eq_iff_iff,beq_iff_eq,decide_eq_true_eq]
  constructor
  ·intro h0; exact List.eq_nil_of_length_eq_zero (by omega)
  ·intro h0; rw [h0] at this; simp at this; omega
theorem Zvt {h:Zaa} {a0 a1:Pt} {n0 c0 n1 c1:Nat} {e0 e1:Bool} {w:Wd} (r:Zor h a0 n0 c0 a1 n1 c1 w) (b:WB w) :
  Zad pg Zho [.agg [.slice a0 n0 c0 e0,.slice a1 n1 c1 e1]] h fun v h'=>v=.bool (Zfy w && decide (Ybu w=[]))∧Zbb h.length h h':=by
 apply Zkx.call
 simp only [Zba]
 generalize hh0:h ++ [Zcp.cells Zan [.slice a0 n0 c0 e0,.slice a1 n1 c1 e1] false]=h0
 have s0:Zbb h.length h h0:=by rw [← hh0]; exact Zat
 have w0:h0[h.length]?=some (Ztv a0 n0 c0 e0 a1 n1 c1 e1):=by rw [← hh0]; simp [Ztv]
 rw [Yjy w0]
 simp only [Zas,Zai,Zaq,Zaj]
 refine (Zsv (r.same s0) b).mono ?_
 rintro v h1 ⟨rfl,s1⟩
 simp only [Zah]
 refine Zdl (fun b1=>?_) (fun b1=>⟨by rw [b1]; rfl,s0.cat s1⟩)
 rw [Yjy (s1.get w0 (Own.lt w0))]
 simp only [Zas,Zai,Zaq,Zaj]
 refine (Zuk (r.same (s0.cat s1)) b b1).mono ?_
 rintro v h2 ⟨s2,a,n,c,e,xs,rfl,hnc,pv⟩
 simp only [Zaj]
 refine ⟨?_,(s0.cat s1).cat s2⟩
 congr 1
 have:=pv.num
 rw [b1,Bool.true_and,Bool.eq_iff_iff,beq_iff_eq,decide_eq_true_eq]
 constructor
 ·intro h0; exact List.eq_nil_of_length_eq_zero (by omega)
 ·intro h0; rw [h0] at this; simp at this; omega
end Go.Sim

set_option linter.unusedVariables false
set_option linter.unusedSimpArgs false
set_option maxRecDepth 20000
namespace Go.Sim
open Go Go.RowKit

theorem lawIsCoherent {h:Zaa} {a0 a1:Pt} {n0 c0 n1 c1:Nat} {e0 e1:Bool} {w:Wd} (r:Zor h a0 n0 c0 a1 n1 c1 w) (hb:Ylx w) :
  Zad pg Zgs [.agg [.slice a0 n0 c0 e0,.slice a1 n1 c1 e1]] h fun v _=>v=.bool true:=by
 apply Zgq.call
 simp only [Zba]
 generalize hg0:h ++ [Zcp.cells Zdt [.slice a0 n0 c0 e0,.slice a1 n1 c1 e1] false]=g0
 have sg0:Zbb h.length h g0:=by rw [← hg0]; exact Zat
 have xw0:g0[h.length]?=some (.cells Zdt [.slice a0 n0 c0 e0,.slice a1 n1 c1 e1] false):=by rw [← hg0]; simp
 try simp only [Zca xw0,Zas,Zai,Zaq,Zaj,Zap,Zde,Zao,Zah,Zee,Zar,true_and]
 refine (Ybs (r.same sg0) hb (x:=1048576) (by omega)).mono ?_
 rintro v k11 ⟨y,rfl,sk11,hy⟩
 have xw_k11:=sk11.get xw0 (Own.lt xw0)
 have S_k11:=sg0.cat sk11
 simp only [Zao]
 refine Zam (fun _=>by trivial) (fun hge=>?_)
 have hyy:=hy (by omega)
 have b:WB w:=.of hb (by omega)
 try simp only [Zca xw_k11,Zca xw0,Zas,Zai,Zaq,Zaj,Zap,Zde,Zao,Zah,Zee,Zar,true_and]
 refine (Zph (r.same S_k11) b).mono ?_
 rintro v k12 ⟨b0,d0,f0,b1,d1,f1,ys,rfl,hd0,hd1,sk12,W3⟩
 have xw_k12:=sk12.get xw_k11 (Own.lt xw_k11)
 have S_k12:=S_k11.cat sk12
 try simp only [Zca xw_k12,Zca xw_k11,Zas,Zai,Zaq,Zaj,Zap,Zde,Zao,Zah,Zee,Zar,true_and]
 refine (Zvt (W3.rep hd0 hd1) b).mono ?_
 rintro v k13 ⟨rfl,sk13⟩
 have xw_k13:=sk13.get xw_k12 (Own.lt xw_k12)
 have S_k13:=S_k12.cat sk13
 try simp only [Zca xw_k13,Zca xw_k12,Zas,Zai,Zaq,Zaj,Zap,Zde,Zao,Zah,Zee,Zar,true_and]
 refine (Zph (r.same S_k13) b).mono ?_
 rintro v k14 ⟨p0,q0,g0',p1,q1,g1',zs,rfl,hq0,hq1,sk14,W6⟩
 have xw_k14:=sk14.get xw_k13 (Own.lt xw_k13)
 have S_k14:=S_k13.cat sk14
 try simp only [Zca xw_k14,Zca xw_k13,Zas,Zai,Zaq,Zaj,Zap,Zde,Zao,Zah,Zee,Zar,true_and]
 rw [Zky]
 generalize hg1:k14 ++ [Zcp.cells Zan [.slice p0 n0 q0 g0',.slice p1 n1 q1 g1'] false]=g1
 have sg1:Zbb k14.length k14 g1:=by rw [← hg1]; exact Zat
 have xw_g1:=sg1.get xw_k14 (Own.lt xw_k14)
 have S_g1:=S_k14.cat sg1
 have xi_g1:g1[k14.length]?=some (.cells Zan [.slice p0 n0 q0 g0',.slice p1 n1 q1 g1'] false):=by rw [← hg1]; simp
 try simp only [Zca xw_g1,Zca xi_g1,Zca xw_k13,Zas,Zai,Zaq,Zaj,Zap,Zde,Zao,Zah,Zee,Zar,true_and]
 have W7:=W6.same sg1
 refine (Zvn (W7.rep hq0 hq1) b).mono ?_
 rintro v k15 ⟨rfl,sk15⟩
 have xw_k15:=sk15.get xw_g1 (Own.lt xw_g1)
 have xi_k15:=sk15.get xi_g1 (Own.lt xi_g1)
 have S_k15:=S_g1.cat sk15
 simp only [Zee,Zai,Zaq,Zaj,Zap,Zao,Zah,beq_self_eq_true,eq_self,decide_true,Bool.not_true,Zbg]
 try simp only [Zca xw_k15,Zca xi_k15,Zca xw_g1,Zca xi_g1,Zas,Zai,Zaq,Zaj,Zap,Zde,Zao,Zah,Zee,Zar,true_and]
 refine (Zph (r.same S_k15) b).mono ?_
 rintro v k16 ⟨u0,v0,j0,u1,v1,j1,ts,rfl,hv0,hv1,sk16,W10⟩
 have xw_k16:=sk16.get xw_k15 (Own.lt xw_k15)
 have xi_k16:=sk16.get xi_k15 (Own.lt xi_k15)
 have S_k16:=S_k15.cat sk16
 try simp only [Zca xw_k16,Zca xi_k16,Zca xw_k15,Zca xi_k15,Zas,Zai,Zaq,Zaj,Zap,Zde,Zao,Zah,Zee,Zar,true_and]
 refine (Ybe (((W7.rep hq0 hq1).same sk15).same sk16) (W10.rep hv0 hv1) b).mono ?_
 rintro v k17 ⟨rfl,sk17⟩
 have xw_k17:=sk17.get xw_k16 (Own.lt xw_k16)
 have xi_k17:=sk17.get xi_k16 (Own.lt xi_k16)
 have S_k17:=S_k16.cat sk17
 simp only [Zah,Bool.not_true,Zbg]
end Go.Sim

set_option linter.unusedVariables false
namespace Go.Sim
open Go Go.RowKit
end Go.Sim
