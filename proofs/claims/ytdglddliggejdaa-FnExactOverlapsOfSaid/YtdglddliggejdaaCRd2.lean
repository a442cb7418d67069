/- A part of the proof of a statement of this seat: see the text that holds the theorem. No condition. -/
import Derived.Test.YtdglddliggejdaaPTCSUn5
import Derived.Test.YtdglddliggejdaaCSrch
import Derived.Test.YtdglddliggejdaaCGr
import Derived.Test.YtdglddliggejdaaPTCMarkW
import Derived.Test.YtdglddliggejdaaNm
set_option linter.unusedVariables false
set_option linter.unusedSimpArgs false
set_option linter.all false
set_option linter.unusedVariables false
set_option linter.unusedSimpArgs false
set_option maxRecDepth 20000
namespace Go.Sim
open Go Go.RowKit
theorem Ygv:pg.underlying Zkf=some (.slice Zel):=by kernel_rfl
theorem Ylb:pg.cellsOf Zel=1:=by kernel_rfl
theorem Ylo:pg.okElem Zel=true:=by kernel_rfl
theorem Ymo:pg.bytesOf Zel≤127:=Nat.le_of_ble_eq_true (by kernel_rfl)
noncomputable def ovP (x y:Ins):Bool:=decide (x.1.1=y.1.1) && !Zme x.1.2 y.1.2
noncomputable def ovB (w:Wd) (g k:Nat):Bool:=match w.is[g]?,w.is[k]? with | some x,some y=>ovP x y | _,_=>false
noncomputable def ovI (w:Wd) (g m:Nat):List (Nat × Nat):=((List.range m).filter fun k=>decide (g < k) && ovB w g k).map fun k=>(g,k)
noncomputable def ovW (w:Wd) (g:Nat):List (Nat × Nat):=(List.range g).flatMap fun i=>ovI w i w.is.length
noncomputable def Yan (w:Wd):List (Nat × Nat):=ovW w w.is.length
theorem Yci (w:Wd) (g m:Nat):ovI w g (m + 1)=ovI w g m ++ if g < m∧ovB w g m=true then [(g,m)] else []:=by
 unfold ovI
 rw [List.range_succ,List.filter_append,List.map_append]
 congr 1
 by_cases h:g < m∧ovB w g m=true
 ·simp [h.1,h.2]
 ·rw [if_neg h]
  have:(decide (g < m) && ovB w g m)=false:=by
   cases hb:ovB w g m with
   | false=>simp
   | true=>simp; exact Nat.le_of_not_lt fun hlt=>h ⟨hlt,hb⟩
  simp [this]
theorem Zyd (w:Wd) (g:Nat):ovI w g (g + 1)=[]:=by
 unfold ovI
 rw [List.map_eq_nil_iff,List.filter_eq_nil_iff]
 intro k hk
 have:=List.mem_range.1 hk
 simp; omega
theorem Yai (w:Wd) (g m:Nat):(ovI w g m).length≤m:=by
 unfold ovI
 rw [List.length_map]
 exact Nat.le_trans (List.length_filter_le _ _) (by simp)
theorem Zwl (w:Wd) (g:Nat):ovW w (g + 1)=ovW w g ++ ovI w g w.is.length:=by unfold ovW; rw [List.range_succ,List.flatMap_append]; simp
theorem Zwx (w:Wd):∀ g,(ovW w g).length≤g * w.is.length
 | 0=>by simp [ovW]
 | g + 1=>by
  have:=Zwx w g
  have:=Yai w g w.is.length
  rw [Zwl,List.length_append,Nat.succ_mul]; omega
theorem Ykm {w:Wd} {g k:Nat} (hg:g < w.is.length) (hk:k < w.is.length):ovB w g k=ovP w.is[g] w.is[k]:=by
 unfold ovB; rw [List.getElem?_eq_getElem hg,List.getElem?_eq_getElem hk]
def eSl (x:Nat × Nat × Bool):List Zag:=[.slice (some (x.1,0)) 2 x.2.1 x.2.2]
theorem Yaq (x:Nat × Nat × Bool):(eSl x).length=1:=rfl
structure PV (lo:Nat) (h:Zaa) (a:Pt) (n c:Nat) (xs:List (Nat × Nat × Bool)) (l:List (Nat × Nat)):Prop where
 len:xs.length=l.length
 num:n=l.length
 vec:Vec Zel h a n c (Zdo eSl xs)
 low:∀ i,a=some (i,0)→lo≤i
 el:∀ (k:Nat) (x:Nat × Nat × Bool),xs[k]?=some x→lo≤x.1∧2≤x.2.1∧a≠some (x.1,0)∧∃ p:Nat × Nat,l[k]?=some p∧h[x.1]?=some (.cells Zjc [.int .i64 (p.1:Int),.int .i64 (p.2:Int)] false)
 nd:(xs.map (·.1)).Nodup
section
variable {lo n c:Nat} {h h':Zaa} {a:Pt} {xs:List (Nat × Nat × Bool)} {l:List (Nat × Nat)}
theorem PV.same (p:PV lo h a n c xs l) (s:Zbb h.length h h'):PV lo h' a n c xs l:=⟨p.len,p.num,p.vec.same s,p.low,fun k x hx=>by
 obtain ⟨h1,h2,h3,q,h4,h5⟩:=p.el k x hx
 exact ⟨h1,h2,h3,q,h4,s.get h5 (Own.lt h5)⟩,p.nd⟩
theorem PV.in (p:PV lo h a n c xs l) {q:Nat} (hq:q∈xs.map (·.1)):q < h.length:=by
 obtain ⟨x,hx,rfl⟩:=List.mem_map.1 hq
 obtain ⟨k,hk⟩:=List.getElem?_of_mem hx
 obtain ⟨_,_,_,_,_,h5⟩:=p.el k x hk
 exact Own.lt h5
theorem PV.alt (p:PV lo h a n c xs l) {i:Nat} (ha:a=some (i,0)):i < h.length:=by
 have:=p.vec
 rw [ha] at this
 exact this.lt
theorem PV.push {hb:Zaa} {e:Bool} {q cq x y:Nat} {eq:Bool} {K:Zag→Zaa→Prop} (p:PV lo hb a n c xs l) (hlo:lo≤hb.length) (hn:n≤1000000000) (hq:lo≤q) (hcq:2≤cq) (hqa:a≠some (q,0)) (hqx:q ∉ xs.map (·.1))
  (ho:hb[q]?=some (.cells Zjc [.int .i64 (x:Int),.int .i64 (y:Int)] false))
  (hk:∀ h',hb.length≤h'.length→(∀ j,j < hb.length→a≠some (j,0)→h'[j]?=hb[j]?)→PV lo h' (some (hb.length + 1,0)) (n + 1) (n + 1) (xs ++ [(q,cq,eq)]) (l ++ [(x,y)])→K (.slice (some (hb.length + 1,0)) (n + 1) (n + 1) false) h') :
  Zdv pg Zkf (hb ++ [.cells Zel [.slice (some (q,0)) 2 cq eq] false]) (.slice a n c e) (.slice (some (hb.length,0)) 1 1 true) K:=by
 refine p.vec.push Ygv Ylb Ylo Ymo (by rw [Zbg Yaq,p.len,p.num]; omega) rfl (by omega) (fun h' hl hi hj=>?_)
 have hj':∀ j,j < hb.length→a≠some (j,0)→h'[j]?=hb[j]?:=fun j hlt hne=>hj j hlt fun i hi e=>hne (by rw [hi,e])
 refine hk h' (by omega) hj' ⟨by simp [p.len],by rw [List.length_append,← p.num]; rfl,Vec.mk1 ?_,fun i hi=>by cases hi; omega,fun k z hz=>?_,?_⟩
 ·rw [hi,Zij]; rfl
 ·by_cases hkl:k < xs.length
  ·rw [List.getElem?_append_left hkl] at hz
   obtain ⟨h1,h2,h3,r,h4,h5⟩:=p.el k z hz
   have:=Own.lt h5
   refine ⟨h1,h2,fun e=>by simp at e; omega,r,by rw [List.getElem?_append_left (by rw [← p.len]; exact hkl)]; exact h4,?_⟩
   rw [hj' _ this h3]; exact h5
  ·have hke:k=xs.length:=by
    have:=(List.getElem?_eq_some_iff.1 hz).1
    simp at this; omega
   subst hke
   simp at hz
   subst hz
   have:=Own.lt ho
   exact ⟨hq,hcq,fun e=>by simp at e; omega,(x,y),by rw [p.len]; simp,by rw [hj' _ this hqa]; exact ho⟩
 ·rw [List.map_append,List.nodup_append]
  refine ⟨p.nd,by simp,?_⟩
  intro a1 h1 b1 h2 e
  simp at h2
  subst h2; subst e
  exact hqx h1
end
theorem Zoe {h h':Zaa} (s:Zbb h.length h h') {i o n:Nat} (hi:i < h.length):Zbo h' (.ptr (some (i,o))) n=Zbo h (.ptr (some (i,o))) n:=by simp only [Zbo,s.eq i hi]
def OvQ (w:Wd) (h:Zaa) (v:Zag) (h':Zaa):Prop:=Zbb h.length h h'∧∃ a n c e xs,v=.tup [.slice a n c e,.bool (Zhl w)]∧n≤c∧PV h.length h' a n c xs (if Zhl w then Yan w else [])
theorem Zpu {h:Zaa} {a0 a1:Pt} {n0 c0 n1 c1:Nat} {e0 e1:Bool} {w:Wd} (r:Zqk h a0 n0 c0 a1 n1 c1 w) (b:WB w) :
  Zad pg Zgm [.agg [.slice a0 n0 c0 e0,.slice a1 n1 c1 e1]] h (OvQ w h):=by
 have hl1:=r.len1
 apply Zbz.call
 simp only [Zba]
 generalize hh0:h ++ [Zcp.cells Zao [.slice a0 n0 c0 e0,.slice a1 n1 c1 e1] false]=h0
 have s0:Zbb h.length h h0:=by rw [← hh0]; exact Zav
 have w0:h0[h.length]?=some (Ztw a0 n0 c0 e0 a1 n1 c1 e1):=by rw [← hh0]; simp [Ztw]
 rw [Ykz w0]
 simp only [Zas,Zak,Zar,Zai]
 refine (Zvz (r.same s0) b).mono ?_
 rintro v h2 ⟨rfl,s2⟩
 have w2:=s2.get w0 (Own.lt w0)
 have S2:=s0.cat s2
 simp only [Zah]
 refine Zck (fun b1=>⟨S2,none,0,0,true,[],by rw [b1],Nat.le_refl _,by rw [b1]; exact ⟨rfl,rfl,Vec.mk0,fun i hi=>(by cases hi),fun k x hx=>(by simp at hx),by simp⟩⟩) (fun b1=>?_)
 generalize hh3:h2 ++ [Zcp.cells Zel [] false]=h3
 have s3:Zbb h2.length h2 h3:=by rw [← hh3]; exact Zav
 have o3:h3[h2.length]?=some (.cells Zel [] false):=by rw [← hh3]; simp
 have w3:=s3.get w2 (Own.lt w2)
 have S3:=S2.cat s3
 have hl10:=Zpd b1
 have hl2:=S2.le
 simp only [Zmf w3,Nat.zero_add,List.getElem?_cons_succ,List.getElem?_cons_zero,Zai]
 have wlt:=Own.lt w0
 have l0:h0.length=h.length + 1:=by rw [← hh0]; simp
 have l02:=s2.le
 have l3:h3.length=h2.length + 1:=by rw [← hh3]; simp
 have bound:∀ g,g≤w.is.length→(ovW w g).length≤100:=fun g hg=>by
  have h1:=Zwx w g
  have h2:g * w.is.length≤10 * 10:=Nat.mul_le_mul (by omega) hl10
  omega
 refine Zbz.L5ind (J:=fun (g:Nat) a4 n4 c4 e4 x16 k=>x16=(g:Int)∧g≤n1∧Zbb h.length h k∧k[h.length]?=some (Ztw a0 n0 c0 e0 a1 n1 c1 e1)∧n4≤c4∧∃ xs,PV (h.length + 1) k a4 n4 c4 xs (ovW w g)) (m:=fun g=>n1 - g) (hr:=?_) (g:=0)
  (hj:=⟨rfl,by omega,S3,w3,Nat.le_refl _,[],rfl,rfl,Vec.mk1 o3,fun i hi=>by cases hi; omega,fun k x hx=>(by simp at hx),by simp⟩) ..
 rintro g a4 n4 c4 e4 x16 k ⟨rfl,hg,Sk,wk,hnc,xs,pv⟩ R hR
 unfold Zbz.L5t
 refine Zaj (fun hlt=>?_) (fun hge=>?_)
 ·have hgl:g < w.is.length:=by omega
  rw [Zbp (by omega)]
  refine Zbz.L8ind (J:=fun (m:Nat) a4 n4 c4 e4 x6 k=>x6=(m:Int)∧g + 1≤m∧m≤n1∧Zbb h.length h k∧k[h.length]?=some (Ztw a0 n0 c0 e0 a1 n1 c1 e1)∧n4≤c4∧∃ xs,PV (h.length + 1) k a4 n4 c4 xs (ovW w g ++ ovI w g m)) (m:=fun m=>n1 - m) (hr:=?_) (g:=g + 1)
   (hj:=⟨rfl,by omega,by omega,Sk,wk,hnc,xs,by rw [Zyd,List.append_nil]; exact pv⟩) ..
  clear hnc pv xs wk Sk k a4 n4 c4 e4
  rintro m a4 n4 c4 e4 x6 k ⟨rfl,hm0,hm1,Sk,wk,hnc,xs,pv⟩ R' hR'
  unfold Zbz.L8t
  rw [Zmf wk]
  simp only [Nat.zero_add,List.getElem?_cons_succ,List.getElem?_cons_zero,Zai]
  refine Zaj (fun hlt2=>?_) (fun hge2=>?_)
  ·have hml:m < w.is.length:=by omega
   have rk:=r.same Sk
   obtain ⟨i,o,aa,na,ca,ea,hai,hil,hra,_,_,_,_⟩:=Zsm rk hgl
   obtain ⟨i',o',ab,nb,cb,eb,hbi,hil',hrb,_,_,_,_⟩:=Zsm rk hml
   rw [hai] at hbi
   cases hbi
   subst hai
   have hov:=Yci w g m
   have hob:=Ykm hgl hml
   have bd:=bound g (by omega)
   have bd2:=Yai w g m
   have hpn:=pv.num
   rw [List.length_append] at hpn
   -- from the two rows on
   have tail:∀ kz p1 p2,Zbb k.length k kz→kz[p1]?=some (.cells Zac [.str w.is[g].1.1,.str w.is[g].1.2,.slice aa na ca ea] false)→kz[p2]?=some (.cells Zac [.str w.is[m].1.1,.str w.is[m].1.2,.slice ab nb cb eb] false) →
     Zcb (Zaf kz (.ptr (some (p1,0)))) fun s_68=>Zcb (Zaf kz (.ptr (some (p2,0)))) fun s_69=>bcase (decide (s_68=s_69)) (Zcb (Zaf kz (.ptr (some (p1,1)))) fun s_70=>Zcb (Zaf kz (.ptr (some (p2,1)))) fun s_71=>Zad pg Zgh [.str s_70,.str s_71] kz fun v_72 h_73=>
      Zbw (some v_72) fun b_74=>bcase (!b_74) (Zdv pg Zkf (h_73 ++ [Zcp.cells Zjc [.int .i64 (g:Int),.int .i64 (m:Int)] false] ++ [Zcp.cells Zel [.slice (some (List.length h_73,0)) 2 2 true] false]) (.slice a4 n4 c4 e4) (.slice (some (List.length (h_73 ++ [Zcp.cells Zjc [.int .i64 (g:Int),.int .i64 (m:Int)] false]),0)) 1 1 true) fun v_77 h_78=>xSl (some v_77) fun a_79 n_80 c_81 e_82=>Zbz.J9 (OvQ w h) R R' (m:Int) h.length 0 (g:Int) a_79 n_80 c_81 e_82 (g:Int) (n1:Int) h_78) (Zbz.J9 (OvQ w h) R R' (m:Int) h.length 0 (g:Int) a4 n4 c4 e4 (g:Int) (n1:Int) h_73)) (Zbz.J9 (OvQ w h) R R' (m:Int) h.length 0 (g:Int) a4 n4 c4 e4 (g:Int) (n1:Int) kz):=by
    intro kz p1 p2 sz q1 q2
    have skip:∀ k2,Zbb k.length k k2→ovP w.is[g] w.is[m]=false→Zbz.J9 (OvQ w h) R R' (m:Int) h.length 0 (g:Int) a4 n4 c4 e4 (g:Int) (n1:Int) k2:=by
     intro k2 s2 hno
     apply Zbz.J9i
     rw [Zbp (by omega)]
     refine hR' (m + 1) _ _ _ _ _ _ (by omega) ⟨rfl,by omega,by omega,Sk.cat s2,s2.get wk (Own.lt wk),hnc,xs,?_⟩
     rw [hov,if_neg (by rw [hob,hno]; simp),List.append_nil]
     exact pv.same s2
    simp only [Zan q1,Zan q2,List.getElem?_cons_zero,List.getElem?_cons_succ,Zap]
    refine Zaj (fun hc=>?_) (fun hc=>skip _ sz (by unfold ovP; simp [hc]))
    refine (Zzw _ _ kz).mono ?_
    rintro v k2 ⟨rfl,s2⟩
    simp only [Zah]
    have S2:=sz.cat s2
    refine Zds (fun hap=>?_) (fun hap=>skip _ S2 (by unfold ovP; rw [hap]; simp))
    generalize hk3:k2 ++ [Zcp.cells Zjc [.int .i64 (g:Int),.int .i64 (m:Int)] false]=k3
    have s3:Zbb k2.length k2 k3:=by rw [← hk3]; exact Zav
    have o3:k3[k2.length]?=some (.cells Zjc [.int .i64 (g:Int),.int .i64 (m:Int)] false):=by rw [← hk3]; simp
    have S3:=S2.cat s3
    have le3:=S3.le
    have leS:=Sk.le
    have le2:=S2.le
    have wl:=Own.lt wk
    have pv3:=pv.same S3
    refine pv3.push (x:=g) (y:=m) (by omega) (by omega) (by omega) (Nat.le_refl _) (fun e=>?_) (fun hm=>?_) o3 (fun k4 hl4 hj4 pv4=>?_)
    ·have:=pv.alt e; omega
    ·have:=pv.in hm; omega
    ·simp only [Zai]
     apply Zbz.J9i
     rw [Zbp (by omega)]
     refine hR' (m + 1) _ _ _ _ _ _ (by omega) ⟨rfl,by omega,by omega,⟨by omega,fun j hj=>?_⟩,?_,Nat.le_refl _,xs ++ [(k2.length,2,true)],?_⟩
     ·rw [hj4 j (by omega) (fun e=>by have:=pv.low j e; omega),S3.eq j (by omega)]; exact Sk.eq j hj
     ·rw [hj4 _ (by omega) (fun e=>by have:=pv.low _ e; omega),S3.eq _ (by omega)]; exact wk
     ·have hyes:g < m∧ovB w g m=true:=⟨by omega,by rw [hob]; unfold ovP; rw [hap]; simp [hc]⟩
      rw [hov,if_pos hyes,← List.append_assoc]
      exact pv4
   simp only [Zmf wk,List.getElem?_cons_succ,List.getElem?_cons_zero,Zai,Zau,Int.toNat_natCast,hra,hrb,Zas,Zak,Zar,Zap,Zba]
   refine ⟨by omega,by omega,?_⟩
   refine ⟨?_,?_⟩
   ·generalize hk1:k ++ [Zcp.cells Zac [.str [],.str [],.slice none 0 0 true] false]=k1
    generalize hk2:k1 ++ [Zcp.cells Zac [.str [],.str [],.slice none 0 0 true] false]=k2
    have s1:Zbb k.length k k1:=by rw [← hk1]; exact Zav
    have s2:Zbb k1.length k1 k2:=by rw [← hk2]; exact Zav
    have l1:k1.length=k.length + 1:=by rw [← hk1]; simp
    have z1:k1[k.length]?=some (.cells Zac [.str [],.str [],.slice none 0 0 true] false):=by rw [← hk1]; simp
    have zA:=s2.get z1 (Own.lt z1)
    have zB:k2[k1.length]?=some (.cells Zac [.str [],.str [],.slice none 0 0 true] false):=by rw [← hk2]; simp
    have S2:=s1.cat s2
    have w1:=s1.get wk (Own.lt wk)
    have w2':=S2.get wk (Own.lt wk)
    rw [Zbk zA (by simp)]
    simp only [Zaq,Zbm,List.take_zero,List.length_cons,List.length_nil,List.drop_succ_cons,List.drop_zero,List.drop_nil,List.cons_append,List.nil_append,List.append_nil,Nat.zero_add]
    have yA:=Zcc zA (x:=.cells Zac [.str w.is[g].1.1,.str w.is[g].1.2,.slice aa na ca ea] false)
    have yB:(k2.set k.length (.cells Zac [.str w.is[g].1.1,.str w.is[g].1.2,.slice aa na ca ea] false))[k1.length]?=some (.cells Zac [.str [],.str [],.slice none 0 0 true] false):=by rw [Zbv (by omega)]; exact zB
    have S3:=S2.set' (i:=k.length) (x:=.cells Zac [.str w.is[g].1.1,.str w.is[g].1.2,.slice aa na ca ea] false) (by omega)
    generalize k2.set k.length (.cells Zac [.str w.is[g].1.1,.str w.is[g].1.2,.slice aa na ca ea] false)=k3 at yA yB S3 ⊢
    rw [Zbk yB (by simp)]
    simp only [Zaq,Zbm,List.take_zero,List.length_cons,List.length_nil,List.drop_succ_cons,List.drop_zero,List.drop_nil,List.cons_append,List.nil_append,List.append_nil,Nat.zero_add]
    have S4:=S3.set' (i:=k1.length) (x:=.cells Zac [.str w.is[m].1.1,.str w.is[m].1.2,.slice ab nb cb eb] false) (by omega)
    have uA:(k3.set k1.length (.cells Zac [.str w.is[m].1.1,.str w.is[m].1.2,.slice ab nb cb eb] false))[k.length]?=some (.cells Zac [.str w.is[g].1.1,.str w.is[g].1.2,.slice aa na ca ea] false):=by rw [Zbv (by omega)]; exact yA
    have uB:=Zcc yB (x:=.cells Zac [.str w.is[m].1.1,.str w.is[m].1.2,.slice ab nb cb eb] false)
    have T:=tail _ k.length k1.length S4 uA uB
    have w3':=S3.get wk (Own.lt wk)
    have e1:∀ o n,Zbo k1 (.ptr (some (i,o))) n=Zbo k (.ptr (some (i,o))) n:=fun o n=>Zoe s1 hil
    have e2:∀ o n,Zbo k2 (.ptr (some (i,o))) n=Zbo k (.ptr (some (i,o))) n:=fun o n=>Zoe S2 hil
    have e3:∀ o n,Zbo k3 (.ptr (some (i,o))) n=Zbo k (.ptr (some (i,o))) n:=fun o n=>Zoe S3 hil
    simp only [e1,e2,e3,hra,hrb,Zmf wk,Zmf w1,Zmf w2',Zmf w3',List.getElem?_cons_succ,List.getElem?_cons_zero,true_and]
    exact T
   ·generalize hk1:k ++ [Zcp.cells Zac [.str [],.str [],.slice none 0 0 true] false]=k1
    generalize hk2:k1 ++ [Zcp.cells Zac [.str [],.str [],.slice none 0 0 true] false]=k2
    have s1:Zbb k.length k k1:=by rw [← hk1]; exact Zav
    have s2:Zbb k1.length k1 k2:=by rw [← hk2]; exact Zav
    have l1:k1.length=k.length + 1:=by rw [← hk1]; simp
    have z1:k1[k.length]?=some (.cells Zac [.str [],.str [],.slice none 0 0 true] false):=by rw [← hk1]; simp
    have zA:=s2.get z1 (Own.lt z1)
    have zB:k2[k1.length]?=some (.cells Zac [.str [],.str [],.slice none 0 0 true] false):=by rw [← hk2]; simp
    have S2:=s1.cat s2
    have w1:=s1.get wk (Own.lt wk)
    have w2':=S2.get wk (Own.lt wk)
    rw [Zbk zB (by simp)]
    simp only [Zaq,Zbm,List.take_zero,List.length_cons,List.length_nil,List.drop_succ_cons,List.drop_zero,List.drop_nil,List.cons_append,List.nil_append,List.append_nil,Nat.zero_add]
    have yA:=Zcc zB (x:=.cells Zac [.str w.is[g].1.1,.str w.is[g].1.2,.slice aa na ca ea] false)
    have yB:(k2.set k1.length (.cells Zac [.str w.is[g].1.1,.str w.is[g].1.2,.slice aa na ca ea] false))[k.length]?=some (.cells Zac [.str [],.str [],.slice none 0 0 true] false):=by rw [Zbv (by omega)]; exact zA
    have S3:=S2.set' (i:=k1.length) (x:=.cells Zac [.str w.is[g].1.1,.str w.is[g].1.2,.slice aa na ca ea] false) (by omega)
    generalize k2.set k1.length (.cells Zac [.str w.is[g].1.1,.str w.is[g].1.2,.slice aa na ca ea] false)=k3 at yA yB S3 ⊢
    rw [Zbk yB (by simp)]
    simp only [Zaq,Zbm,List.take_zero,List.length_cons,List.length_nil,List.drop_succ_cons,List.drop_zero,List.drop_nil,List.cons_append,List.nil_append,List.append_nil,Nat.zero_add]
    have S4:=S3.set' (i:=k.length) (x:=.cells Zac [.str w.is[m].1.1,.str w.is[m].1.2,.slice ab nb cb eb] false) (by omega)
    have uA:(k3.set k.length (.cells Zac [.str w.is[m].1.1,.str w.is[m].1.2,.slice ab nb cb eb] false))[k1.length]?=some (.cells Zac [.str w.is[g].1.1,.str w.is[g].1.2,.slice aa na ca ea] false):=by rw [Zbv (by omega)]; exact yA
    have uB:=Zcc yB (x:=.cells Zac [.str w.is[m].1.1,.str w.is[m].1.2,.slice ab nb cb eb] false)
    have T:=tail _ k1.length k.length S4 uA uB
    have w3':=S3.get wk (Own.lt wk)
    have e1:∀ o n,Zbo k1 (.ptr (some (i,o))) n=Zbo k (.ptr (some (i,o))) n:=fun o n=>Zoe s1 hil
    have e2:∀ o n,Zbo k2 (.ptr (some (i,o))) n=Zbo k (.ptr (some (i,o))) n:=fun o n=>Zoe S2 hil
    have e3:∀ o n,Zbo k3 (.ptr (some (i,o))) n=Zbo k (.ptr (some (i,o))) n:=fun o n=>Zoe S3 hil
    simp only [e1,e2,e3,hra,hrb,Zmf wk,Zmf w1,Zmf w2',Zmf w3',List.getElem?_cons_succ,List.getElem?_cons_zero,true_and]
    exact T
  ·apply Zbz.A8x2i
   have:m=n1:=by omega
   subst this
   rw [Zbp (by omega)]
   refine hR (g + 1) _ _ _ _ _ _ (by omega) ⟨rfl,by omega,Sk,wk,hnc,xs,?_⟩
   rw [Zwl,hl1]; exact pv
 ·apply Zbz.A5x0i
  have:g=n1:=by omega
  subst this
  refine ⟨Sk,a4,n4,c4,e4,xs,by rw [b1],hnc,?_⟩
  rw [b1,if_pos rfl]
  unfold Yan
  rw [hl1]
  exact ⟨pv.len,pv.num,pv.vec,fun i hi=>by have:=pv.low i hi; omega,fun k x hx=>by obtain ⟨h1,h2⟩:=pv.el k x hx; exact ⟨by omega,h2⟩,pv.nd⟩
theorem Yjn {h:Zaa} {x y:Ins} {a a':Pt} {n c n' c':Nat} {e e':Bool} (hx:x.1.2.length≤1048576) (hy:y.1.2.length≤1048576) :
  Zad pg Zli [.agg [.str x.1.1,.str x.1.2,.slice a n c e],.agg [.str y.1.1,.str y.1.2,.slice a' n' c' e']] h fun v h'=>v=.bool (ovP x y)∧Zbb h.length h h':=by
 apply Zop.call
 simp only [Zba]
 generalize hk1:h ++ [Zcp.cells Zac [.str x.1.1,.str x.1.2,.slice a n c e] false]=k1
 generalize hk2:k1 ++ [Zcp.cells Zac [.str y.1.1,.str y.1.2,.slice a' n' c' e'] false]=k2
 have s1:Zbb h.length h k1:=by rw [← hk1]; exact Zav
 have s2:Zbb k1.length k1 k2:=by rw [← hk2]; exact Zav
 have z1:k1[h.length]?=some (.cells Zac [.str x.1.1,.str x.1.2,.slice a n c e] false):=by rw [← hk1]; simp
 have zA:=s2.get z1 (Own.lt z1)
 have zB:k2[k1.length]?=some (.cells Zac [.str y.1.1,.str y.1.2,.slice a' n' c' e'] false):=by rw [← hk2]; simp
 have S2:=s1.cat s2
 simp only [Zan zA,Zan zB,Nat.zero_add,List.getElem?_cons_zero,List.getElem?_cons_succ,Zap]
 refine Zaj (fun hc=>?_) (fun hc=>⟨by unfold ovP; simp [hc],S2⟩)
 refine (Zxz _ _ hx hy k2).mono ?_
 rintro v k3 ⟨rfl,s3⟩
 simp only [Zah]
 exact ⟨by unfold ovP; simp [hc],S2.cat s3⟩
def OvP (w:Wd) (h:Zaa) (v:Zag) (h':Zaa):Prop:=Zbb h.length h h'∧∃ a n c e xs,v=.slice a n c e∧n≤c∧PV h.length h' a n c xs (Yan w)
theorem Zwc {h:Zaa} {a0 a1:Pt} {n0 c0 n1 c1:Nat} {e0 e1:Bool} {w:Wd} (r:Zqk h a0 n0 c0 a1 n1 c1 w) (b:WB w) (b1:Zhl w=true) :
  Zad pg Zin [.agg [.slice a0 n0 c0 e0,.slice a1 n1 c1 e1]] h (OvP w h):=by
 have hl1:=r.len1
 apply Zcr.call
 simp only [Zba]
 generalize hh0:h ++ [Zcp.cells Zao [.slice a0 n0 c0 e0,.slice a1 n1 c1 e1] false]=h0
 have s0:Zbb h.length h h0:=by rw [← hh0]; exact Zav
 have w0:h0[h.length]?=some (Ztw a0 n0 c0 e0 a1 n1 c1 e1):=by rw [← hh0]; simp [Ztw]
 generalize hh3:h0 ++ [Zcp.cells Zel [] false]=h3
 have s3:Zbb h0.length h0 h3:=by rw [← hh3]; exact Zav
 have o3:h3[h0.length]?=some (.cells Zel [] false):=by rw [← hh3]; simp
 have w3:=s3.get w0 (Own.lt w0)
 have S3:=s0.cat s3
 have hl10:=Zpd b1
 simp only [Zmf w3,Nat.zero_add,List.getElem?_cons_succ,List.getElem?_cons_zero,Zai]
 have wlt:=Own.lt w0
 have l0:h0.length=h.length + 1:=by rw [← hh0]; simp
 have l3:h3.length=h0.length + 1:=by rw [← hh3]; simp
 have bound:∀ g,g≤w.is.length→(ovW w g).length≤100:=fun g hg=>by
  have h1:=Zwx w g
  have h2:g * w.is.length≤10 * 10:=Nat.mul_le_mul (by omega) hl10
  omega
 refine Zcr.L3ind (J:=fun (g:Nat) a4 n4 c4 e4 x16 k=>x16=(g:Int)∧g≤n1∧Zbb h.length h k∧k[h.length]?=some (Ztw a0 n0 c0 e0 a1 n1 c1 e1)∧n4≤c4∧∃ xs,PV (h.length + 1) k a4 n4 c4 xs (ovW w g)) (m:=fun g=>n1 - g) (hr:=?_) (g:=0)
  (hj:=⟨rfl,by omega,S3,w3,Nat.le_refl _,[],rfl,rfl,Vec.mk1 o3,fun i hi=>by cases hi; omega,fun k x hx=>(by simp at hx),by simp⟩) ..
 rintro g a4 n4 c4 e4 x16 k ⟨rfl,hg,Sk,wk,hnc,xs,pv⟩ R hR
 unfold Zcr.L3t
 refine Zaj (fun hlt=>?_) (fun hge=>?_)
 ·have hgl:g < w.is.length:=by omega
  obtain ⟨i,o,aa,na,ca,ea,hai,hil,hra,_,_,_,_⟩:=Zsm (r.same Sk) hgl
  subst hai
  simp only [Zau,Int.toNat_natCast,hra,Zas,Zak,Zar,Zap,Zai,Zba]
  rw [Yla]
  simp only [Zaq]
  refine ⟨by omega,?_⟩
  generalize hkq:k ++ [Zcp.cells Zac [.str w.is[g].1.1,.str w.is[g].1.2,.slice aa na ca ea] false]=kq
  have sq:Zbb k.length k kq:=by rw [← hkq]; exact Zav
  have oq:kq[k.length]?=some (.cells Zac [.str w.is[g].1.1,.str w.is[g].1.2,.slice aa na ca ea] false):=by rw [← hkq]; simp
  have Sq:=Sk.cat sq
  have lSk:=Sk.le
  have lq:kq.length=k.length + 1:=by rw [← hkq]; simp
  have pvq:=pv.same sq
  have plo:=pv.alt (i:=0)
  rw [Zbp (by omega)]
  have hpa:a4≠some (k.length,0):=fun e=>by have:=pv.alt e; omega
  refine Zcr.L6ind (J:=fun (m:Nat) a4 n4 c4 e4 x6 k'=>x6=(m:Int)∧g + 1≤m∧m≤n1∧Zbb h.length h k'∧k'[h.length]?=some (Ztw a0 n0 c0 e0 (some (i,o)) n1 c1 e1)∧k'[k.length]?=some (.cells Zac [.str w.is[g].1.1,.str w.is[g].1.2,.slice aa na ca ea] false)∧a4≠some (k.length,0)∧n4≤c4∧∃ xs,PV (h.length + 1) k' a4 n4 c4 xs (ovW w g ++ ovI w g m)) (m:=fun m=>n1 - m) (hr:=?_) (g:=g + 1)
   (hj:=⟨rfl,by omega,by omega,Sq,sq.get wk (Own.lt wk),oq,hpa,hnc,xs,by rw [Zyd,List.append_nil]; exact pvq⟩) ..
  clear hpa plo pvq hnc pv xs a4 n4 c4 e4
  rintro m a4 n4 c4 e4 x6 k' ⟨rfl,hm0,hm1,Sk',wk',ok',hpa,hnc,xs,pv⟩ R' hR'
  unfold Zcr.L6t
  rw [Zmf wk']
  simp only [Nat.zero_add,List.getElem?_cons_succ,List.getElem?_cons_zero,Zai]
  refine Zaj (fun hlt2=>?_) (fun hge2=>?_)
  ·have hml:m < w.is.length:=by omega
   obtain ⟨i',o',ab,nb,cb,eb,hbi,hil',hrb,_,_,_,_⟩:=Zsm (r.same Sk') hml
   cases hbi
   have hov:=Yci w g m
   have hob:=Ykm hgl hml
   have bd:=bound g (by omega)
   have bd2:=Yai w g m
   have hpn:=pv.num
   rw [List.length_append] at hpn
   rw [Zws ok']
   simp only [Zmf wk',List.getElem?_cons_succ,List.getElem?_cons_zero,Zai,Zau,Int.toNat_natCast,hrb,Zas,Zak,Zar,Zap,Zba,true_and]
   refine ⟨by omega,?_⟩
   have skip:∀ k2,Zbb k'.length k' k2→ovP w.is[g] w.is[m]=false→Zcr.J7 (OvP w h) R R' (m:Int) h.length 0 k.length 0 a4 n4 c4 e4 (g:Int) (g:Int) (n1:Int) (some (i,o)) n1 c1 e1 k2:=by
    intro k2 s2 hno
    apply Zcr.J7i
    rw [Zbp (by omega)]
    refine hR' (m + 1) _ _ _ _ _ _ (by omega) ⟨rfl,by omega,by omega,Sk'.cat s2,s2.get wk' (Own.lt wk'),s2.get ok' (Own.lt ok'),hpa,hnc,xs,?_⟩
    rw [hov,if_neg (by rw [hob,hno]; simp),List.append_nil]
    exact pv.same s2
   refine (Yjn (b.is _ (List.getElem_mem hgl)).2.1 (b.is _ (List.getElem_mem hml)).2.1).mono ?_
   rintro v k2 ⟨rfl,s2⟩
   simp only [Zah]
   refine Zds (fun hap=>?_) (fun hap=>skip _ s2 hap)
   generalize hk3:k2 ++ [Zcp.cells Zjc [.int .i64 (g:Int),.int .i64 (m:Int)] false]=k3
   have s3:Zbb k2.length k2 k3:=by rw [← hk3]; exact Zav
   have o3:k3[k2.length]?=some (.cells Zjc [.int .i64 (g:Int),.int .i64 (m:Int)] false):=by rw [← hk3]; simp
   have S3:=s2.cat s3
   have le3:=S3.le
   have leS:=Sk'.le
   have le2:=s2.le
   have wl:=Own.lt wk'
   have okl:=Own.lt ok'
   have pv3:=pv.same S3
   refine pv3.push (x:=g) (y:=m) (by omega) (by omega) (by omega) (Nat.le_refl _) (fun e=>?_) (fun hm=>?_) o3 (fun k4 hl4 hj4 pv4=>?_)
   ·have:=pv.alt e; omega
   ·have:=pv.in hm; omega
   ·simp only [Zai]
    apply Zcr.J7i
    rw [Zbp (by omega)]
    refine hR' (m + 1) _ _ _ _ _ _ (by omega) ⟨rfl,by omega,by omega,⟨by omega,fun j hj=>?_⟩,?_,?_,fun e=>by simp at e; omega,Nat.le_refl _,xs ++ [(k2.length,2,true)],?_⟩
    ·rw [hj4 j (by omega) (fun e=>by have:=pv.low j e; omega),S3.eq j (by omega)]; exact Sk'.eq j hj
    ·rw [hj4 _ (by omega) (fun e=>by have:=pv.low _ e; omega),S3.eq _ (by omega)]; exact wk'
    ·rw [hj4 _ (by omega) hpa,S3.eq _ (by omega)]; exact ok'
    ·have hyes:g < m∧ovB w g m=true:=⟨by omega,by rw [hob]; exact hap⟩
     rw [hov,if_pos hyes,← List.append_assoc]
     exact pv4
  ·apply Zcr.A6x2i
   have:m=n1:=by omega
   subst this
   rw [Zbp (by omega)]
   refine hR (g + 1) _ _ _ _ _ _ (by omega) ⟨rfl,by omega,Sk',wk',hnc,xs,?_⟩
   rw [Zwl,hl1]; exact pv
 ·apply Zcr.A3x0i
  have:g=n1:=by omega
  subst this
  refine ⟨Sk,a4,n4,c4,e4,xs,rfl,hnc,?_⟩
  unfold Yan
  rw [hl1]
  exact ⟨pv.len,pv.num,pv.vec,fun i hi=>by have:=pv.low i hi; omega,fun k x hx=>by obtain ⟨h1,h2⟩:=pv.el k x hx; exact ⟨by omega,h2⟩,pv.nd⟩
end Go.Sim

set_option linter.unusedVariables false
set_option linter.unusedSimpArgs false
set_option maxRecDepth 20000
namespace Go.Sim
open Go Go.RowKit

def Znl (k:Int) (n:Nat):List Int:=(List.range n).map fun (j:Nat)=>k + j
theorem Zmc (k:Int) (n:Nat):(Znl k n).length=n:=by simp [Znl]
theorem Yds (k:Int) (n:Nat):Znl k (n + 1)=Znl k n ++ [k + n]:=by simp [Znl,List.range_succ]
theorem Yfo (k:Int) {n g:Nat} (h:g < n):(Znl k n)[g]'(by rw [Zmc]; exact h)=k + g:=by simp [Znl]
theorem Yme {L:List Int} {g:Nat} {x:Int} (hg:g < L.length):Zbm (Zdo eI L) (g * 1) [.int .i64 x]=Zdo eI (L.take g ++ x :: L.drop (g + 1)):=by
 have hA:(Zdo eI (L.take g)).length=g:=by rw [Zbg Zrm,List.length_take]; omega
 have h1:Zdo eI L=Zdo eI (L.take g) ++ .int .i64 L[g] :: Zdo eI (L.drop (g + 1)):=by
  have e0:L=L.take g ++ L[g] :: L.drop (g + 1):=by rw [← List.drop_eq_getElem_cons hg,List.take_append_drop]
  have:=congrArg (Zdo eI) e0
  rw [Zij,Zew] at this
  exact this
 rw [Zij,Zew,h1]
 unfold Zbm
 rw [Nat.mul_one]
 generalize Zdo eI (L.take g)=A at *
 subst hA
 rw [List.take_left,show A.length + [Zag.int .i64 x].length=A.length + 1 from rfl,← List.drop_drop,List.drop_left]
 simp [eI]
theorem Zzx {h:Zaa} {b:Nat} {a:Pt} {n c:Nat} {e:Bool} {l:List Int} {k:Int} (f:Zdc Zjc eI b h a n l) (hk:0≤k∧k + n≤4611686018427387000) :
  Zad pg Zkk [.slice a n c e,.int .i64 k] h fun v h'=>v=.int .i64 (k + n)∧Zuf a n h h'∧Zdc Zjc eI b h' a n (Znl k n):=by
 apply Zgi.call
 obtain ⟨hl,hf⟩:=f
 refine Zgi.L2ind _ _ _ _ _ (J:=fun (g:Nat) x1 x5 h'=>x5=(g:Int)∧g≤n∧x1=k + g∧Zuf a n h h'∧(n=0 ∨ ∃ i,a=some (i,0)∧b≤i∧h'[i]?=some (.cells Zjc (Zdo eI (Znl k g ++ l.drop g)) false))) (fun g=>n - g) ?_ 0 _ _ _
  ⟨rfl,by omega,by simp,Zuf.refl _ _ _,by simpa [Znl] using hf⟩
 rintro g x1 x5 h' ⟨rfl,hg,rfl,hO,hst⟩ R hR
 unfold Zgi.L2t
 refine Zaj (fun hlt=>?_) (fun hge=>?_)
 ·rcases hst with h0 | ⟨i,rfl,hbi,ho⟩
  ·omega
  have hn0:n≠0:=by omega
  have hgl:g < (Znl k g ++ l.drop g).length:=by simp [Zmc]; omega
  have hlen:(Zdo eI (Znl k g ++ l.drop g)).length=n:=by rw [Zbg Zrm]; simp [Zmc]; omega
  simp only [Zau,Int.toNat_natCast,Nat.zero_add]
  rw [Zbk ho (by rw [hlen]; simp; omega)]
  simp only [Zaq]
  rw [IntWalk.i64_in _ (by omega),Zbp (by omega),Yme hgl]
  refine ⟨by omega,hR (g + 1) _ _ _ (by omega) ⟨rfl,by omega,by omega,hO.set hn0,.inr ⟨i,rfl,hbi,?_⟩⟩⟩
  rw [Zcc ho]
  congr 3
  rw [List.take_left' (Zmc k g),Yds]
  have:(Znl k g ++ l.drop g).drop (g + 1)=l.drop (g + 1):=by
   rw [← List.drop_drop,List.drop_left' (Zmc k g),List.drop_drop]
  rw [this]; simp
 ·have:g=n:=by omega
  subst this
  apply Zgi.A2x0i
  refine ⟨rfl,hO,Zmc _ _,?_⟩
  rw [List.drop_of_length_le (by omega),List.append_nil] at hst
  exact hst
theorem Yam {h:Zaa} {a:Pt} {n c:Nat} {e:Bool} {k:Int} (r:Row h.length h a n (Zdo eI (Znl k n))) (hk:0≤k∧k + n≤4611686018427387000) :
  Zad pg Zke [.slice a n c e,.int .i64 k] h fun v h'=>v=.int .i64 (k + n)∧h'=h:=by
 apply Zgl.call
 refine Zgl.L2ind _ _ _ _ _ (J:=fun (g:Nat) x1 x5 h'=>x5=(g:Int)∧g≤n∧x1=k + g∧h'=h) (fun g=>n - g) ?_ 0 _ _ _ ⟨rfl,by omega,by simp,rfl⟩
 rintro g x1 x5 h' ⟨rfl,hg,rfl,rfl⟩ R hR
 unfold Zgl.L2t
 refine Zaj (fun hlt=>?_) (fun hge=>?_)
 ·obtain ⟨i,o,hgl,rfl,hi,hc⟩:=Row.el1 Zrm r (k:=g) (by omega)
  rw [Yfo k (by omega)] at hc
  simp only [eI,List.getElem?_cons_zero] at hc
  simp only [Zau,Int.toNat_natCast,hc,Zal,beq_self_eq_true,Bool.not_true,Zay]
  rw [IntWalk.i64_in _ (by omega),Zbp (by omega)]
  exact ⟨by omega,hR (g + 1) _ _ _ (by omega) ⟨rfl,by omega,by omega,rfl⟩⟩
 ·have:g=n:=by omega
  subst this
  exact Zgl.A2x0i _ _ _ ⟨rfl,rfl⟩
end Go.Sim

set_option linter.unusedVariables false
set_option linter.unusedSimpArgs false
set_option maxRecDepth 20000
namespace Go.Sim
open Go Go.RowKit
theorem Zuk {h:Zaa} {b:Nat} {a:Pt} {n c:Nat} {e:Bool} {l:List Nd} {k:Int} (f:Zdc Zbh eP b h a n l) (hk:0≤k∧k + 2 * n≤4611686018427387000) :
  Zad pg Ziq [.slice a n c e,.int .i64 k] h fun v h'=>v=.int .i64 (k + 2 * n)∧Zuf a n h h'∧Zdc Zbh eP b h' a n (Zkm k n):=by
 apply Zex.call
 obtain ⟨hl,hf⟩:=f
 refine Zex.L2ind _ _ _ _ _ (J:=fun (g:Nat) x1 x5 h'=>x5=(g:Int)∧g≤n∧x1=k + 2 * g∧Zuf a n h h'∧(n=0 ∨ ∃ i,a=some (i,0)∧b≤i∧h'[i]?=some (.cells Zbh (Zdo eP (Zkm k g ++ l.drop g)) false))) (fun g=>n - g) ?_ 0 _ _ _
  ⟨rfl,by omega,by simp,Zuf.refl _ _ _,by simpa [Zkm] using hf⟩
 rintro g x1 x5 h' ⟨rfl,hg,rfl,hO,hst⟩ R hR
 unfold Zex.L2t
 refine Zaj (fun hlt=>?_) (fun hge=>?_)
 ·rcases hst with h0 | ⟨i,rfl,hbi,ho⟩
  ·omega
  have hn0:n≠0:=by omega
  have hgl:g < (Zkm k g ++ l.drop g).length:=by simp [Zgx]; omega
  have hlen:(Zdo eP (Zkm k g ++ l.drop g)).length=n * 2:=by rw [Zbg Zha]; simp [Zgx]; omega
  refine (Zir (by omega)).mono ?_
  rintro v h1 ⟨rfl,s1⟩
  simp only [Zap,Zau,Int.toNat_natCast,Nat.zero_add,Nat.add_zero]
  have ho1:h1[i]?=some (.cells Zbh (Zdo eP (Zkm k g ++ l.drop g)) false):=by rw [s1.eq i (Own.lt ho)]; exact ho
  rw [Zbk ho1 (by rw [hlen]; simp; omega)]
  simp only [Zaq]
  refine ⟨by omega,(Zir (by rw [IntWalk.i64_in _ (by omega)]; omega)).mono ?_⟩
  rintro v h2 ⟨rfl,s2⟩
  simp only [Zap]
  rw [IntWalk.i64_in (k + 2 * (g:Int) + 1) (by omega)]
  have ho2:h2[i]?=some (.cells Zbh (Zbm (Zdo eP (Zkm k g ++ l.drop g)) (g * 2) [.str (Zkq (k + 2 * g))]) false):=by rw [s2.eq i (by simp; exact Own.lt ho1)]; exact Zcc ho1
  have hlen2:(Zbm (Zdo eP (Zkm k g ++ l.drop g)) (g * 2) [.str (Zkq (k + 2 * g))]).length=n * 2:=by rw [Zpv (by rw [hlen]; simp; omega),hlen]
  rw [Zbk ho2 (by rw [hlen2]; simp; omega)]
  simp only [Zaq]
  rw [IntWalk.i64_in _ (by omega),Zbp (by omega)]
  refine ⟨by omega,hR (g + 1) _ _ _ (by omega) ⟨rfl,by omega,by omega,((hO.same s1).set hn0 |>.same s2).set hn0,.inr ⟨i,rfl,hbi,?_⟩⟩⟩
  rw [Zcc ho2,Yey hgl]
  congr 3
  rw [List.take_left' (Zgx k g),Zvj]
  have:(Zkm k g ++ l.drop g).drop (g + 1)=l.drop (g + 1):=by
   rw [← List.drop_drop,List.drop_left' (Zgx k g),List.drop_drop]
  rw [this]; simp
 ·have:g=n:=by omega
  subst this
  apply Zex.A2x0i
  refine ⟨rfl,hO,Zgx _ _,?_⟩
  rw [List.drop_of_length_le (by omega),List.append_nil] at hst
  exact hst
theorem Yhh {cs:List Zag} {o:Nat} {v:Zag} (h:o < cs.length):Zbm cs o [v]=cs.set o v:=by
 unfold Zbm; rw [List.set_eq_take_append_cons_drop,if_pos h]; simp
theorem Zwp {h:Zaa} {i j:Nat} {t t':TypeId} {cs cs':List Zag} (hi:h[i]?=some (.cells t cs false)) (hj:h[j]?=some (.cells t' cs' false)) (ht:t≠t'):i≠j:=by
 intro e; subst e; rw [hi] at hj; cases hj; exact ht rfl
theorem Yoh:Zac≠Zbl:=by decide
theorem Zdc.off {α:Type} {ty:TypeId} {enc:α→List Zag} {b:Nat} {h h':Zaa} {a:Pt} {n:Nat} {l:List α} (f:Zdc ty enc b h a n l) (hk:∀ i,a=some (i,0)→n≠0→i < h.length→h'[i]?=h[i]?):Zdc ty enc b h' a n l:=by
 obtain ⟨hl,h0 | ⟨i,ha,hb,hi⟩⟩:=f
 ·exact ⟨hl,.inl h0⟩
 ·by_cases hn:n=0
  ·exact ⟨hl,.inl hn⟩
  ·exact ⟨hl,.inr ⟨i,ha,hb,by rw [hk i ha hn (Own.lt hi)]; exact hi⟩⟩
theorem Zrz {h:Zaa} {b n c:Nat} {e:Bool} {a:Pt} {ys:List EI} {is:List Ins} {k:Int} (f:Zdc Zac eN b h a n ys) (hl:ys.length=is.length) (hn20:n≤1048576) (hi20:∀ i∈is,i.2.length≤1048576)
  (hN:∀ (k:Nat) (x:EI) (i:Ins),ys[k]?=some x→is[k]?=some i→Zdc Zbl eP b h x.a x.n i.2) (sep:∀ (j k:Nat) (x y:EI),j≠k→ys[j]?=some x→ys[k]?=some y→x.n≠0→y.n≠0→x.a≠y.a)
  {H:Nat} (hH:∀ i,a=some (i,0)→n≠0→i < H) (hHn:∀ (q:Nat) (x:EI),ys[q]?=some x→∀ j,x.a=some (j,0)→x.n≠0→j < H)
  (hk:0≤k∧k≤4398046511104):Zad pg Zgt [.slice a n c e,.int .i64 k] h fun v h'=>(∃ z,v=.int .i64 z∧0≤z∧z≤13194139533312)∧Mid b H h h':=by
 apply Zef.call
 obtain ⟨hyl,hf⟩:=f
 refine Zef.L2ind _ _ _ _ _ (J:=fun (g:Nat) x1 x5 h'=>x5=(g:Int)∧g≤n∧0≤x1∧x1≤k + g * 2097160∧Mid b H h h' ∧
   (n=0 ∨ ∃ i cs,a=some (i,0)∧b≤i∧i < H∧h'[i]?=some (.cells Zac cs false)∧cs.length=n * 3∧∀ (q:Nat) (x:EI),ys[q]?=some x→cs[q * 3 + 2]?=some (.slice x.a x.n x.cp x.e)) ∧
   (∀ (q:Nat) (x:EI) (i:Ins),g≤q→ys[q]?=some x→is[q]?=some i→Zdc Zbl eP b h' x.a x.n i.2∧∀ j,x.a=some (j,0)→x.n≠0→j < H)) (fun g=>n - g) ?_ 0 _ _ _
  ⟨rfl,by omega,hk.1,by omega,Mid.refl _ _ _,?_,?_⟩
 ·rintro g x1 x5 h' ⟨rfl,hg,h0,hx1,hM,hst,hrow⟩ R hR
  unfold Zef.L2t
  refine Zaj (fun hlt=>?_) (fun hge=>?_)
  ·rcases hst with hz | ⟨i,cs,rfl,hbi,hih,hi,hcl,hsl⟩
   ·omega
   have hgy:g < ys.length:=by omega
   have hgi:g < is.length:=by omega
   have hB:(g:Int) * 2097160≤1048576 * 2097160:=by omega
   have hlm:=hM.1
   refine (Zir (by omega)).mono ?_
   rintro v h1 ⟨rfl,s1⟩
   simp only [Zap,Zau,Int.toNat_natCast,Nat.zero_add,Nat.add_zero]
   have i1:=s1.get hi (Own.lt hi)
   rw [Zbk i1 (by rw [hcl]; simp; omega),Yhh (by rw [hcl]; omega)]
   simp only [Zaq]
   refine ⟨by omega,(Zir (by rw [IntWalk.i64_in _ (by omega)]; omega)).mono ?_⟩
   rintro v h2 ⟨rfl,s2⟩
   simp only [Zap]
   have i2:=s2.get (Zcc i1 (x:=.cells Zac (cs.set (g * 3) (.str (Zkq x1))) false)) (by simp; exact Own.lt i1)
   rw [Zbk i2 (by rw [List.length_set,hcl]; simp; omega),Yhh (by rw [List.length_set,hcl]; omega)]
   simp only [Zaq]
   have i3:=Zcc i2 (x:=.cells Zac ((cs.set (g * 3) (.str (Zkq x1))).set (g * 3 + 1) (.str (Zkq (IntKind.wrap .i64 (x1 + 1))))) false)
   have hcell:((cs.set (g * 3) (.str (Zkq x1))).set (g * 3 + 1) (.str (Zkq (IntKind.wrap .i64 (x1 + 1)))))[g * 3 + 2]?=some (.slice ys[g].a ys[g].n ys[g].cp ys[g].e):=by
    rw [List.getElem?_set_ne (by omega),List.getElem?_set_ne (by omega)]
    exact hsl g ys[g] (List.getElem?_eq_getElem hgy)
   refine ⟨by omega,by omega,?_⟩
   rw [Zan i3,hcell]
   simp only [Zai]
   rw [IntWalk.i64_in (x1 + 1) (by omega),IntWalk.i64_in (x1 + 1 + 1) (by omega)] at *
   generalize hh3:h2.set i (.cells Zac ((cs.set (g * 3) (.str (Zkq x1))).set (g * 3 + 1) (.str (Zkq (x1 + 1)))) false)=h3 at *
   have M3:Mid b H h h3:=by
    rw [← hh3]
    exact ((((hM.same s1).set hbi hih).same s2).set hbi hih)
   have oth:∀ j,j≠i→j < h'.length→h3[j]?=h'[j]?:=fun j hj hjl=>by
    rw [← hh3,Zbv (Ne.symm hj),s2.eq j (by simp; have:=s1.le; omega),Zbv (Ne.symm hj),s1.eq j hjl]
   have hrow3:∀ (q:Nat) (x:EI) (ii:Ins),g≤q→ys[q]?=some x→is[q]?=some ii→Zdc Zbl eP b h3 x.a x.n ii.2∧∀ j,x.a=some (j,0)→x.n≠0→j < H:=fun q x ii hq hx hii=>by
    obtain ⟨p1,p2⟩:=hrow q x ii hq hx hii
    refine ⟨p1.off fun j ha hn hj=>oth j (fun e=>?_) hj,p2⟩
    subst e
    rcases p1.2 with h0 | ⟨j',ha',_,hj'⟩
    ·exact hn h0
    ·rw [ha] at ha'; cases ha'
     exact Zwp hi hj' Yoh rfl
   obtain ⟨p1,p2⟩:=hrow3 g ys[g] is[g] (Nat.le_refl _) (List.getElem?_eq_getElem hgy) (List.getElem?_eq_getElem hgi)
   have hlen:=hi20 is[g] (List.getElem_mem hgi)
   have hpn:=p1.1
   refine (Zxt p1 (k:=x1 + 1 + 1) (by omega)).mono ?_
   rintro v h4 ⟨rfl,o4,f4⟩
   simp only [Zal]
   rw [Zbp (by omega)]
   have i4:h4[i]?=some (.cells Zac ((cs.set (g * 3) (.str (Zkq x1))).set (g * 3 + 1) (.str (Zkq (x1 + 1)))) false):=by
    rw [o4.2 i (Own.lt i3) fun j hj hn=>?_]; exact i3
    rcases p1.2 with h0 | ⟨j',ha',_,hj'⟩
    ·exact absurd h0 hn
    ·rw [hj] at ha'; cases ha'
     exact Zwp i3 hj' Yoh
   refine hR (g + 1) _ _ _ (by omega) ⟨rfl,by omega,by omega,by push_cast; omega,M3.trans ?_,.inr ⟨i,_,rfl,hbi,hih,i4,by simp [hcl],fun q x hx=>?_⟩,fun q x ii hq hx hii=>?_⟩
   ·refine ⟨o4.1,fun j hj hn=>o4.2 j hj fun q hq h0=>?_⟩
    have:=p2 q hq h0
    rcases p1.2 with hz | ⟨j',ha',hb',_⟩
    ·exact absurd hz h0
    ·rw [hq] at ha'; cases ha'; omega
   ·rw [List.getElem?_set_ne (by omega),List.getElem?_set_ne (by omega)]
    exact hsl q x hx
   ·obtain ⟨r1,r2⟩:=hrow3 q x ii (by omega) hx hii
    refine ⟨r1.off fun j ha hn hj=>o4.2 j hj fun q' hq' h0=>?_,r2⟩
    intro e; subst e
    exact sep g q ys[g] x (by omega) (List.getElem?_eq_getElem hgy) hx h0 hn (by rw [hq',ha])
  ·apply Zef.A2x0i
   exact ⟨⟨_,rfl,h0,by omega⟩,hM⟩
 ·rcases hf with h0 | ⟨i,ha,hbi,hi⟩
  ·exact .inl h0
  by_cases hn0:n=0
  ·exact .inl hn0
  refine .inr ⟨i,_,ha,hbi,hH i ha hn0,hi,by rw [Zbg Ztx,hyl],fun q x hx=>?_⟩
  have hq:=(List.getElem?_eq_some_iff.1 hx).1
  have hd:=Yaj Ztx ys q
  have h2:(Zdo eN ys)[q * 3 + 2]?=((Zdo eN ys).drop (q * 3))[2]?:=by rw [List.getElem?_drop]
  rw [h2,hd,List.drop_eq_getElem_cons hq,Zew]
  have:ys[q]=x:=by rw [List.getElem?_eq_getElem hq] at hx; exact Option.some.inj hx
  rw [this]; rfl
 ·intro q x i _ hx hii
  refine ⟨hN q x i hx hii,fun j ha hn=>?_⟩
  exact hHn q x hx j ha hn
structure Yqb (H:Nat) (a0:Pt) (n0:Nat) (a1:Pt) (n1:Nat) (ys:List EI):Prop where
 cls:∀ i,a0=some (i,0)→n0≠0→i < H
 ins:∀ i,a1=some (i,0)→n1≠0→i < H
 need:∀ (q:Nat) (x:EI),ys[q]?=some x→∀ j,x.a=some (j,0)→x.n≠0→j < H
theorem Znf.bel {b:Nat} {h:Zaa} {a0 a1:Pt} {n0 n1:Nat} {ys:List EI} {w:Wd} (f:Znf b h a0 n0 a1 n1 ys w):Yqb h.length a0 n0 a1 n1 ys:=
 ⟨fun i hi hn=>(f.cls.in i hi hn).2,fun i hi hn=>(f.ins.in i hi hn).2,fun q x hx j hj hn=>by
  have hq:=(List.getElem?_eq_some_iff.1 hx).1
  exact ((f.need q x (w.is[q]'(by have:=f.len; omega)) hx (List.getElem?_eq_getElem _)).2.2.in j hj hn).2⟩
theorem Zzj {h:Zaa} {b n0 c0 n1 c1:Nat} {e0 e1:Bool} {a0 a1:Pt} {ys:List EI} {w:Wd} {k:Int} (f:Znf b h a0 n0 a1 n1 ys w) (hb:WB w) {H:Nat} (hH:Yqb H a0 n0 a1 n1 ys) (hHl:H≤h.length) (hk:0≤k∧k≤1048576) :
  Zad pg Zjh [.agg [.slice a0 n0 c0 e0,.slice a1 n1 c1 e1],.int .i64 k] h fun v h'=>(∃ z,v=.int .i64 z∧0≤z∧z≤13194139533312)∧Mid b H h h':=by
 have hl0:=f.cls.1
 have hl1:=f.ins.1
 have hlc:=hb.lc
 have hli:=hb.li
 have hyl:=f.len
 apply Zng.call
 simp only [Zba]
 generalize hh0:h ++ [Zcp.cells Zao [.slice a0 n0 c0 e0,.slice a1 n1 c1 e1] false]=h0
 have s0:Zbb h.length h h0:=by rw [← hh0]; exact Zav
 have w0:h0[h.length]?=some (Ztw a0 n0 c0 e0 a1 n1 c1 e1):=by rw [← hh0]; simp [Ztw]
 simp only [Zmf w0,Nat.zero_add,List.getElem?_cons_succ,List.getElem?_cons_zero,Zai]
 have f0:=f.same s0
 refine (Zuk f0.cls (by omega)).mono ?_
 rintro v h2 ⟨rfl,o2,g2⟩
 simp only [Zal]
 have hin:=f.cls.in
 have w2:h2[h.length]?=some (Ztw a0 n0 c0 e0 a1 n1 c1 e1):=by
  rw [o2.2 _ (Own.lt w0) fun j hj hn=>by have:=(hin j hj hn).2; omega]; exact w0
 simp only [Zmf w2,Nat.zero_add,List.getElem?_cons_succ,List.getElem?_cons_zero,Zai]
 have M2:Mid b H h h2:=(Mid.of_same s0).trans (o2.mid fun i hi hn=>⟨(hin i hi hn).1,hH.cls i hi hn⟩)
 have offC:∀ (ty:TypeId),ty≠Zbh→∀ {α:Type} {enc:α→List Zag} {a:Pt} {n:Nat} {l:List α},Zdc ty enc b h0 a n l→Zdc ty enc b h2 a n l:=fun ty hty α enc a n l p=>p.off fun j ha hn hj=>o2.2 j hj fun q hq h0 e=>by
  subst e
  rcases p.2 with hz | ⟨j',ha',_,hj'⟩
  ·exact hn hz
  ·rw [ha] at ha'; cases ha'
   rcases f0.cls.2 with hz | ⟨j',ha',_,hj''⟩
   ·exact h0 hz
   ·rw [hq] at ha'; cases ha'
    exact Zwp hj' hj'' hty rfl
 have n1:Zac≠Zbh:=by decide
 have n2:Zbl≠Zbh:=by decide
 refine (Zrz (offC _ n1 f0.ins) hyl (by omega) (fun i hi=>(hb.is i hi).2.2.1) (fun k x i hx hi=>offC _ n2 (f0.need k x i hx hi).2.2) f.sep hH.ins hH.need (by omega)).mono ?_
 rintro v h3 ⟨⟨z,rfl,hz0,hz1⟩,M3⟩
 simp only [Zal]
 exact ⟨⟨z,rfl,hz0,hz1⟩,M2.trans M3⟩
end Go.Sim

set_option linter.unusedVariables false
namespace Go.Sim
open Go Go.RowKit
end Go.Sim

set_option linter.unusedVariables false
set_option linter.unusedSimpArgs false
set_option maxRecDepth 20000
namespace Go.Sim
open Go Go.RowKit
section
variable {lo n c:Nat} {h h':Zaa} {a:Pt} {xs:List (Nat × Nat × Bool)} {l:List (Nat × Nat)}
theorem PV.get (p:PV lo h a n c xs l) {k:Nat} (hk:k < n):∃ (i q cq:Nat) (eq:Bool) (x:Nat × Nat),a=some (i,0)∧Zaf h (.ptr (some (i,0 + k * 1)))=some (.slice (some (q,0)) 2 cq eq)∧xs[k]?=some (q,cq,eq)∧l[k]?=some x∧lo≤q∧2≤cq∧a≠some (q,0) ∧
  h[q]?=some (.cells Zjc [.int .i64 (x.1:Int),.int .i64 (x.2:Int)] false):=by
 have hx:k < xs.length:=by rw [p.len,← p.num]; exact hk
 obtain ⟨x1,x2,x3,hxe⟩:∃ x1 x2 x3,xs[k]=(x1,x2,x3):=⟨_,_,_,rfl⟩
 have hxk:xs[k]?=some (x1,x2,x3):=by rw [List.getElem?_eq_getElem hx,hxe]
 obtain ⟨h1,h2,h3,x,h4,h5⟩:=p.el k _ hxk
 rcases p.vec with ⟨_,h0,_,_⟩ | ⟨i,ha,hi⟩
 ·omega
 ·have r:=p.vec.row (m:=n) (by rw [Zbg Yaq,p.len,p.num]; omega)
  obtain ⟨i',o,hk',ha',_,hc⟩:=Row.el1 Yaq r hk
  rw [ha] at ha'
  simp only [Option.some.injEq,Prod.mk.injEq] at ha'
  obtain ⟨rfl,rfl⟩:=ha'
  exact ⟨i,x1,x2,x3,x,ha,by rw [hc,hxe]; rfl,hxk,h4,h1,h2,h3,h5⟩
theorem Zvw {q x y:Nat} (ho:h[q]?=some (.cells Zjc [.int .i64 (x:Int),.int .i64 (y:Int)] false)):Row h.length h (some (q,0)) 2 (Zdo eI [(x:Int),(y:Int)]):=
 ⟨rfl,.inr ⟨q,0,Zjc,_,false,rfl,Own.lt ho,ho,by simp,by rfl⟩⟩
theorem Zra {a':Pt} {lo' n' c':Nat} {xs':List (Nat × Nat × Bool)} {e e':Bool} (p:PV lo h a n c xs l) (p':PV lo' h a' n' c' xs' l) (hn:n≤1000) :
  Zad pg Zgz [.slice a n c e,.slice a' n' c' e'] h fun v h'=>v=.bool true∧Zbb h.length h h':=by
 have h1:=p.num
 have h2:=p'.num
 obtain rfl:n'=n:=by omega
 apply Zhc.call
 simp only [beq_self_eq_true,Bool.not_true,Zay]
 refine Zhc.L4ind (J:=fun (g:Nat) x5 k=>x5=(g:Int)∧g≤n'∧k=h) (m:=fun g=>n' - g) (hr:=?_) (g:=0) (hj:=⟨rfl,by omega,rfl⟩) ..
 rintro g x5 k ⟨rfl,hg,rfl⟩ R hR
 unfold Zhc.L4t
 refine Zaj (fun hlt=>?_) (fun hge=>Zhc.A4x0i _ _ ⟨rfl,Zbb.refl _ _⟩)
 obtain ⟨i,q,cq,eq,x,rfl,hc,_,hl1,_,_,_,ho⟩:=p.get (k:=g) (by omega)
 obtain ⟨i',q',cq',eq',x',rfl,hc',_,hl2,_,_,_,ho'⟩:=p'.get (k:=g) (by omega)
 rw [hl1] at hl2
 cases hl2
 simp only [Zau,Int.toNat_natCast,hc,hc',Zai,true_and]
 refine ⟨by omega,by omega,(Ygr (Zvw ho) (Zvw ho') (by omega) rfl).mono ?_⟩
 rintro v k2 ⟨rfl,rfl⟩
 simp only [Zah,Bool.not_true,Zay]
 rw [Zbp (by omega)]
 exact hR (g + 1) _ _ (by omega) ⟨rfl,by omega,rfl⟩
def Znb (n:Nat):List (Nat × Nat):=(List.range n).map fun j=>(1 + 2 * j,2 + 2 * j)
theorem Zfs (n:Nat):(Znb n).length=n:=by simp [Znb]
theorem Zti (n:Nat):Znb (n + 1)=Znb n ++ [(1 + 2 * n,2 + 2 * n)]:=by simp [Znb,List.range_succ]
theorem Zyz {e:Bool} (p:PV lo h a n c xs l) (hn:n≤1000) :
  Zad pg Zjk [.slice a n c e,.int .i64 1] h fun v h'=>v=.int .i64 ((1 + 2 * n:Nat):Int)∧Zbb lo h h'∧PV lo h' a n c xs (Znb n):=by
 have hnum:=p.num
 apply Zfm.call
 refine Zfm.L2ind (J:=fun (g:Nat) x1 x5 k=>x5=(g:Int)∧g≤n∧x1=((1 + 2 * g:Nat):Int)∧Zbb lo h k∧PV lo k a n c xs (Znb g ++ l.drop g)) (m:=fun g=>n - g) (hr:=?_) (g:=0) (hj:=⟨rfl,by omega,rfl,Zbb.refl _ _,by simpa [Znb] using p⟩) ..
 rintro g x1 x5 k ⟨rfl,hg,rfl,Sk,pk⟩ R hR
 unfold Zfm.L2t
 refine Zaj (fun hlt=>?_) (fun hge=>?_)
 ·obtain ⟨i,q,cq,eq,x,rfl,hc,hxk,hl1,hlo,_,hne,ho⟩:=pk.get (k:=g) (by omega)
  simp only [Zau,Int.toNat_natCast,hc,Zai]
  have F:Zdc Zjc eI lo k (some (q,0)) 2 [(x.1:Int),(x.2:Int)]:=⟨rfl,.inr ⟨q,rfl,hlo,ho⟩⟩
  refine ⟨by omega,(Zzx F (k:=((1 + 2 * g:Nat):Int)) (by omega)).mono ?_⟩
  rintro v k2 ⟨rfl,o2,F2⟩
  simp only [Zal]
  rw [Zbp (by omega)]
  have ho2:k2[q]?=some (.cells Zjc [.int .i64 ((1 + 2 * g:Nat):Int),.int .i64 ((2 + 2 * g:Nat):Int)] false):=by
   rcases F2.2 with h0 | ⟨j,hj,_,hj2⟩
   ·omega
   ·cases hj
    rw [hj2]
    simp [Znl,Zdo,eI,List.range_succ]
    omega
  have oth:∀ j,j < k.length→j≠q→k2[j]?=k[j]?:=fun j hj hjq=>o2.2 j hj fun i hi _ e=>by cases hi; exact hjq e
  have hil:i < k.length:=pk.alt rfl
  have hiq:i≠q:=fun e=>hne (by rw [e])
  have hpl:(Znb g ++ l.drop g).length=n:=by simp [Zfs]; omega
  refine hR (g + 1) _ _ _ (by omega) ⟨rfl,by omega,by omega,⟨Nat.le_trans Sk.le o2.1,fun j hj=>?_⟩,?_⟩
  ·by_cases hjk:j < k.length
   ·rw [oth j hjk (by omega)]; exact Sk.eq j hj
   ·have:=Sk.le
    have h1:k2[j]?=none ∨ True:=.inr trivial
    exfalso
    have:=Own.lt ho
    omega
  ·have hlen2:(Znb (g + 1) ++ l.drop (g + 1)).length=n:=by simp [Zfs]; omega
   refine ⟨by rw [hlen2,pk.len,hpl],hlen2.symm,?_,pk.low,fun k' z hz=>?_,pk.nd⟩
   ·exact pk.vec.agree fun i' hi'=>by cases hi'; exact oth i hil hiq
   ·obtain ⟨h1,h2,h3,r,h4,h5⟩:=pk.el k' z hz
    refine ⟨h1,h2,h3,?_⟩
    by_cases hk':k'=g
    ·subst hk'
     rw [hxk] at hz
     cases hz
     exact ⟨(1 + 2 * k',2 + 2 * k'),by rw [Zti,List.append_assoc,List.getElem?_append_right (by rw [Zfs]; exact Nat.le_refl _),Zfs]; simp,ho2⟩
    ·refine ⟨r,?_,?_⟩
     ·by_cases hlt':k' < g
      ·rw [List.getElem?_append_left (by rw [Zfs]; exact hlt')] at h4
       rw [Zti,List.append_assoc,List.getElem?_append_left (by rw [Zfs]; exact hlt')]; exact h4
      ·rw [List.getElem?_append_right (by rw [Zfs]; omega),Zfs,List.getElem?_drop] at h4
       rw [List.getElem?_append_right (by rw [Zfs]; omega),Zfs,List.getElem?_drop]
       rw [← h4]; congr 1; omega
     ·rw [oth _ (Own.lt h5) fun e=>?_]; exact h5
      have hz1:(xs.map (·.1))[k']?=some z.1:=by rw [List.getElem?_map,hz]; rfl
      have hg1:(xs.map (·.1))[g]?=some q:=by rw [List.getElem?_map,hxk]; rfl
      rw [e] at hz1
      obtain ⟨b1,c1⟩:=List.getElem?_eq_some_iff.1 hz1
      obtain ⟨b2,c2⟩:=List.getElem?_eq_some_iff.1 hg1
      exact hk' ((List.getElem_inj (h₀:=b1) (h₁:=b2) pk.nd).1 (c1.trans c2.symm))
 ·apply Zfm.A2x0i
  have:g=n:=by omega
  subst this
  rw [List.drop_of_length_le (by omega),List.append_nil] at pk
  exact ⟨rfl,Sk,pk⟩
theorem Zrn {e:Bool} (p:PV lo h a n c xs (Znb n)) (hn:n≤1000) :
  Zad pg Zhk [.slice a n c e,.int .i64 1] h fun v h'=>v=.int .i64 ((1 + 2 * n:Nat):Int)∧Zbb h.length h h':=by
 apply Zfo.call
 refine Zfo.L2ind (J:=fun (g:Nat) x1 x5 k=>x5=(g:Int)∧g≤n∧x1=((1 + 2 * g:Nat):Int)∧k=h) (m:=fun g=>n - g) (hr:=?_) (g:=0) (hj:=⟨rfl,by omega,rfl,rfl⟩) ..
 rintro g x1 x5 k ⟨rfl,hg,rfl,rfl⟩ R hR
 unfold Zfo.L2t
 refine Zaj (fun hlt=>?_) (fun hge=>?_)
 ·obtain ⟨i,q,cq,eq,x,rfl,hc,hxk,hl1,hlo,_,hne,ho⟩:=p.get (k:=g) (by omega)
  simp only [Zau,Int.toNat_natCast,hc,Zai]
  have hx:x=(1 + 2 * g,2 + 2 * g):=by
   unfold Znb at hl1
   rw [List.getElem?_map,List.getElem?_range (by omega)] at hl1
   exact (Option.some.inj hl1).symm
  subst hx
  have r:Row k.length k (some (q,0)) 2 (Zdo eI (Znl ((1 + 2 * g:Nat):Int) 2)):=by
   have:=Zvw ho
   have e1:Znl ((1 + 2 * g:Nat):Int) 2=[((1 + 2 * g:Nat):Int),((2 + 2 * g:Nat):Int)]:=by
    simp [Znl,List.range_succ]; omega
   rw [e1]; exact this
  refine ⟨by omega,(Yam r (by omega)).mono ?_⟩
  rintro v k2 ⟨rfl,rfl⟩
  simp only [Zal]
  refine Zaj (fun hneg=>by omega) (fun _=>?_)
  rw [Zbp (by omega)]
  exact hR (g + 1) _ _ _ (by omega) ⟨rfl,by omega,by omega,rfl⟩
 ·apply Zfo.A2x0i
  have:g=n:=by omega
  subst this
  exact ⟨rfl,Zbb.refl _ _⟩
theorem PV.mid {H T:Nat} (p:PV lo h a n c xs l) (m:Mid H T h h') (hT:T≤lo):PV lo h' a n c xs l:=⟨p.len,p.num,p.vec.agree fun i hi=>m.2 i (p.alt hi) (.inr (by have:=p.low i hi; omega)),p.low,fun k x hx=>by
 obtain ⟨h1,h2,h3,q,h4,h5⟩:=p.el k x hx
 exact ⟨h1,h2,h3,q,h4,by rw [m.2 _ (Own.lt h5) (.inr (by omega))]; exact h5⟩,p.nd⟩
theorem Zzz {e:Bool} (p:PV lo h a n c xs l) (hn:n≤1000) :
  Zad pg Zfa [.slice a n c e] h fun v h'=>Zbb h.length h h'∧∃ a' c' e' xs',v=.slice a' n c' e'∧n≤c'∧PV h.length h' a' n c' xs' l:=by
 have hnum:=p.num
 apply Zdl.call
 simp only [Zba]
 generalize hh0:h ++ [Zcp.cells Zel [] false]=h0
 have s0:Zbb h.length h h0:=by rw [← hh0]; exact Zav
 have o0:h0[h.length]?=some (.cells Zel [] false):=by rw [← hh0]; simp
 refine Zdl.L3ind (J:=fun (g:Nat) a3 n3 c3 e3 x9 k=>x9=(g:Int)∧g≤n∧Zbb h.length h k∧n3=g∧n3≤c3∧∃ xs',PV h.length k a3 n3 c3 xs' (l.take g)) (m:=fun g=>n - g) (hr:=?_) (g:=0)
  (hj:=⟨rfl,by omega,s0,rfl,Nat.le_refl _,[],rfl,rfl,Vec.mk1 o0,fun i hi=>by cases hi; omega,fun k x hx=>(by simp at hx),by simp⟩) ..
 rintro g a3 n3 c3 e3 x9 k ⟨rfl,hg,Sk,rfl,hnc,xs',pk⟩ R hR
 unfold Zdl.L3t
 refine Zaj (fun hlt=>?_) (fun hge=>?_)
 ·obtain ⟨i,q,cq,eq,x,rfl,hc,hxk,hl1,hlo,_,hne,ho⟩:=(p.same Sk).get (k:=n3) (by omega)
  simp only [Zau,Int.toNat_natCast,hc,Zai,Zba]
  refine ⟨by omega,?_⟩
  generalize hk1:k ++ [Zcp.cells Zjc [] false]=k1
  have s1:Zbb k.length k k1:=by rw [← hk1]; exact Zav
  have o1:k1[k.length]?=some (.cells Zjc [] false):=by rw [← hk1]; simp
  have l1:k1.length=k.length + 1:=by rw [← hk1]; simp
  have hq1:=s1.get ho (Own.lt ho)
  have lk:=Sk.le
  refine (Vec.mk1 o1 (n:=0) (c:=0)).app (sz:=1) (new:=[.int .i64 (x.1:Int),.int .i64 (x.2:Int)]) Ymf Ypf Ypd Ypi rfl (by simp [rowOf,Zbo,hq1]) rfl (by omega) (by omega) (fun k2 hl2 hi2 hj2=>?_)
  simp only [Zai]
  have S2:Zbb k.length k k2:=⟨by omega,fun j hj=>by rw [hj2 j (by omega) fun i hi=>by cases hi; omega,s1.eq j hj]⟩
  have p2:=pk.same S2
  refine p2.push (x:=x.1) (y:=x.2) (by omega) (by omega) (by omega) (by omega) (fun e=>?_) (fun hm=>?_) (by simpa using hi2) (fun k3 hl3 hj3 pv3=>?_)
  ·have:=pk.alt e; omega
  ·have:=pk.in hm; omega
  ·simp only [Zai]
   rw [Zbp (by omega)]
   refine hR (n3 + 1) _ _ _ _ _ _ (by omega) ⟨rfl,by omega,⟨by omega,fun j hj=>?_⟩,rfl,Nat.le_refl _,xs' ++ [(k1.length,0 + 2,false)],?_⟩
   ·rw [hj3 j (by omega) (fun e=>by have:=pk.low j e; omega),S2.eq j (by omega)]; exact Sk.eq j hj
   ·have:l.take (n3 + 1)=l.take n3 ++ [(x.1,x.2)]:=by
     obtain ⟨b,hb⟩:=List.getElem?_eq_some_iff.1 hl1
     rw [List.take_succ_eq_append_getElem b,hb]
    rw [this]
    exact pv3
 ·apply Zdl.A3x0i
  have:n3=n:=by omega
  subst this
  rw [List.take_of_length_le (by omega)] at pk
  exact ⟨Sk,a3,c3,e3,xs',rfl,hnc,pk⟩
end
theorem Yhr {w:Wd} (b1:Zhl w=true):(Yan w).length≤100:=by
 have hl10:=Zpd b1
 have h1:=Zwx w w.is.length
 have h2:w.is.length * w.is.length≤10 * 10:=Nat.mul_le_mul hl10 hl10
 unfold Yan; omega
theorem Ygy (w:Wd):(if Zhl w then Yan w else []).length≤100:=by
 split
 ·rename_i h; exact Yhr h
 ·simp
theorem Zud {h:Zaa} {a0 a1:Pt} {n0 c0 n1 c1:Nat} {e0 e1:Bool} {w:Wd} (r:Zqk h a0 n0 c0 a1 n1 c1 w) (b:WB w) :
  Zad pg Zit [.agg [.slice a0 n0 c0 e0,.slice a1 n1 c1 e1]] h (OvQ w h):=by
 apply Zlp.call
 simp only [Zba]
 generalize hh0:h ++ [Zcp.cells Zao [.slice a0 n0 c0 e0,.slice a1 n1 c1 e1] false]=h0
 have s0:Zbb h.length h h0:=by rw [← hh0]; exact Zav
 have w0:h0[h.length]?=some (Ztw a0 n0 c0 e0 a1 n1 c1 e1):=by rw [← hh0]; simp [Ztw]
 rw [Ykz w0]
 simp only [Zas,Zak,Zar,Zai]
 have raw:Zad pg Zfu [.agg [.slice a0 n0 c0 e0,.slice a1 n1 c1 e1]] h0 (OvQ w h0):=by
  have r0:=r.same s0
  apply Zih.call
  simp only [Zba]
  generalize hh2:h0 ++ [Zcp.cells Zao [.slice a0 n0 c0 e0,.slice a1 n1 c1 e1] false]=h2
  have s2:Zbb h0.length h0 h2:=by rw [← hh2]; exact Zav
  have w2:h2[h0.length]?=some (Ztw a0 n0 c0 e0 a1 n1 c1 e1):=by rw [← hh2]; simp [Ztw]
  rw [Ykz w2]
  simp only [Zas,Zak,Zar,Zai]
  refine (Zun (r0.same s2) b).mono ?_
  rintro v h3 ⟨rfl,s3⟩
  have S3:=s2.cat s3
  have l3:=S3.le
  simp only [Zah]
  refine Zck (fun b1=>⟨S3.cat Zav,_,0,0,true,[],by rw [b1],Nat.le_refl _,by rw [b1]; exact ⟨rfl,rfl,Vec.mk1 (by simp [Zdo]),fun i hi=>(by cases hi; omega),fun k x hx=>(by simp at hx),by simp⟩⟩) (fun b1=>?_)
  rw [Ykz (s3.get w2 (Own.lt w2))]
  simp only [Zas,Zak,Zar,Zai]
  refine (Zwc (r0.same S3) b b1).mono ?_
  rintro v h4 ⟨s4,a,n,c,e,xs,rfl,hnc,pv⟩
  simp only [Zai]
  refine ⟨S3.cat s4,a,n,c,e,xs,by rw [b1],hnc,?_⟩
  rw [b1,if_pos rfl]
  exact ⟨pv.len,pv.num,pv.vec,fun i hi=>by have:=pv.low i hi; omega,fun k x hx=>by obtain ⟨h1,h2⟩:=pv.el k x hx; exact ⟨by omega,h2⟩,pv.nd⟩
 refine raw.mono ?_
 rintro v h1 ⟨s1,a,n,c,e,xs,rfl,hnc,pv⟩
 simp only [Zdw,Zak,Zai,Zah,Zar]
 have hlen:=Ygy w
 have hnum:=pv.num
 have S1:=s0.cat s1
 have l1:=S1.le
 refine (Zzz pv (by omega)).mono ?_
 rintro v h2 ⟨s2,a',c',e',xs',rfl,hnc',pv'⟩
 simp only [Zai]
 exact ⟨S1.cat s2,a',n,c',e',xs',rfl,hnc',pv'.len,pv'.num,pv'.vec,fun i hi=>by have:=pv'.low i hi; omega,fun k x hx=>by obtain ⟨h1,h2⟩:=pv'.el k x hx; exact ⟨by omega,h2⟩,pv'.nd⟩
end Go.Sim

set_option linter.unusedVariables false
set_option linter.unusedSimpArgs false
set_option maxRecDepth 20000
namespace Go.Sim
open Go Go.RowKit

theorem lawOverlapsOf {h:Zaa} {a0 a1:Pt} {n0 c0 n1 c1:Nat} {e0 e1:Bool} {w:Wd} (r:Zqk h a0 n0 c0 a1 n1 c1 w) (hb:Yny w) :
  Zad pg Zhr [.agg [.slice a0 n0 c0 e0,.slice a1 n1 c1 e1]] h fun v _=>v=.bool true:=by
 apply Zdk.call
 simp only [Zba]
 generalize hg0:h ++ [Zcp.cells Zec [.slice a0 n0 c0 e0,.slice a1 n1 c1 e1] false]=g0
 have sg0:Zbb h.length h g0:=by rw [← hg0]; exact Zav
 have xw0:g0[h.length]?=some (.cells Zec [.slice a0 n0 c0 e0,.slice a1 n1 c1 e1] false):=by rw [← hg0]; simp
 try simp only [Zbr xw0,Zas,Zak,Zar,Zai,Zap,Zcw,Zal,Zah,Zdw,Zaq,true_and]
 refine (Yde (r.same sg0) hb (x:=1048576) (by omega)).mono ?_
 rintro v k11 ⟨y,rfl,sk11,hy⟩
 have xw_k11:=sk11.get xw0 (Own.lt xw0)
 have S_k11:=sg0.cat sk11
 simp only [Zal]
 refine Zaj (fun _=>by trivial) (fun hge=>?_)
 have hyy:=hy (by omega)
 have b:WB w:=.of hb (by omega)
 try simp only [Zbr xw_k11,Zbr xw0,Zas,Zak,Zar,Zai,Zap,Zcw,Zal,Zah,Zdw,Zaq,true_and]
 refine (Zoh (r.same S_k11) b).mono ?_
 rintro v k12 ⟨b0,d0,f0,b1,d1,f1,ys,rfl,hd0,hd1,sk12,W3⟩
 have xw_k12:=sk12.get xw_k11 (Own.lt xw_k11)
 have S_k12:=S_k11.cat sk12
 try simp only [Zbr xw_k12,Zbr xw_k11,Zas,Zak,Zar,Zai,Zap,Zcw,Zal,Zah,Zdw,Zaq,true_and]
 refine (Zud (W3.rep hd0 hd1) b).mono ?_
 rintro v k13 ⟨sk13,wa,wn,wc,we,xs5,rfl,hc5,F5⟩
 have xw_k13:=sk13.get xw_k12 (Own.lt xw_k12)
 have S_k13:=S_k12.cat sk13
 try simp only [Zbr xw_k13,Zbr xw_k12,Zas,Zak,Zar,Zai,Zap,Zcw,Zal,Zah,Zdw,Zaq,true_and]
 refine (Zoh (r.same S_k13) b).mono ?_
 rintro v k14 ⟨p0,q0,g0',p1,q1,g1',zs,rfl,hq0,hq1,sk14,W6⟩
 have xw_k14:=sk14.get xw_k13 (Own.lt xw_k13)
 have S_k14:=S_k13.cat sk14
 try simp only [Zbr xw_k14,Zbr xw_k13,Zas,Zak,Zar,Zai,Zap,Zcw,Zal,Zah,Zdw,Zaq,true_and]
 rw [Zlv]
 generalize hg1:k14 ++ [Zcp.cells Zao [.slice p0 n0 q0 g0',.slice p1 n1 q1 g1'] false]=g1
 have sg1:Zbb k14.length k14 g1:=by rw [← hg1]; exact Zav
 have xw_g1:=sg1.get xw_k14 (Own.lt xw_k14)
 have S_g1:=S_k14.cat sg1
 have xi_g1:g1[k14.length]?=some (.cells Zao [.slice p0 n0 q0 g0',.slice p1 n1 q1 g1'] false):=by rw [← hg1]; simp
 try simp only [Zbr xw_g1,Zbr xi_g1,Zbr xw_k13,Zas,Zak,Zar,Zai,Zap,Zcw,Zal,Zah,Zdw,Zaq,true_and]
 have W7:=W6.same sg1
 refine (Zpu (W7.rep hq0 hq1) b).mono ?_
 rintro v k15 ⟨sk15,ga,gn,gc,ge,xs9,rfl,hc9,F9⟩
 have xw_k15:=sk15.get xw_g1 (Own.lt xw_g1)
 have xi_k15:=sk15.get xi_g1 (Own.lt xi_g1)
 have S_k15:=S_g1.cat sk15
 simp only [Zdw,Zak,Zar,Zai,Zap,Zal,Zah]
 have hol:=Ygy w
 have hwn:=F5.num
 have hgn:=F9.num
 have T9:=((sk14).cat sg1).cat sk15
 have R9:=F5.same T9
 refine (Zra F9 R9 (by omega)).mono ?_
 rintro v k16 ⟨rfl,sk16⟩
 have xw_k16:=sk16.get xw_k15 (Own.lt xw_k15)
 have xi_k16:=sk16.get xi_k15 (Own.lt xi_k15)
 have S_k16:=S_k15.cat sk16
 simp only [Zah,beq_self_eq_true,Bool.not_true,Zay]
 apply Zdk.J10i
 try simp only [Zbr xw_k16,Zbr xi_k16,Zbr xw_k15,Zbr xi_k15,Zas,Zak,Zar,Zai,Zap,Zcw,Zal,Zah,Zdw,Zaq,true_and]
 refine (Zoh (r.same S_k16) b).mono ?_
 rintro v k17 ⟨u0,v0,j0,u1,v1,j1,ts,rfl,hv0,hv1,sk17,W10⟩
 have xw_k17:=sk17.get xw_k16 (Own.lt xw_k16)
 have xi_k17:=sk17.get xi_k16 (Own.lt xi_k16)
 have S_k17:=S_k16.cat sk17
 try simp only [Zbr xw_k17,Zbr xi_k17,Zbr xw_k16,Zbr xi_k16,Zas,Zak,Zar,Zai,Zap,Zcw,Zal,Zah,Zdw,Zaq,true_and]
 refine (Yer ((((W7.rep hq0 hq1).same sk15).same sk16).same sk17) (W10.rep hv0 hv1) b).mono ?_
 rintro v k18 ⟨rfl,sk18⟩
 have xw_k18:=sk18.get xw_k17 (Own.lt xw_k17)
 have xi_k18:=sk18.get xi_k17 (Own.lt xi_k17)
 have S_k18:=S_k17.cat sk18
 simp only [Zah,Bool.not_true,Zay]
 try simp only [Zbr xw_k18,Zbr xi_k18,Zbr xw_k17,Zbr xi_k17,Zas,Zak,Zar,Zai,Zap,Zcw,Zal,Zah,Zdw,Zaq,true_and]
 have T12:=(((((sk14).cat sg1).cat sk15).cat sk16).cat sk17).cat sk18
 have lsk13:=sk13.le
 have lsk14:=sk14.le
 have lsg1:=sg1.le
 have lsk15:=sk15.le
 have lsk16:=sk16.le
 have lsk17:=sk17.le
 have lsk18:=sk18.le
 have lS5:=S_k13.le
 have W12:=((((W7).same sk15).same sk16).same sk17).same sk18
 refine (Zzj W12 b (H:=k14.length) ⟨W6.bel.cls,W6.bel.ins,W6.bel.need⟩ (by omega) (k:=1) (by omega)).mono ?_
 rintro v m1 ⟨⟨zm,rfl,hm0,hm1⟩,M13⟩
 simp only [Zal]
 rw [show decide (zm < 0)=false by simp; omega]
 simp only [Zay]
 have lm1:=M13.1
 have F13:=((((F9).same sk16).same sk17).same sk18).mid M13 (by omega)
 have R13:=F5.same (h':=m1) ⟨by omega,fun j hj=>by rw [M13.2 j (by omega) (.inl (by omega)),T12.eq j hj]⟩
 refine (Zra F13 R13 (by omega)).mono ?_
 rintro v m2 ⟨rfl,sm2⟩
 simp only [Zah,beq_self_eq_true,Bool.not_true,Zay]
 apply Zdk.J16i
 have F14:=F13.same sm2
 have lm2:=sm2.le
 refine (Zyz F14 (by omega)).mono ?_
 rintro v m3 ⟨rfl,o15,F15⟩
 simp only [Zal]
 have lm3:=o15.le
 refine (Zrn F15 (by omega)).mono ?_
 rintro v m4 ⟨rfl,sm4⟩
 simp only [Zal]
 rw [show decide (((1 + 2 * gn:Nat):Int) < 0)=false by simp; omega]
 simp only [Zay,beq_self_eq_true,Bool.not_true]
 have lm4:=sm4.le
 have U:Zbb k13.length k13 m4:=⟨by omega,fun j hj=>by
  rw [sm4.eq j (by omega),o15.eq j (by omega),sm2.eq j (by omega),M13.2 j (by omega) (.inl (by omega)),T12.eq j hj]⟩
 have xw_m4:=U.get xw_k13 (Own.lt xw_k13)
 have S_m4:=S_k13.cat U
 try simp only [Zbr xw_m4,Zas,Zak,Zar,Zai,Zap,Zcw,Zal,Zah,Zdw,Zaq,true_and]
 refine (Zoh (r.same S_m4) b).mono ?_
 rintro v k19 ⟨P0,Q0,G0,P1,Q1,G1,Zs,rfl,hQ0,hQ1,sk19,W20⟩
 have xw_k19:=sk19.get xw_m4 (Own.lt xw_m4)
 have S_k19:=S_m4.cat sk19
 try simp only [Zbr xw_k19,Zbr xw_m4,Zas,Zak,Zar,Zai,Zap,Zcw,Zal,Zah,Zdw,Zaq,true_and]
 refine (Zpu (W20.rep hQ0 hQ1) b).mono ?_
 rintro v k20 ⟨sk20,Ga,Gn,Gc,Ge,xs22,rfl,hc22,F22⟩
 have xw_k20:=sk20.get xw_k19 (Own.lt xw_k19)
 have S_k20:=S_k19.cat sk20
 try simp only [Zbr xw_k20,Zbr xw_k19,Zas,Zak,Zar,Zai,Zap,Zcw,Zal,Zah,Zdw,Zaq,true_and]
 have R22:=F5.same (((U).cat sk19).cat sk20)
 have hGn:=F22.num
 refine (Zra F22 R22 (by omega)).mono ?_
 rintro v m9 ⟨rfl,sm9⟩
 simp only [Zah,beq_self_eq_true,Bool.not_true,Zay]
 apply Zdk.J27i
 refine (Zrn ((((F15.same sm4).same sk19).same sk20).same sm9) (by omega)).mono ?_
 rintro v m10 ⟨rfl,sm10⟩
 simp only [Zal]
 rw [show decide (((1 + 2 * gn:Nat):Int) < 0)=false by simp; omega]
 simp only [Zay,beq_self_eq_true,Bool.not_true]
end Go.Sim

set_option linter.unusedVariables false
namespace Go.Sim
open Go Go.RowKit
end Go.Sim
