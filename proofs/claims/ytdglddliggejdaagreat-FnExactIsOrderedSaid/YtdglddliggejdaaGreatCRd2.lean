/- A part of the proof of a statement of this seat: see the text that holds the theorem. No condition. -/
import Derived.Test.YtdglddliggejdaaGreatPTCOwn
import Derived.Test.YtdglddliggejdaaGreatPDrawW
import Derived.Test.YtdglddliggejdaaGreatCWGiv
import Derived.Test.YtdglddliggejdaaGreatCGrT
import Derived.Test.YtdglddliggejdaaGreatNm
import Derived.Test.YtdglddliggejdaaGreatCSplit
import Derived.Test.YtdglddliggejdaaGreatPTCSUn5
set_option linter.unusedVariables false
set_option linter.unusedSimpArgs false
set_option linter.all false
set_option linter.unusedVariables false
set_option linter.unusedSimpArgs false
set_option maxRecDepth 20000
namespace Go.Sim
open Go Go.RowKit

structure WDr (b:Nat) (h:Zaa) (a0:Pt) (n0 c0:Nat) (q n1 c1:Nat) (ys:List EI) (w:Wd):Prop where
 cls:Zdk Zbq eP b h a0 n0 w.cs
 le0:n0≤c0
 bq:b≤q
 ob:h[q]?=some (.cells Zac (Zeu eN ys) false)
 len:ys.length=n1
 wl:w.is.length=n1
 le1:n1≤c1
 need:∀ (k:Nat) (x:EI) (i:Ins),ys[k]?=some x→w.is[k]?=some i→x.c=i.1.1∧x.t=i.1.2∧Zdk Zbv eP b h x.a x.n i.2
theorem Zdk.at {α:Type} {ty:TypeId} {enc:α→List Zal} {b:Nat} {h h':Zaa} {a:Pt} {n:Nat} {l:List α} (f:Zdk ty enc b h a n l) (hh:∀ j,b≤j→j < h.length→h'[j]?=h[j]?):Zdk ty enc b h' a n l:=
 ⟨f.1,f.2.imp id fun ⟨i,ha,hb,hi⟩=>⟨i,ha,hb,by rw [hh i hb (Own.lt hi)]; exact hi⟩⟩
section
variable {b:Nat} {h h':Zaa} {a0:Pt} {n0 c0 q n1 c1:Nat} {ys:List EI} {w:Wd}
theorem WDr.keep (d:WDr b h a0 n0 c0 q n1 c1 ys w) (hh:∀ j,b≤j→j < h.length→h'[j]?=h[j]?):WDr b h' a0 n0 c0 q n1 c1 ys w:=
 ⟨d.cls.at hh,d.le0,d.bq,by rw [hh q d.bq (Own.lt d.ob)]; exact d.ob,d.len,d.wl,d.le1,fun k x i hx hi=>⟨(d.need k x i hx hi).1,(d.need k x i hx hi).2.1,(d.need k x i hx hi).2.2.at hh⟩⟩
theorem WDr.same (d:WDr b h a0 n0 c0 q n1 c1 ys w) (s:Zaz h.length h h'):WDr b h' a0 n0 c0 q n1 c1 ys w:=d.keep fun j _ hj=>s.eq j hj
theorem WDr.kp {i:Nat} (d:WDr b h a0 n0 c0 q n1 c1 ys w) (s:Zfv i h h') (hi:i < b):WDr b h' a0 n0 c0 q n1 c1 ys w:=d.keep fun j hj hl=>s.eq j hl (by omega)
theorem WDr.low {b':Nat} (d:WDr b h a0 n0 c0 q n1 c1 ys w) (hb:b'≤b):WDr b' h a0 n0 c0 q n1 c1 ys w:=
 ⟨d.cls.low hb,d.le0,by have:=d.bq; omega,d.ob,d.len,d.wl,d.le1,fun k x i hx hi=>⟨(d.need k x i hx hi).1,(d.need k x i hx hi).2.1,(d.need k x i hx hi).2.2.low hb⟩⟩
theorem WDr.rep (d:WDr b h a0 n0 c0 q n1 c1 ys w):Zph h a0 n0 c0 (some (q,0)) n1 c1 w:=by
 refine ⟨d.cls.row Zgz,⟨ys,?_,d.len.trans d.wl.symm,fun k x i hx hi=>⟨(d.need k x i hx hi).1,(d.need k x i hx hi).2.1,(d.need k x i hx hi).2.2.row Zgz⟩⟩,d.le0,d.le1⟩
 have:=(Vec.mk1 (n:=0) (c:=0) d.ob).row (m:=n1 * 3) (by rw [Zbm Zwb,d.len])
 exact this
theorem WDr.of {a1:Pt} (f:Zqx b h a0 n0 a1 n1 ys w) (h0:n0≤c0) (h1:n1≤c1) (hb:b≤q) (hq:h[q]?=some (.cells Zac (Zeu eN ys) false)):WDr b h a0 n0 c0 q n1 c1 ys w:=
 ⟨f.cls,h0,hb,hq,by have:=f.ins.1; exact this,by have:=f.ins.1; rw [← f.len]; exact this,h1,f.need⟩
theorem WDr.push (d:WDr b h a0 n0 c0 q n1 c1 ys w) {x:EI} {i:Ins} {q':Nat} (hx:x.c=i.1.1∧x.t=i.1.2∧Zdk Zbv eP b h x.a x.n i.2) (hq':b≤q') (ho:h'[q']?=some (.cells Zac (Zeu eN (ys ++ [x])) false)) {z:Nat} (hz:∀ o,h[z]?=some o→∃ cs,o=.cells Zac cs false)
  (hh:∀ j,j < h.length→j≠z→h'[j]?=h[j]?) {c1':Nat} (hc:n1 + 1≤c1'):WDr b h' a0 n0 c0 q' (n1 + 1) c1' (ys ++ [x]) ⟨w.cs,w.is ++ [i]⟩:=by
 have off:∀ {j:Nat} {ty:TypeId} {cs:List Zal},ty≠Zac→h[j]?=some (.cells ty cs false)→h'[j]?=some (.cells ty cs false):=fun {j ty cs} hne hj=>by
  rw [hh j (Own.lt hj) (fun e=>by
   subst e
   obtain ⟨cs',hcs⟩:=hz _ hj
   injection hcs with h1 h2 h3
   exact hne h1)]
  exact hj
 have fr:∀ {a:Pt} {n:Nat} {l:List Nd},Zdk Zbv eP b h a n l→Zdk Zbv eP b h' a n l:=fun f=>⟨f.1,f.2.imp id fun ⟨j,ha,hb,hj⟩=>⟨j,ha,hb,off (by decide) hj⟩⟩
 refine ⟨⟨d.cls.1,d.cls.2.imp id fun ⟨j,ha,hb,hj⟩=>⟨j,ha,hb,off (by decide) hj⟩⟩,d.le0,hq',ho,by simp [d.len],by simp [d.wl],hc,fun k y j hy hj=>?_⟩
 by_cases hk:k < n1
 ·rw [List.getElem?_append_left (by rw [d.len]; exact hk)] at hy
  rw [List.getElem?_append_left (by rw [d.wl]; exact hk)] at hj
  obtain ⟨p1,p2,p3⟩:=d.need k y j hy hj
  exact ⟨p1,p2,fr p3⟩
 ·have hkn:k=n1:=by have:=(List.getElem?_eq_some_iff.1 hy).1; simp [d.len] at this; omega
  subst hkn
  rw [List.getElem?_append_right (by rw [d.len]; exact Nat.le_refl _)] at hy
  rw [List.getElem?_append_right (by rw [d.wl]; exact Nat.le_refl _)] at hj
  simp [d.len] at hy
  simp [d.wl] at hj
  subst hy; subst hj
  exact ⟨hx.1,hx.2.1,fr hx.2.2⟩
end
theorem WS.wb {m:Nat} {w:Wd} (s:WS m w) (h:m≤1048576):WB w:=
 ⟨Nat.le_trans s.lc h,Nat.le_trans s.li h,fun p hp=>⟨by have:=(s.cs p hp).1; omega,by have:=(s.cs p hp).2.1; omega,(s.cs p hp).2.2⟩,fun i hi=>by
  obtain ⟨h1,h2,h3,h4⟩:=s.is i hi
  exact ⟨by omega,by omega,by omega,fun p hp=>by have:=h4 p hp; omega⟩⟩

end Go.Sim

set_option linter.unusedVariables false
set_option linter.unusedSimpArgs false
set_option maxRecDepth 20000
namespace Go.Sim
open Go Go.RowKit

end Go.Sim

set_option linter.unusedVariables false
set_option linter.unusedSimpArgs false
set_option maxRecDepth 20000
namespace Go.Sim
open Go Go.RowKit

end Go.Sim

set_option linter.unusedVariables false
set_option linter.unusedSimpArgs false
set_option maxRecDepth 20000
namespace Go.Sim
open Go Go.RowKit

theorem Zfv.cell {h h':Zaa} {i j o:Nat} (K:Zfv i h h') (hj:j < h.length) (hi:j≠i):Zad h' (.ptr (some (j,o)))=Zad h (.ptr (some (j,o))):=by simp only [Zad,K.eq j hj hi]
theorem Zfv.get {h h':Zaa} {i j:Nat} {x:Zcj} (K:Zfv i h h') (hj:h[j]?=some x) (hi:j≠i):h'[j]?=some x:=by rw [K.eq j (Own.lt hj) hi]; exact hj
def RdK (i p k:Nat) (h h':Zaa):Prop:=Zfv i h h'∧∃ p',p≤p'∧p'≤p + k∧Rdr h' i p'
theorem RdK.app {i p k:Nat} {h h1 h2:Zaa} (s:Zaz h.length h h1) (K:RdK i p k h1 h2):RdK i p k h h2:=⟨(Zfv.of_same s).trans K.1,K.2⟩
end Go.Sim

set_option linter.unusedVariables false
set_option linter.unusedSimpArgs false
set_option maxRecDepth 20000
namespace Go.Sim
open Go Go.RowKit

end Go.Sim

set_option linter.unusedVariables false
set_option linter.unusedSimpArgs false
set_option maxRecDepth 20000
namespace Go.Sim
open Go Go.RowKit

end Go.Sim

set_option linter.unusedVariables false
set_option linter.unusedSimpArgs false
set_option maxRecDepth 20000
namespace Go.Sim
open Go Go.RowKit

theorem RdK.trans {i p k k' p':Nat} {h h1 h2:Zaa} (a:Zfv i h h1) (hp:p≤p') (hk:p' + k'≤p + k) (r:RdK i p' k' h1 h2):RdK i p k h h2:=⟨a.trans r.1,r.2.imp fun q ⟨h1,h2,h3⟩=>⟨by omega,by omega,h3⟩⟩
end Go.Sim

set_option linter.unusedVariables false
set_option linter.unusedSimpArgs false
set_option maxRecDepth 20000
namespace Go.Sim
open Go Go.RowKit

end Go.Sim

set_option linter.unusedVariables false
set_option linter.unusedSimpArgs false
set_option maxRecDepth 20000
namespace Go.Sim
open Go Go.RowKit

end Go.Sim

set_option linter.unusedVariables false
set_option linter.unusedSimpArgs false
set_option maxRecDepth 20000
namespace Go.Sim
open Go Go.RowKit
end Go.Sim

set_option linter.unusedVariables false
set_option linter.unusedSimpArgs false
set_option maxRecDepth 20000
namespace Go.Sim
open Go Go.RowKit

end Go.Sim

set_option linter.unusedVariables false
set_option linter.unusedSimpArgs false
set_option maxRecDepth 20000
namespace Go.Sim
open Go Go.RowKit
theorem Ydl {w:Wd} {p:Nat × Nat} (h:p∈Ztc w):p.1 < w.is.length∧p.2 < w.is.length:=by
 unfold Ztc ovW at h
 obtain ⟨g,hg,hp⟩:=List.mem_flatMap.1 h
 unfold ovI at hp
 obtain ⟨k,hk,rfl⟩:=List.mem_map.1 hp
 exact ⟨List.mem_range.1 hg,List.mem_range.1 (List.mem_filter.1 hk).1⟩
noncomputable def Ykg (w:Wd) (p:Nat × Nat):Bool:=Zqe (Zuo w p.1) (Zuo w p.2) || Zqe (Zuo w p.2) (Zuo w p.1)
noncomputable def Yke (w:Wd):Bool:=Zdw w && (Ztc w).all (Ykg w)
theorem Yex {α:Type} {f:α→Bool} {l:List α} {g:Nat} {x:α} (h:(l.take g).all f=true) (hx:l[g]?=some x) (k:f x=true):(l.take (g + 1)).all f=true:=by
 rw [List.take_succ,hx,List.all_append,h]; simp [k]
theorem Yju {α:Type} {f:α→Bool} {l:List α} {g:Nat} {x:α} (hx:l[g]?=some x) (k:f x=false):l.all f=false:=by
 rw [List.all_eq_false]; exact ⟨x,List.mem_of_getElem? hx,by rw [k]; simp⟩
theorem Ybn {h:Zaa} {a0 a1:Pt} {n0 c0 n1 c1:Nat} {e0 e1:Bool} {w:Wd} (r:Zph h a0 n0 c0 a1 n1 c1 w) (b:WB w) :
  Zae pg Zjo [.agg [.slice a0 n0 c0 e0,.slice a1 n1 c1 e1]] h fun v h'=>v=.bool (Yke w)∧Zaz h.length h h':=by
 have hl1:=r.len1
 apply Zei.call
 simp only [Zaw]
 generalize hh0:h ++ [Zcj.cells Zao [.slice a0 n0 c0 e0,.slice a1 n1 c1 e1] false]=h0
 have s0:Zaz h.length h h0:=by rw [← hh0]; exact Zaq
 have w0:h0[h.length]?=some (Zsq a0 n0 c0 e0 a1 n1 c1 e1):=by rw [← hh0]; simp [Zsq]
 rw [Ydp w0]
 simp only [Zas,Zai,Zar,Zag]
 refine (Zxx (r.same s0) b).mono ?_
 rintro v h1 ⟨s1,a,n,c,e,xs,rfl,hnc,pv⟩
 simp only [Zdo,Zai,Zag,Zah,Zar]
 have w1:=s1.get w0 (Own.lt w0)
 have S1:=s0.cat s1
 have hnum:=pv.num
 have hlen:=Yby w
 refine Zei.L3ind (J:=fun (g:Nat) x16 k=>x16=(g:Int)∧g≤n∧Zaz h1.length h1 k∧((if Zdw w then Ztc w else []).take g).all (Ykg w)=true) (m:=fun g=>n - g) (hr:=?_) (g:=0) (hj:=⟨rfl,by omega,Zaz.refl _ _,by simp⟩) ..
 rintro g x16 k ⟨rfl,hg,sk,hall⟩ R hR
 have Sk:=S1.cat sk
 have wk:=sk.get w1 (Own.lt w1)
 unfold Zei.L3t
 refine Zan (fun hlt=>?_) (fun hge=>?_)
 ·obtain ⟨i0,q,cq,eq,p,rfl,hc,hxk,hlp,hlo,_,hne,ho⟩:=(pv.same sk).get (k:=g) (by omega)
  have hw:Zdw w=true:=by
   cases hw:Zdw w with
   | true=>rfl
   | false=>rw [hw] at hlp; simp at hlp
  rw [hw,if_pos rfl] at hlp hall
  simp only [Nat.zero_add,Nat.mul_one] at hc
  obtain ⟨hp1,hp2⟩:=Ydl (List.mem_of_getElem? hlp)
  have rk:=r.same Sk
  obtain ⟨i,o,aa,na,ca,ea,hai,hil,hra,_,_,_,_⟩:=Zlf rk hp1
  obtain ⟨i',o',ab,nb,cb,eb,hbi,hil',hrb,_,_,_,_⟩:=Zlf rk hp2
  rw [hai] at hbi
  cases hbi
  subst hai
  have i1:=Yel hp1
  have i2:=Yel hp2
  have next:∀ k2,Zaz k.length k k2→(Zqe w.is[p.1] w.is[p.2] || Zqe w.is[p.2] w.is[p.1])=true→Zei.J8 (fun v h'=>v=.bool (Yke w)∧Zaz h.length h h') R (g:Int) (n:Int) (some (i0,0)) n c e h.length 0 (Zdw w) k2:=by
   intro k2 s2 hy
   apply Zei.J8i
   rw [Zbn (by omega)]
   exact hR (g + 1) _ _ (by omega) ⟨rfl,by omega,sk.cat s2,by rw [hw,if_pos rfl]; exact Yex hall hlp (by unfold Ykg; rw [i1,i2]; exact hy)⟩
  have bad:Zqe w.is[p.1] w.is[p.2]=false→Zqe w.is[p.2] w.is[p.1]=false→Yke w=false:=fun f1 f2=>by
   unfold Yke
   rw [Yju hlp (by unfold Ykg; rw [i1,i2,f1,f2]; rfl)]
   simp
  simp only [Zat,Int.toNat_natCast,hc,Zag,Zak ho,Zht wk,Int.toNat_zero,Int.toNat_one,Nat.zero_mul,Nat.mul_one,Nat.zero_add,List.getElem?_cons_succ,List.getElem?_cons_zero,Zam,hra,hrb,Zas,Zai,Zar,Zap,Zaw]
  refine ⟨by omega,by omega,by omega,by omega,by omega,?_⟩
  ·refine ⟨?_,?_⟩
   ·generalize hk1:k ++ [Zcj.cells Zac [.str [],.str [],.slice none 0 0 true] false]=k1
    generalize hk2:k1 ++ [Zcj.cells Zac [.str [],.str [],.slice none 0 0 true] false]=k2
    have s1:Zaz k.length k k1:=by rw [← hk1]; exact Zaq
    have s2:Zaz k1.length k1 k2:=by rw [← hk2]; exact Zaq
    have l1:k1.length=k.length + 1:=by rw [← hk1]; simp
    have z1:k1[k.length]?=some (.cells Zac [.str [],.str [],.slice none 0 0 true] false):=by rw [← hk1]; simp
    have zA:=s2.get z1 (Own.lt z1)
    have zB:k2[k1.length]?=some (.cells Zac [.str [],.str [],.slice none 0 0 true] false):=by rw [← hk2]; simp
    have S2:=s1.cat s2
    have w1:=s1.get wk (Own.lt wk)
    have w2':=S2.get wk (Own.lt wk)
    rw [Zbl zA (by simp)]
    simp only [Zau,putRow,List.take_zero,List.length_cons,List.length_nil,List.drop_succ_cons,List.drop_zero,List.drop_nil,List.cons_append,List.nil_append,List.append_nil,Nat.zero_add]
    have yA:=Zck zA (x:=.cells Zac [.str w.is[p.1].1.1,.str w.is[p.1].1.2,.slice aa na ca ea] false)
    have yB:(k2.set k.length (.cells Zac [.str w.is[p.1].1.1,.str w.is[p.1].1.2,.slice aa na ca ea] false))[k1.length]?=some (.cells Zac [.str [],.str [],.slice none 0 0 true] false):=by rw [Zbw (by omega)]; exact zB
    have S3:=S2.set' (i:=k.length) (x:=.cells Zac [.str w.is[p.1].1.1,.str w.is[p.1].1.2,.slice aa na ca ea] false) (by omega)
    generalize k2.set k.length (.cells Zac [.str w.is[p.1].1.1,.str w.is[p.1].1.2,.slice aa na ca ea] false)=k3 at yA yB S3 ⊢
    rw [Zbl yB (by simp)]
    simp only [Zau,putRow,List.take_zero,List.length_cons,List.length_nil,List.drop_succ_cons,List.drop_zero,List.drop_nil,List.cons_append,List.nil_append,List.append_nil,Nat.zero_add]
    have S4:=S3.set' (i:=k1.length) (x:=.cells Zac [.str w.is[p.2].1.1,.str w.is[p.2].1.2,.slice ab nb cb eb] false) (by omega)
    have uA:(k3.set k1.length (.cells Zac [.str w.is[p.2].1.1,.str w.is[p.2].1.2,.slice ab nb cb eb] false))[k.length]?=some (.cells Zac [.str w.is[p.1].1.1,.str w.is[p.1].1.2,.slice aa na ca ea] false):=by rw [Zbw (by omega)]; exact yA
    have uB:=Zck yB (x:=.cells Zac [.str w.is[p.2].1.1,.str w.is[p.2].1.2,.slice ab nb cb eb] false)
    have w3':=S3.get wk (Own.lt wk)
    have e1:∀ o n,Zbf k1 (.ptr (some (i,o))) n=Zbf k (.ptr (some (i,o))) n:=fun o n=>Zho s1 hil
    have e2:∀ o n,Zbf k2 (.ptr (some (i,o))) n=Zbf k (.ptr (some (i,o))) n:=fun o n=>Zho S2 hil
    have e3:∀ o n,Zbf k3 (.ptr (some (i,o))) n=Zbf k (.ptr (some (i,o))) n:=fun o n=>Zho S3 hil
    have d1:∀ o,Zad k1 (.ptr (some (q,o)))=Zad k (.ptr (some (q,o))):=fun o=>Zmt s1 (Own.lt ho)
    have d2:∀ o,Zad k2 (.ptr (some (q,o)))=Zad k (.ptr (some (q,o))):=fun o=>Zmt S2 (Own.lt ho)
    have d3:∀ o,Zad k3 (.ptr (some (q,o)))=Zad k (.ptr (some (q,o))):=fun o=>Zmt S3 (Own.lt ho)
    simp only [e1,e2,e3,d1,d2,d3,hra,hrb,Zak ho,Zht wk,Zht w1,Zht w2',Zht w3',List.getElem?_cons_succ,List.getElem?_cons_zero,true_and]
    generalize k3.set k1.length (.cells Zac [.str w.is[p.2].1.1,.str w.is[p.2].1.2,.slice ab nb cb eb] false)=k4 at uA uB S4 ⊢
    rw [Zie uA,Zie uB]
    simp only [Zas,Zai,Zar,Zap,Zag]
    refine (Zoz (i:=w.is[p.1]) (k:=w.is[p.2])).mono ?_
    rintro v k5 ⟨rfl,s5⟩
    simp only [Zah]
    have S5:=S4.cat s5
    refine Zbx (fun f1=>?_) (fun f1=>next _ S5 (by rw [f1]; rfl))
    rw [Zie (s5.get uA (Own.lt uA)),Zie (s5.get uB (Own.lt uB))]
    simp only [Zas,Zai,Zar,Zap,Zag]
    refine (Zoz (i:=w.is[p.2]) (k:=w.is[p.1])).mono ?_
    rintro v k6 ⟨rfl,s6⟩
    simp only [Zah]
    exact Zbx (fun f2=>⟨by rw [bad f1 f2],Sk.cat (S5.cat s6)⟩) (fun f2=>next _ (S5.cat s6) (by rw [f2]; simp))
   ·generalize hk1:k ++ [Zcj.cells Zac [.str [],.str [],.slice none 0 0 true] false]=k1
    generalize hk2:k1 ++ [Zcj.cells Zac [.str [],.str [],.slice none 0 0 true] false]=k2
    have s1:Zaz k.length k k1:=by rw [← hk1]; exact Zaq
    have s2:Zaz k1.length k1 k2:=by rw [← hk2]; exact Zaq
    have l1:k1.length=k.length + 1:=by rw [← hk1]; simp
    have z1:k1[k.length]?=some (.cells Zac [.str [],.str [],.slice none 0 0 true] false):=by rw [← hk1]; simp
    have zA:=s2.get z1 (Own.lt z1)
    have zB:k2[k1.length]?=some (.cells Zac [.str [],.str [],.slice none 0 0 true] false):=by rw [← hk2]; simp
    have S2:=s1.cat s2
    have w1:=s1.get wk (Own.lt wk)
    have w2':=S2.get wk (Own.lt wk)
    rw [Zbl zB (by simp)]
    simp only [Zau,putRow,List.take_zero,List.length_cons,List.length_nil,List.drop_succ_cons,List.drop_zero,List.drop_nil,List.cons_append,List.nil_append,List.append_nil,Nat.zero_add]
    have yA:=Zck zB (x:=.cells Zac [.str w.is[p.1].1.1,.str w.is[p.1].1.2,.slice aa na ca ea] false)
    have yB:(k2.set k1.length (.cells Zac [.str w.is[p.1].1.1,.str w.is[p.1].1.2,.slice aa na ca ea] false))[k.length]?=some (.cells Zac [.str [],.str [],.slice none 0 0 true] false):=by rw [Zbw (by omega)]; exact zA
    have S3:=S2.set' (i:=k1.length) (x:=.cells Zac [.str w.is[p.1].1.1,.str w.is[p.1].1.2,.slice aa na ca ea] false) (by omega)
    generalize k2.set k1.length (.cells Zac [.str w.is[p.1].1.1,.str w.is[p.1].1.2,.slice aa na ca ea] false)=k3 at yA yB S3 ⊢
    rw [Zbl yB (by simp)]
    simp only [Zau,putRow,List.take_zero,List.length_cons,List.length_nil,List.drop_succ_cons,List.drop_zero,List.drop_nil,List.cons_append,List.nil_append,List.append_nil,Nat.zero_add]
    have S4:=S3.set' (i:=k.length) (x:=.cells Zac [.str w.is[p.2].1.1,.str w.is[p.2].1.2,.slice ab nb cb eb] false) (by omega)
    have uA:(k3.set k.length (.cells Zac [.str w.is[p.2].1.1,.str w.is[p.2].1.2,.slice ab nb cb eb] false))[k1.length]?=some (.cells Zac [.str w.is[p.1].1.1,.str w.is[p.1].1.2,.slice aa na ca ea] false):=by rw [Zbw (by omega)]; exact yA
    have uB:=Zck yB (x:=.cells Zac [.str w.is[p.2].1.1,.str w.is[p.2].1.2,.slice ab nb cb eb] false)
    have w3':=S3.get wk (Own.lt wk)
    have e1:∀ o n,Zbf k1 (.ptr (some (i,o))) n=Zbf k (.ptr (some (i,o))) n:=fun o n=>Zho s1 hil
    have e2:∀ o n,Zbf k2 (.ptr (some (i,o))) n=Zbf k (.ptr (some (i,o))) n:=fun o n=>Zho S2 hil
    have e3:∀ o n,Zbf k3 (.ptr (some (i,o))) n=Zbf k (.ptr (some (i,o))) n:=fun o n=>Zho S3 hil
    have d1:∀ o,Zad k1 (.ptr (some (q,o)))=Zad k (.ptr (some (q,o))):=fun o=>Zmt s1 (Own.lt ho)
    have d2:∀ o,Zad k2 (.ptr (some (q,o)))=Zad k (.ptr (some (q,o))):=fun o=>Zmt S2 (Own.lt ho)
    have d3:∀ o,Zad k3 (.ptr (some (q,o)))=Zad k (.ptr (some (q,o))):=fun o=>Zmt S3 (Own.lt ho)
    simp only [e1,e2,e3,d1,d2,d3,hra,hrb,Zak ho,Zht wk,Zht w1,Zht w2',Zht w3',List.getElem?_cons_succ,List.getElem?_cons_zero,true_and]
    generalize k3.set k.length (.cells Zac [.str w.is[p.2].1.1,.str w.is[p.2].1.2,.slice ab nb cb eb] false)=k4 at uA uB S4 ⊢
    rw [Zie uA,Zie uB]
    simp only [Zas,Zai,Zar,Zap,Zag]
    refine (Zoz (i:=w.is[p.1]) (k:=w.is[p.2])).mono ?_
    rintro v k5 ⟨rfl,s5⟩
    simp only [Zah]
    have S5:=S4.cat s5
    refine Zbx (fun f1=>?_) (fun f1=>next _ S5 (by rw [f1]; rfl))
    rw [Zie (s5.get uA (Own.lt uA)),Zie (s5.get uB (Own.lt uB))]
    simp only [Zas,Zai,Zar,Zap,Zag]
    refine (Zoz (i:=w.is[p.2]) (k:=w.is[p.1])).mono ?_
    rintro v k6 ⟨rfl,s6⟩
    simp only [Zah]
    exact Zbx (fun f2=>⟨by rw [bad f1 f2],Sk.cat (S5.cat s6)⟩) (fun f2=>next _ (S5.cat s6) (by rw [f2]; simp))
 ·apply Zei.A3x0i
  have:g=n:=by omega
  subst this
  refine ⟨?_,Sk⟩
  rw [List.take_of_length_le (by omega)] at hall
  unfold Yke
  cases hw:Zdw w with
  | false=>rfl
  | true=>rw [hw,if_pos rfl] at hall; rw [hall]; rfl
theorem Yev {w:Wd} {x y:Nat} (hw:Zdw w=true) (hx:x < w.is.length) (hy:y < w.is.length):Yas w (x:Int) (y:Int)=Zqe (Zuo w x) (Zuo w y):=by
 unfold Yas; rw [hw,Zxo hx,Zxo hy]; rfl
theorem Yck {h:Zaa} {a0 a1:Pt} {n0 c0 n1 c1:Nat} {e0 e1:Bool} {w:Wd} (r:Zph h a0 n0 c0 a1 n1 c1 w) (b:WB w) :
  Zae pg Zjp [.agg [.slice a0 n0 c0 e0,.slice a1 n1 c1 e1]] h fun v h'=>v=.bool (Yke w)∧Zaz h.length h h':=by
 have hl1:=r.len1
 apply Zeh.call
 simp only [Zaw]
 generalize hh0:h ++ [Zcj.cells Zao [.slice a0 n0 c0 e0,.slice a1 n1 c1 e1] false]=h0
 have s0:Zaz h.length h h0:=by rw [← hh0]; exact Zaq
 have w0:h0[h.length]?=some (Zsq a0 n0 c0 e0 a1 n1 c1 e1):=by rw [← hh0]; simp [Zsq]
 rw [Ydp w0]
 simp only [Zas,Zai,Zar,Zag]
 refine (Zvw (r.same s0) b).mono ?_
 rintro v h1 ⟨s1,a,n,c,e,xs,rfl,hnc,pv⟩
 simp only [Zdo,Zai,Zag,Zah,Zar]
 have w1:=s1.get w0 (Own.lt w0)
 have S1:=s0.cat s1
 have hnum:=pv.num
 have hlen:=Yby w
 refine Zeh.L3ind (J:=fun (g:Nat) x16 k=>x16=(g:Int)∧g≤n∧Zaz h1.length h1 k∧((if Zdw w then Ztc w else []).take g).all (Ykg w)=true) (m:=fun g=>n - g) (hr:=?_) (g:=0) (hj:=⟨rfl,by omega,Zaz.refl _ _,by simp⟩) ..
 rintro g x16 k ⟨rfl,hg,sk,hall⟩ R hR
 have Sk:=S1.cat sk
 have wk:=sk.get w1 (Own.lt w1)
 unfold Zeh.L3t
 refine Zan (fun hlt=>?_) (fun hge=>?_)
 ·obtain ⟨i0,q,cq,eq,p,rfl,hc,hxk,hlp,hlo,_,hne,ho⟩:=(pv.same sk).get (k:=g) (by omega)
  have hw:Zdw w=true:=by
   cases hw:Zdw w with
   | true=>rfl
   | false=>rw [hw] at hlp; simp at hlp
  rw [hw,if_pos rfl] at hlp hall
  simp only [Nat.zero_add,Nat.mul_one] at hc
  obtain ⟨hp1,hp2⟩:=Ydl (List.mem_of_getElem? hlp)
  have rk:=r.same Sk
  have next:∀ k2,Zaz k.length k k2→Ykg w p=true→Zeh.J7 (fun v h'=>v=.bool (Yke w)∧Zaz h.length h h') R (g:Int) (n:Int) (some (i0,0)) n c e h.length 0 (Zdw w) k2:=by
   intro k2 s2 hy
   apply Zeh.J7i
   rw [Zbn (by omega)]
   exact hR (g + 1) _ _ (by omega) ⟨rfl,by omega,sk.cat s2,by rw [hw,if_pos rfl]; exact Yex hall hlp hy⟩
  have bad:Ykg w p=false→Yke w=false:=fun f=>by
   unfold Yke
   rw [Yju hlp f]
   simp
  simp only [Zat,Int.toNat_natCast,hc,Zag,Zak ho,Ydp wk,Int.toNat_zero,Int.toNat_one,Nat.zero_mul,Nat.mul_one,Nat.zero_add,List.getElem?_cons_succ,List.getElem?_cons_zero,Zam,Zas,Zai,Zar,Zap,Zaw,true_and]
  refine ⟨by omega,by omega,by omega,(Zrf (x:=(p.1:Int)) (y:=(p.2:Int)) rk b).mono ?_⟩
  rintro v k2 ⟨rfl,s2⟩
  simp only [Zah]
  have ho2:=s2.get ho (Own.lt ho)
  have w2:=s2.get wk (Own.lt wk)
  have e1:=Yev hw hp1 hp2
  have e2:=Yev hw hp2 hp1
  refine Zbx (fun f1=>?_) (fun f1=>?_)
  ·simp only [Zak ho2,Ydp w2,Nat.zero_add,List.getElem?_cons_succ,List.getElem?_cons_zero,Zam,Zas,Zai,Zar,Zag,true_and]
   refine ⟨by omega,by omega,(Zrf (x:=(p.2:Int)) (y:=(p.1:Int)) (rk.same s2) b).mono ?_⟩
   rintro v k3 ⟨rfl,s3⟩
   have ho3:=s3.get ho2 (Own.lt ho2)
   have w3:=s3.get w2 (Own.lt w2)
   simp only [Zah,Zak ho3,Zak ho2,Ydp w3,Ydp w2,List.getElem?_cons_succ,List.getElem?_cons_zero,true_and]
   refine Zbx (fun f2=>⟨?_,Sk.cat (s2.cat s3)⟩) (fun f2=>next _ (s2.cat s3) ?_)
   ·rw [bad]; unfold Ykg; rw [← e1,← e2,f1,f2]; rfl
   ·unfold Ykg; rw [← e2,f2]; simp
  ·try simp only [true_and]
   refine next _ s2 ?_
   unfold Ykg; rw [← e1,f1]; rfl
 ·apply Zeh.A3x0i
  have:g=n:=by omega
  subst this
  refine ⟨?_,Sk⟩
  rw [List.take_of_length_le (by omega)] at hall
  unfold Yke
  cases hw:Zdw w with
  | false=>rfl
  | true=>rw [hw,if_pos rfl] at hall; rw [hall]; rfl
end Go.Sim

set_option linter.unusedVariables false
set_option linter.unusedSimpArgs false
set_option maxRecDepth 20000
namespace Go.Sim
open Go Go.RowKit

theorem lawIsOrdered {h:Zaa} {a0 a1:Pt} {n0 c0 n1 c1:Nat} {e0 e1:Bool} {w:Wd} (r:Zph h a0 n0 c0 a1 n1 c1 w) (hb:Ypz w) :
  Zae pg Zia [.agg [.slice a0 n0 c0 e0,.slice a1 n1 c1 e1]] h fun v _=>v=.bool true:=by
 apply Zih.call
 simp only [Zaw]
 generalize hg0:h ++ [Zcj.cells Zef [.slice a0 n0 c0 e0,.slice a1 n1 c1 e1] false]=g0
 have sg0:Zaz h.length h g0:=by rw [← hg0]; exact Zaq
 have xw0:g0[h.length]?=some (.cells Zef [.slice a0 n0 c0 e0,.slice a1 n1 c1 e1] false):=by rw [← hg0]; simp
 try simp only [Zcg xw0,Zas,Zai,Zar,Zag,Zap,Zdf,Zam,Zah,Zdo,Zau,true_and]
 refine (Yfy (r.same sg0) hb (x:=1048576) (by omega)).mono ?_
 rintro v k11 ⟨y,rfl,sk11,hy⟩
 have xw_k11:=sk11.get xw0 (Own.lt xw0)
 have S_k11:=sg0.cat sk11
 simp only [Zam]
 refine Zan (fun _=>by trivial) (fun hge=>?_)
 have hyy:=hy (by omega)
 have b:WB w:=.of hb (by omega)
 try simp only [Zcg xw_k11,Zcg xw0,Zas,Zai,Zar,Zag,Zap,Zdf,Zam,Zah,Zdo,Zau,true_and]
 refine (Zsj (r.same S_k11) b).mono ?_
 rintro v k12 ⟨b0,d0,f0,b1,d1,f1,ys,rfl,hd0,hd1,sk12,W3⟩
 have xw_k12:=sk12.get xw_k11 (Own.lt xw_k11)
 have S_k12:=S_k11.cat sk12
 try simp only [Zcg xw_k12,Zcg xw_k11,Zas,Zai,Zar,Zag,Zap,Zdf,Zam,Zah,Zdo,Zau,true_and]
 refine (Yck (W3.rep hd0 hd1) b).mono ?_
 rintro v k13 ⟨rfl,sk13⟩
 have xw_k13:=sk13.get xw_k12 (Own.lt xw_k12)
 have S_k13:=S_k12.cat sk13
 try simp only [Zcg xw_k13,Zcg xw_k12,Zas,Zai,Zar,Zag,Zap,Zdf,Zam,Zah,Zdo,Zau,true_and]
 refine (Zsj (r.same S_k13) b).mono ?_
 rintro v k14 ⟨p0,q0,g0',p1,q1,g1',zs,rfl,hq0,hq1,sk14,W6⟩
 have xw_k14:=sk14.get xw_k13 (Own.lt xw_k13)
 have S_k14:=S_k13.cat sk14
 try simp only [Zcg xw_k14,Zcg xw_k13,Zas,Zai,Zar,Zag,Zap,Zdf,Zam,Zah,Zdo,Zau,true_and]
 rw [Zin]
 generalize hg1:k14 ++ [Zcj.cells Zao [.slice p0 n0 q0 g0',.slice p1 n1 q1 g1'] false]=g1
 have sg1:Zaz k14.length k14 g1:=by rw [← hg1]; exact Zaq
 have xw_g1:=sg1.get xw_k14 (Own.lt xw_k14)
 have S_g1:=S_k14.cat sg1
 have xi_g1:g1[k14.length]?=some (.cells Zao [.slice p0 n0 q0 g0',.slice p1 n1 q1 g1'] false):=by rw [← hg1]; simp
 try simp only [Zcg xw_g1,Zcg xi_g1,Zcg xw_k13,Zas,Zai,Zar,Zag,Zap,Zdf,Zam,Zah,Zdo,Zau,true_and]
 have W7:=W6.same sg1
 refine (Ybn (W7.rep hq0 hq1) b).mono ?_
 rintro v k15 ⟨rfl,sk15⟩
 have xw_k15:=sk15.get xw_g1 (Own.lt xw_g1)
 have xi_k15:=sk15.get xi_g1 (Own.lt xi_g1)
 have S_k15:=S_g1.cat sk15
 simp only [Zdo,Zai,Zar,Zag,Zap,Zam,Zah,beq_self_eq_true,eq_self,decide_true,Bool.not_true,Zax]
 try simp only [Zcg xw_k15,Zcg xi_k15,Zcg xw_g1,Zcg xi_g1,Zas,Zai,Zar,Zag,Zap,Zdf,Zam,Zah,Zdo,Zau,true_and]
 refine (Zsj (r.same S_k15) b).mono ?_
 rintro v k16 ⟨u0,v0,j0,u1,v1,j1,ts,rfl,hv0,hv1,sk16,W10⟩
 have xw_k16:=sk16.get xw_k15 (Own.lt xw_k15)
 have xi_k16:=sk16.get xi_k15 (Own.lt xi_k15)
 have S_k16:=S_k15.cat sk16
 try simp only [Zcg xw_k16,Zcg xi_k16,Zcg xw_k15,Zcg xi_k15,Zas,Zai,Zar,Zag,Zap,Zdf,Zam,Zah,Zdo,Zau,true_and]
 refine (Ygs (((W7.rep hq0 hq1).same sk15).same sk16) (W10.rep hv0 hv1) b).mono ?_
 rintro v k17 ⟨rfl,sk17⟩
 have xw_k17:=sk17.get xw_k16 (Own.lt xw_k16)
 have xi_k17:=sk17.get xi_k16 (Own.lt xi_k16)
 have S_k17:=S_k16.cat sk17
 simp only [Zah,Bool.not_true,Zax]
end Go.Sim

set_option linter.unusedVariables false
namespace Go.Sim
open Go Go.RowKit
end Go.Sim
