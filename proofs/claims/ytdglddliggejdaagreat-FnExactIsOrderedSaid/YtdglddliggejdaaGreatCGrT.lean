/- A part of the proof of a statement of this seat: see the text that holds the theorem. No condition. -/
import Derived.Test.YtdglddliggejdaaGreatPTCSUn5
import Derived.Test.YtdglddliggejdaaGreatCSUn5
import Derived.Test.YtdglddliggejdaaGreatCMatch2
import Derived.Test.YtdglddliggejdaaGreatPTCOwn
import Derived.Test.YtdglddliggejdaaGreatPUnifT
import Derived.Test.YtdglddliggejdaaGreatNm
import Derived.Test.YtdglddliggejdaaGreatCSplit
set_option linter.unusedVariables false
set_option linter.unusedSimpArgs false
set_option linter.all false
set_option linter.unusedVariables false
set_option linter.unusedSimpArgs false
set_option maxRecDepth 20000
namespace Go.Sim
open Go Go.RowKit

theorem Yet {c d:Nat} (hc:V12 c=true) (hd:V12 d=true) (h:Zqp c=Zqp d):c=d:=by
 obtain ⟨k,hk,hkv,hix⟩:=Znp hc
 obtain ⟨k',hk',hkv',hix'⟩:=Znp hd
 unfold Zqp at h
 rw [hix,hix'] at h
 have:k=k':=by simpa using h
 subst this
 rw [hkv] at hkv'
 exact Option.some.inj hkv'
def tg (σ:Nat→Option Ty) (F:Nat→Ty) (k:Nat):Nat→Option Ty:=fun c=>if V12 c=true∧Zqp c < k∧σ c≠none then some (F c) else none
theorem Yfg {P:Ty→Prop} (hP:∀ t,P t→okL Zro t=true) (hPs:∀ t,P t→∀ p∈t.ps,P p) {S:Nat→Prop} {h:Zaa} {a b:Ty} {va vb:List Zal} (hS:∀ j,S j→j < h.length) (ha:P a) (hb:P b) (ra:Zeg S h a va) (rb:Zeg S h b vb) :
  Zae pg Zlr [.agg va,.agg vb] h fun v h'=>Zaz h.length h h'∧∃ q bl,v=.tup [.ptr (some (q,0)),.bool bl]∧((bl=true∧∃ σ F,Rsv V12 σ F∧(∀ θ,Sol V12 σ θ ↔ sb V12 θ a=sb V12 θ b)∧Inc Zqp V12 σ∧(∀ c t,σ c=some t→P (.k c)∧P t) ∧
   ∃ S',(∀ j,S' j→j≠q)∧Zqi S' h' q (tg σ F 12)) ∨ (bl=false∧∀ θ:Nat→Ty,sb V12 θ a≠sb V12 θ b)):=by
 obtain ⟨aa,ca,ea,rfl⟩:=ra.shape
 obtain ⟨ab,cb,eb,rfl⟩:=rb.shape
 apply Zfe.call
 rw [← Yhw]
 simp only [Zaw]
 generalize hh0:h ++ [Zcj.cells Zab [.int .u8 (a.hd:Int),.slice aa a.ps.length ca ea] false]=h0
 generalize hh1:h0 ++ [Zcj.cells Zab [.int .u8 (b.hd:Int),.slice ab b.ps.length cb eb] false]=h1
 generalize hh2:h1 ++ [Zcj.cells Zct (Zeu eR (List.replicate 12 (Zal.int .u8 0,Zal.slice none 0 0 true))) false]=h2
 have s0:Zaz h.length h h0:=by rw [← hh0]; exact Zaq
 have s1:Zaz h0.length h0 h1:=by rw [← hh1]; exact Zaq
 have s2:Zaz h1.length h1 h2:=by rw [← hh2]; exact Zaq
 have l0:h0.length=h.length + 1:=by rw [← hh0]; simp
 have l1:h1.length=h.length + 2:=by rw [← hh1]; simp [l0]
 have l2:h2.length=h.length + 3:=by rw [← hh2]; simp [l1]
 have oa0:h0[h.length]?=some (.cells Zab [.int .u8 (a.hd:Int),.slice aa a.ps.length ca ea] false):=by rw [← hh0]; simp
 have oa:=(s1.cat s2).get oa0 (Own.lt oa0)
 have ob1:h1[h0.length]?=some (.cells Zab [.int .u8 (b.hd:Int),.slice ab b.ps.length cb eb] false):=by rw [← hh1]; simp
 have ob:=s2.get ob1 (Own.lt ob1)
 have om:h2[h1.length]?=some (.cells Zct (Zeu eR (List.replicate 12 (Zal.int .u8 0,Zal.slice none 0 0 true))) false):=by rw [← hh2]; simp
 have S2:=(s0.cat s1).cat s2
 rw [Zcg oa,Zcg ob]
 simp only [Zas,Zai,Zar,Zam,Zag]
 refine (Ygq (S:=S) (i:=h1.length) hP hPs _ _ (Nat.le_refl _) (Nat.le_refl _) Rsv.nil (fun c d hc=>by cases hc) (fun c t hc=>by cases hc) (Zqi.nil om) (fun j hj=>⟨by have:=hS j hj; omega,by have:=hS j hj; omega⟩) ha hb (ra.same S2) (rb.same S2)).mono ?_
 rintro v h3 ⟨K3,⟨rfl,σ,F,m3,rs,hsol,hi,hσ,_⟩ | ⟨rfl,hno⟩⟩
 ·have hdom:∀ c u,σ c=some u→V12 c=true∧okL Zro u=true:=fun c u h=>⟨rs.dom c u h,hP u (hσ c u h).2⟩
  simp only [Zah,Bool.not_true,Zax]
  have l3:=K3.le
  have S3:Zaz h.length h h3:=⟨by omega,fun j hj=>by rw [K3.eq j (by omega) (by omega)]; exact S2.eq j hj⟩
  generalize hhB:h3 ++ [Zcj.cells Zct (Zeu eR (List.replicate 12 (Zal.int .u8 0,Zal.slice none 0 0 true))) false]=hB
  have sB:Zaz h3.length h3 hB:=by rw [← hhB]; exact Zaq
  have oB:hB[h3.length]?=some (.cells Zct (Zeu eR (List.replicate 12 (Zal.int .u8 0,Zal.slice none 0 0 true))) false):=by rw [← hhB]; simp
  have lB:hB.length=h3.length + 1:=by rw [← hhB]; simp
  have mB:=m3.same sB
  have hSB:∀ j,S j→j < h3.length:=fun j hj=>by have:=hS j hj; omega
  have tg0:tg σ F 0=fun _=>none:=by funext c; simp [tg]
  refine Zfe.L6ind (J:=fun (k:Nat) x19 h'=>x19=(k:Int)∧k≤12∧Zfv h3.length hB h'∧Zqi (fun j=>hB.length≤j) h' h3.length (tg σ F k)) (m:=fun k=>12 - k) (hr:=?_) (g:=0) (hj:=⟨rfl,by omega,Zfv.refl _ _,by rw [tg0]; exact Zqi.nil oB⟩)
  rintro k x19 h4 ⟨rfl,hk,K4,mo⟩ R hR
  unfold Zfe.L6t
  have l4:=K4.le
  refine Zan (fun hlt=>?_) (fun hge=>?_)
  ·have hk12:k < 12:=by omega
   obtain ⟨v,hv⟩:∃ v,Zfk[k]?=some v:=⟨_,List.getElem?_eq_getElem (show k < Zfk.length from hk12)⟩
   have hvv:=Ynv hv
   have hrv:Zqp v=k:=by
    obtain ⟨k',hk',hkv',hix'⟩:=Znp hvv
    have h5:=List.getElem?_eq_some_iff.1 hv
    have h6:=List.getElem?_eq_some_iff.1 hkv'
    have:k=k':=(List.getElem_inj (h₀:=h5.1) (h₁:=h6.1) Zyo).1 (h5.2.trans h6.2.symm)
    unfold Zqp; rw [hix',this]; rfl
   have m4:Zqi S h4 h1.length σ:=mB.keep (K4.eq _ (by omega) (by omega)) fun j hj _=>K4.eq j (by have:=hSB j hj; omega) (by have:=hSB j hj; omega)
   obtain ⟨x,hx1,hx2,hx3⟩:=m4.get hv
   have next:∀ h',Zfv h3.length hB h'→Zqi (fun j=>hB.length≤j) h' h3.length (tg σ F (k + 1))→Zfe.J10 (fun v h'=>Zaz h.length h h'∧∃ q bl,v=.tup [.ptr (some (q,0)),.bool bl]∧((bl=true∧∃ σ F,Rsv V12 σ F∧(∀ θ,Sol V12 σ θ ↔ sb V12 θ a=sb V12 θ b)∧Inc Zqp V12 σ∧(∀ c t,σ c=some t→P (.k c)∧P t) ∧
     ∃ S',(∀ j,S' j→j≠q)∧Zqi S' h' q (tg σ F 12)) ∨ (bl=false∧∀ θ:Nat→Ty,sb V12 θ a≠sb V12 θ b))) R (k:Int) h1.length 0 h3.length 0 h':=by
    intro h' K' m'
    apply Zfe.J10i
    rw [Zbn (by omega)]
    exact hR (k + 1) _ _ (by omega) ⟨rfl,by omega,K',m'⟩
   simp only [Int.toNat_natCast,hx1]
   cases hs:σ v with
   | none=>
    rw [hs] at hx3
    simp only at hx3
    subst hx3
    simp only [Zam,show ((0:Int) == 0)=true from rfl,Bool.not_true,Zax]
    have:tg σ F (k + 1)=tg σ F k:=by
     funext c
     unfold tg
     by_cases hc:V12 c=true∧σ c≠none
     ·have hne:Zqp c≠k:=fun e=>hc.2 (by rw [Yet hc.1 hvv (by rw [e,hrv])]; exact hs)
      have:(Zqp c < k + 1) ↔ Zqp c < k:=by omega
      simp [hc,this]
     ·have h1:¬ (V12 c=true∧Zqp c < k + 1∧σ c≠none):=fun h=>hc ⟨h.1,h.2.2⟩
      have h2:¬ (V12 c=true∧Zqp c < k∧σ c≠none):=fun h=>hc ⟨h.1,h.2.2⟩
      rw [if_neg h1,if_neg h2]
    refine ⟨by omega,next h4 K4 (by rw [this]; exact mo)⟩
   | some t=>
    rw [hs] at hx3
    simp only at hx3
    have htok:=(hdom _ _ hs).2
    obtain ⟨wa,wc,we,hwx⟩:=hx3.shape
    simp only [List.cons.injEq,and_true] at hwx
    obtain ⟨hw1,hw2⟩:=hwx
    have hne:((t.hd:Int) == 0)=false:=by
     have:=Zqb htok
     have hne:t.hd≠0:=fun e=>by rw [e] at this; simp at this
     simp; omega
    rw [hw1,hw2] at hx2 hx3
    rw [hw1]
    simp only [Zam,hne,Bool.not_false,Zbr,hx2,Zas,Zai,Zar,Zag]
    refine ⟨by omega,by omega,(Yjp rs hdom _ (Nat.le_refl _) m4 (fun j hj=>⟨by have:=hSB j hj; omega,by have:=hS j hj; omega⟩) htok hx3).mono ?_⟩
    rintro v5 h5 ⟨s5,vs,rfl,r5⟩
    obtain ⟨fa,fc,fe,rfl⟩:=r5.shape
    simp only [Zdf,Zai,Zar,Zam,Zag]
    have l5:=s5.le
    obtain ⟨h6,hst,K6,m6⟩:=(mo.same s5).put (fun j hj=>by omega) hv (t:=sb V12 F t) (x:=.int .u8 ((sb V12 F t).hd:Int)) (y:=.slice fa (sb V12 F t).ps.length fc fe) (r5.mono fun j hj=>by omega)
    rw [hst]
    simp only [Zau]
    have:tg σ F (k + 1)=upd (tg σ F k) v (sb V12 F t):=by
     funext c
     unfold upd
     by_cases e:c=v
     ·subst e
      rw [if_pos rfl,← rs.som c t hs]
      unfold tg
      rw [if_pos ⟨hvv,by omega,by rw [hs]; simp⟩]
     ·rw [if_neg e]
      unfold tg
      by_cases hc:V12 c=true
      ·have hne:Zqp c≠k:=fun e'=>e (Yet hc hvv (by rw [e',hrv]))
       have:(Zqp c < k + 1) ↔ Zqp c < k:=by omega
       simp [this]
      ·simp [hc]
    exact ⟨by omega,next h6 ((K4.trans (Yfs s5)).trans K6) (by rw [this]; exact m6)⟩
  ·apply Zfe.A6x0i
   have:k=12:=by omega
   subst this
   refine ⟨⟨by omega,fun j hj=>by rw [K4.eq j (by omega) (by omega),sB.eq j (by omega)]; exact S3.eq j hj⟩,_,_,rfl,.inl ⟨rfl,σ,F,rs,fun θ=>?_,hi,hσ,_,fun j hj=>?_,mo⟩⟩
   ·rw [hsol θ]; exact ⟨And.right,fun h=>⟨Sol.nil,h⟩⟩
   ·have:hB.length≤j:=hj
    omega
 ·simp only [Zah,Bool.not_false,Zbr]
  refine ⟨⟨by have:=K3.le; omega,fun j hj=>by rw [K3.eq j (by omega) (by omega)]; exact S2.eq j hj⟩,_,_,rfl,.inr ⟨rfl,fun θ=>hno θ Sol.nil⟩⟩
theorem Zza (s t:List Nat) (hs0:s.length≤1048576) (ht0:t.length≤1048576) (h:Zaa):Zae pg Zla [.str s,.str t] h fun v h'=>v=.bool (Zmh s t)∧Zaz h.length h h':=by
 apply Zkp.call
 refine (Zok s (by omega) h).mono ?_
 rintro v h1 ⟨s1,vs1,rfl,r1⟩
 obtain ⟨d1,a1,n1,c1,e1,rfl⟩:=Zow r1
 simp only [Zdo,Zai,Zdf,Zam,Zag,Zar,Zah,Zaw]
 rw [Zin]
 generalize hh2:h1 ++ [Zcj.cells Zab [.int .u8 d1,.slice a1 n1 c1 e1] false]=h2
 have s2:Zaz h1.length h1 h2:=by rw [← hh2]; exact Zaq
 have o2:h2[h1.length]?=some (.cells Zab [.int .u8 d1,.slice a1 n1 c1 e1] false):=by rw [← hh2]; simp
 simp only [Zau]
 refine (Zok t (by omega) h2).mono ?_
 rintro v h3 ⟨s3,vs3,rfl,r3⟩
 obtain ⟨d3,a3,n3,c3,e3,rfl⟩:=Zow r3
 simp only [Zdo,Zai,Zdf,Zam,Zag,Zar,Zah]
 rw [Zin]
 generalize hh4:h3 ++ [Zcj.cells Zab [.int .u8 d3,.slice a3 n3 c3 e3] false]=h4
 have s4:Zaz h3.length h3 h4:=by rw [← hh4]; exact Zaq
 have o4:h4[h3.length]?=some (.cells Zab [.int .u8 d3,.slice a3 n3 c3 e3] false):=by rw [← hh4]; simp
 simp only [Zau]
 have S2:=s1.cat s2
 have S4:=(S2.cat s3).cat s4
 have o24:=s4.get (s3.get o2 (Own.lt o2)) (by have:=Own.lt o2; have:=s3.le; omega)
 cases hp:Zhv s with
 | none=>
  have:Znz s=false:=by unfold Znz; rw [hp]; rfl
  rw [this]
  simp only [Bool.not_false,Zbr]
  exact ⟨by rw [Ztl (by rw [this]; rfl)],S4⟩
 | some a=>
  rw [Zsb hp]
  simp only [Bool.not_true,Zax]
  cases ht:Zhv t with
  | none=>
   have:Znz t=false:=by unfold Znz; rw [ht]; rfl
   rw [this]
   simp only [Bool.not_false,Zbr]
   exact ⟨by rw [Ztl (by rw [this]; simp)],S4⟩
  | some b=>
   rw [Zsb ht]
   rw [hp] at r1
   rw [ht] at r3
   simp only at r1 r3
   obtain ⟨ha1,ha2,ha3⟩:=Zep.1 hp
   obtain ⟨hb1,hb2,hb3⟩:=Zep.1 ht
   simp only [Bool.not_true,Zax]
   apply Zkp.J5i
   rw [Zcg o24,Zcg o4]
   simp only [Zas,Zai,Zar,Zam,Zag,true_and]
   have l1:=s1.le; have l2:=s2.le; have l3:=s3.le; have l4:=s4.le
   refine (Ybt _ (Nat.le_refl _) (S:=fun j=>j < h4.length) (fun j hj=>hj) hb1 ((r3.same s4).below.mono fun j hj=>hj.2)).mono ?_
   rintro v h5 ⟨s5,vs5,rfl,r5⟩
   obtain ⟨a5,c5,e5,rfl⟩:=r5.shape
   have o25:=s5.get o24 (Own.lt o24)
   simp only [Zdf,Zai,Zar,Zam,Zag]
   refine ⟨Zcg o25,?_⟩
   refine (Yfg (P:=fun t=>okL Zro t=true) (fun t h=>h) (fun t h p hp=>Yiy h p hp) (S:=fun j=>j < h5.length) (fun j hj=>hj) (Zth (lf:=Zfi) (fun c hc=>by unfold Zro; rw [hc]; rfl) (by rw [Yef]; exact ha1)) (Zxh hb1) (((((r1.same s2).same s3).same s4).same s5).below.mono fun j hj=>hj.2) (r5.below.mono fun j hj=>hj.2)).mono ?_
   rintro v h6 ⟨s6,q,bl,rfl,hres⟩
   simp only [Zdo,Zai,Zda,Zah,Zar]
   have hap:Zmh s t=true ↔ ¬ ∃ θ:Nat→Ty,sb V12 θ a=sb V12 θ (Zqh b):=by
    rw [Ydj ha1 hb1]
    unfold Zmh; rw [hp,ht]; simp
   refine ⟨?_,(S4.cat s5).cat s6⟩
   rcases hres with ⟨rfl,σ,F,rs,hsol,_⟩ | ⟨rfl,hno⟩
   ·have:Zmh s t=false:=by
     cases hq:Zmh s t with
     | false=>rfl
     | true=>exact absurd ⟨F,(hsol F).1 rs.solF⟩ (hap.1 hq)
    rw [this]; rfl
   ·rw [hap.2 fun ⟨θ,h⟩=>hno θ h]; rfl
end Go.Sim

set_option linter.unusedVariables false
set_option linter.unusedSimpArgs false
set_option maxRecDepth 20000
namespace Go.Sim
open Go Go.RowKit

def Ynj (p:Nd):Prop:=Ztf p.1.length∧Ztf p.2.length∧(∀ b∈p.1,b < 256)∧∀ b∈p.2,b < 256
theorem Yhc {P:Program} {h:Zaa} {f:Nat} {e:TypeId} {f0 f1:Field} {v:List Zal} {d:Dt} (he:P.underlying e=some (.struct #[f0,f1])) (h0:P.underlying f0.type=some .string) (h1:P.underlying f1.type=some .string) (hr:rd P h (f + 2) e v d) :
  ∃ p:Nd,v=eP p∧Ynj p:=by
 unfold rd at hr
 rw [he] at hr
 obtain ⟨ds',vs',rfl,hd1,hd2,rfl,hall'⟩:=hr
 match vs',ds',hd2,hd1 with
 | [u,w],[x,y],_,_=>
  have g0:=(hall' 0 f0 u x rfl rfl rfl).2
  have g1:=(hall' 1 f1 w y rfl rfl rfl).2
  simp only [rd,h0] at g0
  simp only [rd,h1] at g1
  obtain ⟨s,rfl,_,hs1,hs2⟩:=g0
  obtain ⟨t,rfl,_,ht1,ht2⟩:=g1
  exact ⟨(s,t),rfl,hs1,ht1,hs2,ht2⟩
theorem Yhq {P:Program} {h:Zaa} {f:Nat} {e:TypeId} {α:Type} {enc:α→List Zal} {G:α→Prop} (el:∀ v d,rd P h f e v d→∃ x:α,v=enc x∧G x) :
  ∀ (vs:List (List Zal)) (ds:List Dt),ds.length=vs.length→(∀ (i:Nat) (v:List Zal) (x:Dt),vs[i]?=some v→ds[i]?=some x→v.length=P.cellsOf e∧rd P h f e v x) →
  ∃ l:List α,l.length=vs.length∧vs.flatten=Zeu enc l∧∀ x∈l,G x
 | [],_,_,_=>⟨[],rfl,rfl,by simp⟩
 | v :: vs,[],h,_=>by simp at h
 | v :: vs,d :: ds,hl,hall=>by
  obtain ⟨l,hll,hfl,hs⟩:=Yhq el vs ds (by simpa using hl) fun i v x hv hx=>hall (i + 1) v x (by simpa using hv) (by simpa using hx)
  obtain ⟨x,rfl,hx⟩:=el v d (hall 0 v d rfl rfl).2
  exact ⟨x :: l,by simp [hll],by simp [hfl],fun y hy=>(List.mem_cons.1 hy).elim (fun e=>e ▸ hx) (hs y)⟩
theorem Yja {P:Program} {h:Zaa} {f:Nat} {t e:TypeId} {α:Type} {enc:α→List Zal} {G:α→Prop} {cs:List Zal} {d:Dt} (ht:P.underlying t=some (.slice e)) (el:∀ v d,rd P h f e v d→∃ x:α,v=enc x∧G x) (hr:rd P h (f + 1) t cs d) :
  ∃ a n c ex,∃ l:List α,cs=[.slice a n c ex]∧Row h.length h a (n * P.cellsOf e) (Zeu enc l)∧Ztf n∧l.length=n∧∀ x∈l,G x:=by
 unfold rd at hr
 rw [ht] at hr
 obtain ⟨a,n,c,ex,ds,vs,rfl,rfl,hdl,hn,hvl,hrow,hall⟩:=hr
 obtain ⟨l,hll,hfl,hs⟩:=Yhq el vs ds (by omega) hall
 rw [hfl] at hrow
 exact ⟨a,n,c,ex,l,rfl,hrow,hn,by omega,hs⟩
theorem Ydt {P:Program} {h:Zaa} {f:Nat} {t e:TypeId} {f0 f1:Field} {cs:List Zal} {d:Dt} (ht:P.underlying t=some (.slice e)) (he:P.underlying e=some (.struct #[f0,f1])) (h0:P.underlying f0.type=some .string) (h1:P.underlying f1.type=some .string) (hc:P.cellsOf e=2)
  (hr:rd P h (f + 3) t cs d):∃ a n c ex,∃ l:List Nd,cs=[.slice a n c ex]∧Row h.length h a (n * 2) (Zeu eP l)∧Ztf n∧l.length=n∧∀ p∈l,Ynj p:=by
 have:=Yja (enc:=eP) (G:=Ynj) ht (fun v d hr=>Yhc he h0 h1 hr) hr
 rwa [hc] at this
def Yqv (h:Zaa) (x:EI):Prop:=∃ i:Ins,Yoe h x i∧Ynj i.1∧Ztf i.2.length∧∀ p∈i.2,Ynj p
theorem Yoo {P:Program} {h:Zaa} {f:Nat} {ti tn ts:TypeId} {g0 g1 f0 f1:Field} {v:List Zal} {d:Dt} (hi:P.underlying ti=some (.struct #[g0,g1])) (hg0:g0.type=tn) (hg1:g1.type=ts)
  (he:P.underlying tn=some (.struct #[f0,f1])) (h0:P.underlying f0.type=some .string) (h1:P.underlying f1.type=some .string) (hc:P.cellsOf tn=2) (ht:P.underlying ts=some (.slice tn)) (hr:rd P h (f + 4) ti v d) :
  ∃ x:EI,v=eN x∧Yqv h x:=by
 unfold rd at hr
 rw [hi] at hr
 obtain ⟨ds',vs',rfl,hd1,hd2,rfl,hall'⟩:=hr
 match vs',ds',hd2,hd1 with
 | [u,w],[x,y],_,_=>
  have k0:=(hall' 0 g0 u x rfl rfl rfl).2
  have k1:=(hall' 1 g1 w y rfl rfl rfl).2
  rw [hg0] at k0
  rw [hg1] at k1
  obtain ⟨p,rfl,hp⟩:=Yhc (f:=f + 1) he h0 h1 k0
  obtain ⟨a,n,c,ex,l,rfl,hrow,hn,hll,hl⟩:=Ydt (f:=f) ht he h0 h1 hc k1
  exact ⟨⟨p.1,p.2,a,n,c,ex⟩,rfl,(p,l),⟨rfl,rfl,hrow⟩,hp,by rw [hll]; exact hn,hl⟩
theorem Zua {h:Zaa}:∀ {xs:List EI},(∀ x∈xs,Yqv h x)→∃ is:List Ins,Yjx h xs is∧∀ i∈is,Ynj i.1∧Ztf i.2.length∧∀ p∈i.2,Ynj p
 | [],_=>⟨[],⟨rfl,by simp⟩,by simp⟩
 | x :: xs,hx=>by
  obtain ⟨is,⟨hl,hr⟩,hb⟩:=Zua (xs:=xs) fun y hy=>hx y (by simp [hy])
  obtain ⟨i,hi,hib⟩:=hx x (by simp)
  refine ⟨i :: is,⟨by simp [hl],fun k y j hy hj=>?_⟩,fun j hj=>(List.mem_cons.1 hj).elim (fun e=>e ▸ hib) (hb j)⟩
  cases k with
  | zero=>simp at hy hj; subst hy; subst hj; exact hi
  | succ k=>simp at hy hj; exact hr k y j hy hj
theorem rd_world {P:Program} {h:Zaa} {f:Nat} {tw tc tcs ti tis tn ts:TypeId} {w0 w1 q0 q1 g0 g1 f0 f1:Field} {cs:List Zal} {d:Dt} (hw:P.underlying tw=some (.struct #[w0,w1])) (hw0:w0.type=tcs) (hw1:w1.type=tis)
  (hcs:P.underlying tcs=some (.slice tc)) (hct:P.underlying tc=some (.struct #[q0,q1])) (hq0:P.underlying q0.type=some .string) (hq1:P.underlying q1.type=some .string) (hcc:P.cellsOf tc=2)
  (his:P.underlying tis=some (.slice ti)) (hic:P.cellsOf ti=3) (hi:P.underlying ti=some (.struct #[g0,g1])) (hg0:g0.type=tn) (hg1:g1.type=ts)
  (he:P.underlying tn=some (.struct #[f0,f1])) (h0:P.underlying f0.type=some .string) (h1:P.underlying f1.type=some .string) (hc:P.cellsOf tn=2) (ht:P.underlying ts=some (.slice tn)) (hr:rd P h (f + 6) tw cs d) :
  ∃ a0 n0 c0 e0 a1 n1 c1 e1,∃ w:Wd,cs=[.slice a0 n0 c0 e0,.slice a1 n1 c1 e1]∧(n0≤c0→n1≤c1→Zph h a0 n0 c0 a1 n1 c1 w)∧Ypz w:=by
 unfold rd at hr
 rw [hw] at hr
 obtain ⟨ds',vs',rfl,hd1,hd2,rfl,hall'⟩:=hr
 match vs',ds',hd2,hd1 with
 | [u,v],[x,y],_,_=>
  have k0:=(hall' 0 w0 u x rfl rfl rfl).2
  have k1:=(hall' 1 w1 v y rfl rfl rfl).2
  rw [hw0] at k0
  rw [hw1] at k1
  obtain ⟨a0,n0,c0,e0,l0,rfl,hrow0,hn0,hl0,hb0⟩:=Ydt (f:=f + 2) hcs hct hq0 hq1 hcc k0
  obtain ⟨a1,n1,c1,e1,l1,rfl,hrow1,hn1,hl1,hb1⟩:=Yja (f:=f + 4) (enc:=eN) (G:=Yqv h) his (fun v d hr=>Yoo hi hg0 hg1 he h0 h1 hc ht hr) k1
  rw [hic] at hrow1
  obtain ⟨is,hrep,hib⟩:=Zua hb1
  refine ⟨a0,n0,c0,e0,a1,n1,c1,e1,⟨l0,is⟩,rfl,fun k0 k1=>⟨hrow0,⟨l1,hrow1,hrep⟩,k0,k1⟩,?_⟩
  refine ⟨by rw [show (Wd.mk l0 is).cs.length=n0 from hl0]; exact hn0,?_,fun p hp=>⟨(hb0 p hp).1,(hb0 p hp).2.1,(hb0 p hp).2.2.1⟩,fun i hi=>?_⟩
  ·have:is.length=n1:=by have:=hrep.1; omega
   show Ztf is.length
   rw [this]; exact hn1
  ·obtain ⟨p1,p2,p3⟩:=hib i hi
   exact ⟨p1.1,p1.2.1,p2,fun p hp=>⟨(p3 p hp).1,(p3 p hp).2.1⟩⟩

end Go.Sim

set_option linter.unusedVariables false
set_option linter.unusedSimpArgs false
set_option maxRecDepth 20000
namespace Go.Sim
open Go Go.RowKit

noncomputable def Ymu (w:Wd) (x:Int):Bool:=decide (x ≥ 0) && decide (x < (w.is.length:Nat))
noncomputable def Yas (w:Wd) (x y:Int):Bool:=Zdw w && Ymu w x && Ymu w y && Zqe (w.is.getD x.toNat (([],[]),[])) (w.is.getD y.toNat (([],[]),[]))
theorem Zxo {w:Wd} {k:Nat} (h:k < w.is.length):Ymu w (k:Int)=true:=by unfold Ymu; simp; omega
theorem Ydg {w:Wd} {x:Int} (h:Ymu w x=true):∃ k:Nat,x=k∧k < w.is.length:=by
 unfold Ymu at h; simp at h; exact ⟨x.toNat,by omega,by omega⟩
theorem Zoz {h:Zaa} {a a':Pt} {n c n' c':Nat} {e e':Bool} {i k:Ins} :
  Zae pg Zgb [.agg [.str i.1.1,.str i.1.2,.slice a n c e],.agg [.str k.1.1,.str k.1.2,.slice a' n' c' e']] h fun v h'=>v=.bool (Zqe i k)∧Zaz h.length h h':=by
 apply Zps.call
 simp only [Zaw]
 generalize hh0:h ++ [Zcj.cells Zac [.str i.1.1,.str i.1.2,.slice a n c e] false]=h0
 generalize hh1:h0 ++ [Zcj.cells Zac [.str k.1.1,.str k.1.2,.slice a' n' c' e'] false]=h1
 have s0:Zaz h.length h h0:=by rw [← hh0]; exact Zaq
 have s1:Zaz h0.length h0 h1:=by rw [← hh1]; exact Zaq
 have o0:h0[h.length]?=some (.cells Zac [.str i.1.1,.str i.1.2,.slice a n c e] false):=by rw [← hh0]; simp
 have o1:=s1.get o0 (Own.lt o0)
 have k1:h1[h0.length]?=some (.cells Zac [.str k.1.1,.str k.1.2,.slice a' n' c' e'] false):=by rw [← hh1]; simp
 have S1:=s0.cat s1
 simp only [Zak o1,Zak k1,Nat.zero_add,List.getElem?_cons_succ,List.getElem?_cons_zero,Zap]
 refine Zan (fun he=>?_) (fun he=>⟨by unfold Zqe; simp [he],S1⟩)
 refine (Zxq k.1.2 i.1.2 h1).mono ?_
 rintro v h2 ⟨rfl,s2⟩
 simp only [Zah]
 exact ⟨by unfold Zqe; simp [he],S1.cat s2⟩
theorem Zlf {h:Zaa} {a0 a1:Pt} {n0 c0 n1 c1:Nat} {w:Wd} (r:Zph h a0 n0 c0 a1 n1 c1 w) {k:Nat} (hk:k < w.is.length) :
  ∃ i o a n cp e,a1=some (i,o)∧i < h.length∧Zbf h (.ptr (some (i,o + k * 3))) 3=some [.str w.is[k].1.1,.str w.is[k].1.2,.slice a n cp e]∧Zad h (.ptr (some (i,o + k * 3)))=some (.str w.is[k].1.1)∧Zad h (.ptr (some (i,o + k * 3 + 1)))=some (.str w.is[k].1.2)∧Row h.length h a (n * 2) (Zeu eP w.is[k].2)∧w.is[k].2.length=n:=by
 have hl:=r.len1
 obtain ⟨i,o,hk',a,n,cp,e,h1,h2,h3,h4,h5,h6,h7,h8⟩:=r.inst (k:=k) (by omega)
 exact ⟨i,o,a,n,cp,e,h1,h2,h3,h4,h5,h7,h8⟩
theorem Zrf {h:Zaa} {a0 a1:Pt} {n0 c0 n1 c1:Nat} {e0 e1:Bool} {w:Wd} {x y:Int} (r:Zph h a0 n0 c0 a1 n1 c1 w) (b:WB w) :
  Zae pg Zhq [.agg [.slice a0 n0 c0 e0,.slice a1 n1 c1 e1],.int .i64 x,.int .i64 y] h fun v h'=>v=.bool (Yas w x y)∧Zaz h.length h h':=by
 have hl1:=r.len1
 have hli:=b.li
 apply Zjw.call
 simp only [Zaw]
 generalize hh0:h ++ [Zcj.cells Zao [.slice a0 n0 c0 e0,.slice a1 n1 c1 e1] false]=h0
 have s0:Zaz h.length h h0:=by rw [← hh0]; exact Zaq
 have w0:h0[h.length]?=some (Zsq a0 n0 c0 e0 a1 n1 c1 e1):=by rw [← hh0]; simp [Zsq]
 rw [Ydp w0]
 simp only [Zas,Zai,Zar,Zag]
 refine (Zpw (r.same s0) b).mono ?_
 rintro v h2 ⟨rfl,s2⟩
 have S2:=s0.cat s2
 have w2:=s2.get w0 (Own.lt w0)
 simp only [Zah]
 refine Zbx (fun b1=>⟨by unfold Yas; rw [b1]; rfl,S2⟩) (fun b1=>?_)
 simp only [Zht w2,Nat.zero_add,List.getElem?_cons_succ,List.getElem?_cons_zero,Zag]
 rw [IntWalk.i64_in _ (by omega)]
 have hin:∀ z:Int,decide (0≤z∧z≤((n1:Nat):Int) - 1)=Ymu w z:=fun z=>by
  unfold Ymu; rw [hl1,Bool.eq_iff_iff]; simp; omega
 refine Zxe.mono ?_
 rintro v h3 ⟨rfl,rfl⟩
 simp only [Zah,hin]
 refine Zbx (fun b2=>⟨by unfold Yas; rw [b2]; simp,S2⟩) (fun b2=>?_)
 simp only [Zht w2,List.getElem?_cons_succ,List.getElem?_cons_zero,Zag]
 rw [IntWalk.i64_in _ (by omega)]
 refine Zxe.mono ?_
 rintro v h3 ⟨rfl,rfl⟩
 simp only [Zah,hin]
 refine Zbx (fun b3=>⟨by unfold Yas; rw [b3]; simp,S2⟩) (fun b3=>?_)
 obtain ⟨k,rfl,hk⟩:=Ydg b2
 obtain ⟨l,rfl,hl⟩:=Ydg b3
 apply Zjw.J3i
 obtain ⟨i,o,ka,kn,kc,ke,rfl,hi,_,hc1,hd1,_⟩:=Zlf (r.same S2) hk
 obtain ⟨i',o',la,ln,lc,le,he,hi',_,hc2,hd2,_⟩:=Zlf (r.same S2) hl
 cases he
 simp only [Zht w2,Nat.zero_add,Nat.add_zero,List.getElem?_cons_succ,List.getElem?_cons_zero,Zag,Zat,Int.toNat_natCast,hc1,hc2,hd1,hd2,Zap,true_and]
 have hval:Yas w (k:Int) (l:Int)=Zqe w.is[k] w.is[l]:=by
  unfold Yas
  rw [b1,Zxo hk,Zxo hl,Int.toNat_natCast,Int.toNat_natCast,Zhb hk,Zhb hl]; rfl
 refine ⟨by omega,by omega,Zan (fun he=>?_) (fun he=>⟨by rw [hval]; unfold Zqe; simp [he],S2⟩)⟩
 have hbk:=b.is _ (List.getElem_mem hk)
 have hbl:=b.is _ (List.getElem_mem hl)
 refine ⟨by omega,by omega,(Zvq _ _ hbl.2.1 hbk.2.1 _).mono ?_⟩
 rintro v h4 ⟨rfl,s4⟩
 have hce:∀ z,Zad h4 (.ptr (some (i,z)))=Zad h3 (.ptr (some (i,z))):=fun z=>by simp only [Zad,s4.eq i hi]
 simp only [Zah,Zht (s4.get w2 (Own.lt w2)),hce,hc1,List.getElem?_cons_succ,List.getElem?_cons_zero,true_and]
 exact ⟨by rw [hval]; unfold Zqe; simp [he],S2.cat s4⟩
end Go.Sim

set_option linter.unusedVariables false
set_option linter.unusedSimpArgs false
set_option maxRecDepth 20000
namespace Go.Sim
open Go Go.RowKit

theorem Yog:pg.underlying Zet=some (.slice Zna):=by kernel_rfl
theorem Yrf:pg.cellsOf Zna=1:=by kernel_rfl
theorem Yrn:pg.okElem Zna=true:=by kernel_rfl
theorem Yrs:pg.bytesOf Zna≤127:=Nat.le_of_ble_eq_true (by kernel_rfl)
def ixs {α:Type} (f:α→Bool) (l:List α):List Int:=(l.zipIdx.filter fun p=>f p.1).map fun p=>(p.2:Int)
end Go.Sim

set_option linter.unusedVariables false
set_option linter.unusedSimpArgs false
set_option maxRecDepth 20000
namespace Go.Sim
open Go Go.RowKit

noncomputable def Yro (n:Nd) (i:Ins):Bool:=decide (i.1.1=n.1) && Zvp i.1.2 n.2
noncomputable def Yri (w:Wd) (n:Nd):List Int:=ixs (Yro n) w.is
theorem Ymw {h:Zaa} {t:TypeId} {x y z a b c:Zal}:Zbe (h ++ [.cells t [x,y,z] false]) (.ptr (some (h.length,0))) [a,b,c]=some (h ++ [.cells t [a,b,c] false]):=Zsg rfl
theorem Zdk.low {α:Type} {ty:TypeId} {enc:α→List Zal} {b b':Nat} {h:Zaa} {a:Pt} {n:Nat} {l:List α} (f:Zdk ty enc b h a n l) (hb:b'≤b):Zdk ty enc b' h a n l:=
 ⟨f.1,f.2.imp id fun ⟨i,ha,hbi,hi⟩=>⟨i,ha,by omega,hi⟩⟩
end Go.Sim

set_option linter.unusedVariables false
set_option linter.unusedSimpArgs false
set_option maxRecDepth 20000
namespace Go.Sim
open Go Go.RowKit

def Zuo (w:Wd) (x:Int):Ins:=w.is.getD x.toNat (([],[]),[])
theorem Yel {w:Wd} {k:Nat} (h:k < w.is.length):Zuo w (k:Int)=w.is[k]:=by unfold Zuo; rw [Int.toNat_natCast,Zhb h]
noncomputable def Yra (w:Wd) (l:List Int) (x:Int):Bool:=l.all fun k=>Zqe (Zuo w x) (Zuo w k)
noncomputable def Yrb (w:Wd) (l:List Int):Int:=match l.find? (Yra w l) with | some x=>x | none=>-1
theorem Row.i64 {b:Nat} {h:Zaa} {a:Pt} {n:Nat} {l:List Int} (r:Row b h a n (Zeu eI l)) {k:Nat} (hk:k < n):∃ i o,∃ hk':k < l.length,a=some (i,o)∧i < b∧Zad h (.ptr (some (i,o + k * 1)))=some (.int .i64 l[k]):=by
 obtain ⟨i,o,hk',ha,hi,hc⟩:=Row.el1 Ypk r hk
 exact ⟨i,o,hk',ha,hi,hc⟩
end Go.Sim

set_option linter.unusedVariables false
set_option linter.unusedSimpArgs false
set_option maxRecDepth 20000
namespace Go.Sim
open Go Go.RowKit

theorem Zrr.mono {S S':Nat→Prop} {h:Zaa} {i:Nat} {m:Bd} (r:Zrr S h i m) (hs:∀ j,S j→S' j):Zrr S' h i m:=by
 obtain ⟨rows,h1,h2,h3⟩:=r
 refine ⟨rows,h1,h2,fun k x hx=>?_⟩
 have:=h3 k x hx
 split at this
 ·exact this.mono hs
 ·exact this
theorem Zrr.below {S:Nat→Prop} {h:Zaa} {i:Nat} {m:Bd} (r:Zrr S h i m):Zrr (fun j=>S j∧j < h.length) h i m:=by
 obtain ⟨rows,h1,h2,h3⟩:=r
 refine ⟨rows,h1,h2,fun k x hx=>?_⟩
 have:=h3 k x hx
 split at this
 ·exact Zeg.below this
 ·exact this
end Go.Sim

set_option linter.unusedSimpArgs false
set_option linter.unusedVariables false
namespace Go.Sim
structure Zwi (G:Gr) (N:List Nat) (lk:Nat→Option Nat) (a b:Nat) (lk':Nat→Option Nat):Prop where
 ext:Zyx lk lk'
 gok:GOk G N lk'
 jnd:Jnd lk' a b
 new:∀ n m,n∈N→lk' n=some m→lk n=some m ∨ Yos G lk' n m
 pres:∀ val,Str G N val→val a=val b→Rsp N lk val→Rsp N lk' val
def UNo (G:Gr) (N:List Nat) (lk:Nat→Option Nat) (a b:Nat):Prop:=∀ val,Str G N val→Rsp N lk val→val a≠val b
structure Yjs (G:Gr) (N:List Nat) (lk:Nat→Option Nat) (a b:Nat) (lk':Nat→Option Nat) (i:Nat):Prop where
 ext:Zyx (lnk lk a b) lk'
 gok:GOk G N lk'
 jn:∀ j p q,j < i→(G.ps a)[j]?=some p→(G.ps b)[j]?=some q→Jnd lk' p q
 new:∀ n m,n∈N→lk' n=some m→lnk lk a b n=some m ∨ Yos G lk' n m
 pres:∀ val,Str G N val→val a=val b→Rsp N lk val→Rsp N lk' val
section
variable {G:Gr} {N:List Nat} {lk lk' lk'':Nat→Option Nat} {a b p q i:Nat}
theorem Yjs.start (g:GOk G N lk) (hb:b∈N) (ha0:lk a=none) (hb0:lk b=none) (hne:a≠b):Yjs G N lk a b (lnk lk a b) 0:=
 ⟨Zyx.refl _,g.link hb ha0 hb0 hne,fun j p q h=>by omega,fun n m _ h=>.inl h,fun val _ he hr=>hr.link he⟩
theorem Yjs.step (u:Yjs G N lk a b lk' i) (hp:(G.ps a)[i]?=some p) (hq:(G.ps b)[i]?=some q) (ha:Zbc (G.hd a)=false) (haN:a∈N) (hbN:b∈N) (hh:G.hd a=G.hd b) (y:Zwi G N lk' p q lk''):Yjs G N lk a b lk'' (i + 1):=by
 refine ⟨u.ext.trans y.ext,y.gok,fun j p' q' hj hp' hq'=>?_,fun n m hn h=>?_,fun val hs he hr=>?_⟩
 ·by_cases e:j=i
  ·subst e; rw [hp] at hp'; rw [hq] at hq'; cases hp'; cases hq'; exact y.jnd
  ·exact (u.jn j p' q' (by omega) hp' hq').ext y.ext
 ·rcases y.new n m hn h with h | h
  ·rcases u.new n m hn h with h | h
   ·exact .inl h
   ·exact .inr (h.ext y.ext)
  ·exact .inr h
 ·refine y.pres val hs ?_ (u.pres val hs he hr)
  have h1:=(hs a haN ha).2
  have h2:=(hs b hbN (by rw [← hh]; exact ha)).2
  rw [he,h2] at h1
  have:=congrArg (·[i]?) h1
  simp only [List.getElem?_map,hp,hq,Option.map_some,Option.some.injEq] at this
  exact this.symm
theorem Yjs.done (u:Yjs G N lk a b lk' (G.ps a).length) (ha0:lk a=none) (hf:Zbc (G.hd a)=false→G.hd b=G.hd a) (hv:Zbc (G.hd a)=true→Zbc (G.hd b)=true→G.hd a≤G.hd b):Zwi G N lk a b lk':=by
 have hab:lk' a=some b:=u.ext a b (by simp [lnk])
 refine ⟨(Zya ha0).trans u.ext,u.gok,.of_path (.step hab .refl),fun n m hn h=>?_,u.pres⟩
 rcases u.new n m hn h with h | h
 ·unfold lnk at h
  by_cases e:n=a
  ·rw [if_pos e] at h; cases h; subst e
   exact .inr ⟨fun hn'=>⟨hf hn',fun j p q h1 h2=>u.jn j p q (List.getElem?_eq_some_iff.1 h1).1 h1 h2⟩,hv⟩
  ·rw [if_neg e] at h; exact .inl h
 ·exact .inr h
theorem Yjs.fail (u:Yjs G N lk a b lk' i) (hp:(G.ps a)[i]?=some p) (hq:(G.ps b)[i]?=some q) (ha:Zbc (G.hd a)=false) (haN:a∈N) (hbN:b∈N) (hh:G.hd a=G.hd b) (y:UNo G N lk' p q):UNo G N lk a b:=by
 intro val hs hr he
 refine y val hs (u.pres val hs he hr) ?_
 have h1:=(hs a haN ha).2
 have h2:=(hs b hbN (by rw [← hh]; exact ha)).2
 rw [he,h2] at h1
 have:=congrArg (·[i]?) h1
 simp only [List.getElem?_map,hp,hq,Option.map_some,Option.some.injEq] at this
 exact this.symm
theorem UNo.clash (haN:a∈N) (hbN:b∈N) (ha:Zbc (G.hd a)=false) (hb:Zbc (G.hd b)=false) (hh:G.hd a≠G.hd b):UNo G N lk a b:=by
 intro val hs _ he
 have h1:=(hs a haN ha).1
 have h2:=(hs b hbN hb).1
 rw [he] at h1
 exact hh (h1.symm.trans h2)
theorem UNo.symm (h:UNo G N lk a b):UNo G N lk b a:=fun val hs hr he=>h val hs hr he.symm
theorem Zwi.symm (h:Zwi G N lk a b lk'):Zwi G N lk b a lk':=⟨h.ext,h.gok,h.jnd.symm,h.new,fun val hs he hr=>h.pres val hs he.symm hr⟩
theorem Zwi.same (g:GOk G N lk):Zwi G N lk a a lk:=⟨Zyx.refl _,g,.refl a,fun n m _ h=>.inl h,fun val _ _ hr=>hr⟩
theorem Zwi.path (g:GOk G N lk) {a0 b0 i j:Nat} (ha:a0∈N) (hb:b0∈N) (h1:Pth lk i a0 a) (h2:Pth lk j b0 b) (h:Zwi G N lk a b lk'):Zwi G N lk a0 b0 lk':=
 ⟨h.ext,h.gok,((Jnd.of_path (h1.ext h.ext)).trans h.jnd).trans (Jnd.of_path (h2.ext h.ext)).symm,h.new,fun val hs he hr=>h.pres val hs (by rw [← hr.path g ha h1,← hr.path g hb h2,he]) hr⟩
theorem UNo.path (g:GOk G N lk) {a0 b0 i j:Nat} (ha:a0∈N) (hb:b0∈N) (h1:Pth lk i a0 a) (h2:Pth lk j b0 b) (h:UNo G N lk a b):UNo G N lk a0 b0:=
 fun val hs hr he=>h val hs hr (by rw [← hr.path g ha h1,← hr.path g hb h2,he])
theorem Zwi.cls (y:Zwi G N (fun _=>none) a b lk'):Cls G N lk':=fun n m hn h=>(y.new n m hn h).resolve_left (by simp)
theorem Rsp.none {val:Nat→Ty}:Rsp N (fun _=>Option.none) val:=fun n m _ h=>by cases h
theorem GOk.ends (g:GOk G N lk) {n:Nat} (hn:n∈N):∃ k e,Pth lk k n e∧lk e=none∧e∈N:=by
 obtain ⟨k,e,h1,h2⟩:=g.end_ n hn
 exact ⟨k,e,h1,h2,g.path hn h1⟩
end
end Go.Sim

set_option linter.unusedSimpArgs false
set_option linter.unusedVariables false
namespace Go.Sim
def GAg (N:List Nat) (G G':Gr):Prop:=∀ n∈N,G'.hd n=G.hd n∧G'.ps n=G.ps n
theorem GAg.refl (N:List Nat) (G:Gr):GAg N G G:=fun _ _=>⟨rfl,rfl⟩
theorem GAg.trans {N N':List Nat} {G G' G'':Gr} (h:GAg N G G') (k:GAg N' G' G'') (hN:∀ n∈N,n∈N'):GAg N G G'':=fun n hn=>⟨((k n (hN n hn)).1).trans (h n hn).1,((k n (hN n hn)).2).trans (h n hn).2⟩
def GCl (G:Gr) (N:List Nat):Prop:=∀ n∈N,∀ p∈G.ps n,p∈N
section
variable {G G':Gr} {N:List Nat} {nu nu':Nat→Nat}
theorem Raw.agree {n:Nat} {t:Ty} (r:Raw G nu n t) (ag:GAg N G G') (cl:GCl G N) (hnu:∀ x∈N,nu' x=nu x):n∈N→Raw G' nu' n t:=by
 induction r with
 | @var n h=>intro hn; rw [← hnu n hn]; exact .var (by rw [(ag n hn).1]; exact h)
 | @cst n h h1=>intro hn; rw [← (ag n hn).1]; exact .cst (by rw [(ag n hn).1]; exact h) (by rw [(ag n hn).2]; exact h1)
 | @one n p s h h1 _ ih=>
  intro hn
  rw [← (ag n hn).1]
  exact .one (by rw [(ag n hn).1]; exact h) (by rw [(ag n hn).2]; exact h1) (ih (cl n hn p (by rw [h1]; simp)))
 | @two n p q s t h h1 _ _ ih1 ih2=>
  intro hn
  rw [← (ag n hn).1]
  exact .two (by rw [(ag n hn).1]; exact h) (by rw [(ag n hn).2]; exact h1) (ih1 (cl n hn p (by rw [h1]; simp))) (ih2 (cl n hn q (by rw [h1]; simp)))
theorem Sub.agree {n x:Nat} (s:Sub G n x) (ag:GAg N G G') (cl:GCl G N):n∈N→Sub G' n x:=by
 induction s with
 | refl=>exact fun _=>.refl
 | @part n p x hp _ ih=>intro hn; exact .part (by rw [(ag n hn).2]; exact hp) (ih (cl n hn p hp))
theorem Sub.trans {x y z:Nat} (h:Sub G x y) (k:Sub G y z):Sub G x z:=by
 induction h with
 | refl=>exact k
 | part hp _ ih=>exact .part hp (ih k)
theorem Raw.oth {n:Nat} {t:Ty} (r:Raw G G.hd n t) (cl:GCl G N) (hnu:∀ x∈N,Zbc (G.hd x)=true→nu x=Yfu (G.hd x)):n∈N→Raw G nu n (Zqh t):=by
 induction r with
 | @var n h=>intro hn; rw [Zqh,if_pos h,← hnu n hn h]; exact .var h
 | @cst n h h1=>intro hn; rw [Zqh,if_neg (by rw [h]; simp)]; exact .cst h h1
 | @one n p s h h1 _ ih=>intro hn; rw [Zqh]; exact .one h h1 (ih (cl n hn p (by rw [h1]; simp)))
 | @two n p q s t h h1 _ _ ih1 ih2=>intro hn; rw [Zqh]; exact .two h h1 (ih1 (cl n hn p (by rw [h1]; simp))) (ih2 (cl n hn q (by rw [h1]; simp)))
variable {lk:Nat→Option Nat} {V:Nat→Bool}
theorem VT.ok (g:GOk G N lk) {n:Nat} {t:Ty} (v:VT G lk nu n t) (hnu:∀ x∈N,Zbc (G.hd x)=true→Zbc (nu x)=true):n∈N→t.ok=true:=by
 induction v with
 | @var n e k h1 h2 h3=>
  intro hn
  have:=hnu e (g.path hn h1) h3
  simp only [Ty.ok,Zfi,this,Bool.or_true]
 | @cst n e k h1 h2 h3 h4=>
  intro hn
  have:=g.ar e (g.path hn h1)
  rw [h4] at this
  simp only [Ty.ok]
  unfold arN at this
  cases hl:Zfi (G.hd e) with
  | true=>rfl
  | false=>
   rw [hl] at this
   simp only [Bool.false_eq_true,if_false,List.length_nil] at this
   split at this
   ·simp at this
   ·split at this <;> simp at this
 | @one n e k p s h1 h2 h3 h4 _ ih=>
  intro hn
  have he:=g.path hn h1
  have:=g.ar e he
  rw [h4] at this
  simp only [Ty.ok,ih (g.par e he p (by rw [h4]; simp)),Bool.and_true]
  unfold arN at this
  split at this
  ·simp at this
  ·split at this
   ·assumption
   ·split at this <;> simp at this
 | @two n e k p q s t h1 h2 h3 h4 _ _ ih1 ih2=>
  intro hn
  have he:=g.path hn h1
  have:=g.ar e he
  rw [h4] at this
  simp only [Ty.ok,ih1 (g.par e he p (by rw [h4]; simp)),ih2 (g.par e he q (by rw [h4]; simp)),Bool.and_true]
  unfold arN at this
  split at this
  ·simp at this
  ·split at this
   ·simp at this
   ·split at this
    ·assumption
    ·simp at this
structure Two (G:Gr) (N:List Nat) (nu:Nat→Nat) (V:Nat→Bool) (a b:Nat) (ta tb:Ty):Prop where
 aN:a∈N
 bN:b∈N
 nv:Yop G N nu V
 ra:Raw G nu a ta
 rb:Raw G nu b tb
 raw:∀ n∈N,∃ t,Raw G nu n t
 sub:∀ x∈N,Sub G a x ∨ Sub G b x
variable {a b:Nat} {ta tb:Ty}
theorem Two.no (w:Two G N nu V a b ta tb) (h:UNo G N (fun _=>none) a b):¬ ∃ θ:Nat→Ty,sb V θ ta=sb V θ tb:=by
 rintro ⟨θ,he⟩
 exact h _ (Zww w.nv w.raw θ) Rsp.none (by rw [Zjl w.ra,Zjl w.rb,he])
theorem Two.endless (w:Two G N nu V a b ta tb) (y:Zwi G N (fun _=>none) a b lk) (h:∀ val,Str G N val→¬ Rsp N lk val):¬ ∃ θ:Nat→Ty,sb V θ ta=sb V θ tb:=by
 rintro ⟨θ,he⟩
 have hs:=Zww w.nv w.raw θ
 exact h _ hs (y.pres _ hs (by rw [Zjl w.ra,Zjl w.rb,he]) Rsp.none)
theorem Two.all (w:Two G N nu V a b ta tb) (y:Zwi G N (fun _=>none) a b lk) {T:Ty} (v:VT G lk nu a T):∀ x∈N,∃ s,VT G lk nu x s:=by
 intro x hx
 rcases w.sub x hx with h | h
 ·exact VT.sub y.gok y.cls h w.aN v
 ·exact VT.sub y.gok y.cls h w.bN (v.jnd y.jnd)
theorem Two.sol (w:Two G N nu V a b ta tb) (y:Zwi G N (fun _=>none) a b lk) {T:Ty} (v:VT G lk nu a T):sb V (grF G N lk nu) ta=T∧sb V (grF G N lk nu) tb=T:=
 Ymx y.gok y.cls w.nv w.aN w.bN y.jnd w.ra w.rb v
theorem Two.bound (w:Two G N G.hd Zbc a b ta tb) (y:Zwi G N (fun _=>none) a b lk) {x:Nat} (hx:x∈N) (hv:Zbc (G.hd x)=true) {s:Ty} (v:VT G lk G.hd x s):grF G N lk G.hd (G.hd x)=s∧(s=.k (G.hd x) ↔ lk x=none):=by
 refine ⟨Yib w.nv hx hv v,?_⟩
 constructor
 ·have key:∀ {s:Ty},VT G lk G.hd x s→s=.k (G.hd x)→lk x=none:=by
   intro s v
   cases v with
   | @var _ e k h1 h2 h3=>
    intro he
    injection he with he
    have:=w.nv.inj e (y.gok.path hx h1) x hx h3 hv he
    rw [← this]; exact h2
   | @cst _ e k h1 h2 h3 h4=>
    intro he
    injection he with he
    rw [he,hv] at h3; cases h3
   | one=>intro he; cases he
   | two=>intro he; cases he
  exact key v
 ·intro h0
  exact v.det (.var .refl h0 hv)
end
end Go.Sim

set_option linter.unusedVariables false
set_option linter.unusedSimpArgs false
set_option maxRecDepth 20000
namespace Go.Sim
open Go Go.RowKit

structure GH (h:Zaa) (G:Gr) (N:List Nat) (lk:Nat→Option Nat) (Z:Nat→Prop):Prop where
 node:∀ n∈N,∃ a c e,h[n]?=some (.cells Zbt [.str [G.hd n],.slice a (G.ps n).length c e,.ptr ((lk n).map fun m=>(m,0))] false) ∧
  Row h.length h a (G.ps n).length ((G.ps n).map fun p=>Zal.ptr (some (p,0)))∧∀ j o,(G.ps n).length≠0→a=some (j,o)→j ∉ N∧¬ Z j
def Ycg (N:List Nat) (h h':Zaa):Prop:=h.length≤h'.length∧∀ j,j < h.length→j ∉ N→h'[j]?=h[j]?
theorem Ycg.refl (N:List Nat) (h:Zaa):Ycg N h h:=⟨Nat.le_refl _,fun _ _ _=>rfl⟩
theorem Ycg.trans {N:List Nat} {h h1 h2:Zaa} (a:Ycg N h h1) (b:Ycg N h1 h2):Ycg N h h2:=⟨Nat.le_trans a.1 b.1,fun j hj hn=>by rw [b.2 j (by have:=a.1; omega) hn]; exact a.2 j hj hn⟩
theorem Ycg.of_same {N:List Nat} {h h':Zaa} (s:Zaz h.length h h'):Ycg N h h':=⟨s.le,fun j hj _=>s.eq j hj⟩
theorem Row.to {h h':Zaa} {a:Pt} {m:Nat} {cs:List Zal} (r:Row h.length h a m cs) (hl:h.length≤h'.length) (hh:∀ j o,m≠0→a=some (j,o)→j < h.length→h'[j]?=h[j]?):Row h'.length h' a m cs:=by
 obtain ⟨hc,r⟩:=r
 by_cases h0:m=0
 ·exact ⟨hc,.inl h0⟩
 ·refine ⟨hc,r.imp id ?_⟩
  rintro ⟨i,o,t,all,ro,ha,hi,hg,x⟩
  exact ⟨i,o,t,all,ro,ha,by omega,by rw [hh i o h0 ha hi]; exact hg,x⟩
section
variable {h h':Zaa} {G:Gr} {N:List Nat} {lk:Nat→Option Nat} {Z:Nat→Prop}
theorem GH.lt (g:GH h G N lk Z) {n:Nat} (hn:n∈N):n < h.length:=by obtain ⟨_,_,_,hi,_⟩:=g.node n hn; exact Own.lt hi
theorem Row.cellsAt {a:Pt} {m:Nat} {cs:List Zal} (r:Row h.length h a m cs) {j o:Nat} (h0:m≠0) (ha:a=some (j,o)):∃ t all ro,h[j]?=some (.cells t all ro):=by
 rcases r.2 with hm | ⟨i,o',t,all,ro,ha',hi,hg,x⟩
 ·exact absurd hm h0
 ·rw [ha] at ha'; cases ha'; exact ⟨t,all,ro,hg⟩
theorem GH.agree (g:GH h G N lk Z) (hl:h.length≤h'.length) (hh:∀ (j:Nat) (t:TypeId) (cs:List Zal) (ro:Bool),h[j]?=some (Zcj.cells t cs ro)→h'[j]?=h[j]?):GH h' G N lk Z:=by
 refine ⟨fun n hn=>?_⟩
 obtain ⟨a,c,e,hi,hr,hd⟩:=g.node n hn
 refine ⟨a,c,e,by rw [hh _ _ _ _ hi]; exact hi,hr.to hl fun j o h0 ha _=>?_,hd⟩
 obtain ⟨t,all,ro,hj⟩:=hr.cellsAt h0 ha
 exact hh _ _ _ _ hj
theorem GH.same (g:GH h G N lk Z) (s:Zaz h.length h h'):GH h' G N lk Z:=g.agree s.le fun j t cs ro hj=>s.eq j (Own.lt hj)
theorem GH.link (g:GH h G N lk Z) {a b:Nat} {x:Zcj} (ha:a∈N) {p:Pt} {c:Nat} {e:Bool} (hx:x=.cells Zbt [.str [G.hd a],.slice p (G.ps a).length c e,.ptr (some (b,0))] false)
  (hr:Row h.length h p (G.ps a).length ((G.ps a).map fun p=>Zal.ptr (some (p,0)))) (hd:∀ j o,(G.ps a).length≠0→p=some (j,o)→j ∉ N∧¬ Z j):GH (h.set a x) G N (lnk lk a b) Z:=by
 refine ⟨fun n hn=>?_⟩
 have row:∀ {q:Pt} {m:Nat} {cs:List Zal},Row h.length h q m cs→(∀ j o,m≠0→q=some (j,o)→j ∉ N∧¬ Z j)→Row (h.set a x).length (h.set a x) q m cs:=fun r hd=>
  r.to (by simp) fun j o h0 hq _=>Zbw fun e'=>(hd j o h0 hq).1 (e' ▸ ha)
 by_cases e':n=a
 ·subst e'
  refine ⟨p,c,e,?_,row hr hd,hd⟩
  rw [List.getElem?_set_self (g.lt hn),hx]
  simp [lnk]
 ·obtain ⟨q,c',e'',hi,hr',hd'⟩:=g.node n hn
  refine ⟨q,c',e'',?_,row hr' hd',hd'⟩
  rw [Zbw (fun h=>e' h.symm),hi]
  simp [lnk,e']
theorem Row.outN {a:Pt} {m:Nat} {cs:List Zal} (r:Row h.length h a m cs) (hd:∀ j o,m≠0→a=some (j,o)→j ∉ N∧¬ Z j) (o:Ycg N h h'):Row h'.length h' a m cs:=
 r.to o.1 fun j o' h0 ha hl=>o.2 j hl (hd j o' h0 ha).1
theorem Zxy {a:Pt} {l:List Nat} (r:Row h.length h a l.length (l.map fun p=>Zal.ptr (some (p,0)))) {k p:Nat} (hp:l[k]?=some p):∃ j o,a=some (j,o)∧Zad h (.ptr (some (j,o + k * 1)))=some (.ptr (some (p,0))):=by
 have hk:=(List.getElem?_eq_some_iff.1 hp).1
 obtain ⟨j,o,ha,hj,hc⟩:=r.at hk
 rw [List.getElem?_map,hp] at hc
 exact ⟨j,o,ha,by rw [Nat.mul_one]; exact hc⟩
theorem Yio (g:GH h G N lk Z) (ok:GOk G N lk) {k n e:Nat} (hn:n∈N) (hp:Pth lk k n e) (he:lk e=none):Zae pg Zge [.ptr (some (n,0))] h fun v h'=>v=.ptr (some (e,0))∧h'=h:=by
 apply Zgk.call
 refine Zgk.L1ind (J:=fun (i:Nat) a0 h'=>h'=h∧∃ m,a0=some (m,0)∧m∈N∧Pth lk i m e) (m:=fun i=>i) (hr:=?_) (g:=k) (hj:=⟨rfl,n,rfl,hn,hp⟩)
 rintro i a0 h' ⟨rfl,m,rfl,hm,hp⟩ R hR
 unfold Zgk.L1t
 obtain ⟨a,c,e',hnode,_⟩:=g.node m hm
 simp only [Zat,Zak hnode,Nat.zero_add,List.getElem?_cons_succ,List.getElem?_cons_zero,Zda]
 cases hp with
 | refl=>
  rw [he]
  simp only [Option.map_none,Option.isNone_none,Bool.not_true,Zax]
  apply Zgk.A1x0i
  exact ⟨rfl,rfl⟩
 | step h1 h2=>
  rw [h1]
  simp only [Option.map_some,Option.isNone_some,Bool.not_false,Zbr]
  exact hR _ _ _ (Nat.lt_succ_self _) ⟨rfl,_,rfl,ok.lkN _ _ hm h1,h2⟩
def Yor (G:Gr) (N:List Nat) (lk:Nat→Option Nat) (Z:Nat→Prop) (a b:Nat) (h:Zaa) (v:Zal) (h':Zaa):Prop:=
 Ycg N h h'∧((v=.bool true∧∃ lk',Zwi G N lk a b lk'∧GH h' G N lk' Z) ∨ (v=.bool false∧UNo G N lk a b))
theorem Zkk (g:GH h G N lk Z) {n:Nat} (hn:n∈N):Zdi h n=true:=by
 obtain ⟨a,c,e,hi,_⟩:=g.node n hn
 simp [Zdi,hi]
theorem Ygm (x y:Nat):(Zed [x] [y] || decide ([x]=[y]))=decide (x≤y):=by
 rw [Bool.eq_iff_iff]
 simp [Zed]
 omega
theorem Yky:∀ (U:Nat) {h:Zaa} {lk:Nat→Option Nat} {a b:Nat},ub N lk≤U→GH h G N lk Z→GOk G N lk→a∈N→b∈N→Zae pg Zlg [.ptr (some (a,0)),.ptr (some (b,0))] h (Yor G N lk Z a b h):=by
 intro U
 induction U using Nat.strongRecOn with
 | ind U ih=>
 intro h lk a b hU g ok ha hb
 obtain ⟨k1,x,hp1,hx0,hx⟩:=ok.ends ha
 obtain ⟨k2,y,hp2,hy0,hy⟩:=ok.ends hb
 -- one end is linked to the other
 have core:∀ (p q:Nat) (Q:QT),p∈N→q∈N→lk p=none→lk q=none→p≠q→(Zbc (G.hd q)=true→Zbc (G.hd p)=true)→(Zbc (G.hd p)=true→Zbc (G.hd q)=true→G.hd p≤G.hd q) →
   (∀ v h',Yor G N lk Z p q h v h'→Q v h')→Zfb.J7 Q (some (p,0)) (some (q,0)) h:=by
  intro p q Q hp hq hp0 hq0 hne hvar hord hQ
  obtain ⟨pa,pc,pe,hpi,hpr,hpd⟩:=g.node p hp
  obtain ⟨qa,qc,qe,hqi,hqr,hqd⟩:=g.node q hq
  have lenEq:Zbc (G.hd p)=false→G.hd p=G.hd q→(G.ps p).length=(G.ps q).length:=fun _ e=>by
   have h1:=ok.ar p hp; have h2:=ok.ar q hq; rw [e] at h1; omega
  apply Zfb.J7i
  simp only [Zat,Zak hpi,Nat.zero_add,List.getElem?_cons_succ,List.getElem?_cons_zero,Zap]
  refine (Zrl [G.hd p]).mono ?_
  rintro v h1 ⟨rfl,rfl⟩
  simp only [Zah,Zrv,Zak hpi,Zak hqi,List.getElem?_cons_zero,Zap,true_and]
  have j9:(Zbc (G.hd p)=false→G.hd p=G.hd q)→Zfb.J9 Q (some (p,0)) (some (q,0)) h1:=by
   intro hhd
   apply Zfb.J9i
   simp only [Zat,Zak hpi,Nat.zero_add,List.getElem?_cons_succ,List.getElem?_cons_zero,Zag]
   rw [Zbl hpi (by simp)]
   simp only [Zau,putRow,List.take_succ_cons,List.take_zero,List.length_cons,List.length_nil,List.drop_succ_cons,List.drop_zero,List.drop_nil,List.cons_append,List.nil_append,List.append_nil,hp0,Option.map_none]
   have g1:=g.link (b:=q) hp rfl hpr hpd (c:=pc) (e:=pe)
   have o1:Ycg N h1 (h1.set p (.cells Zbt [.str [G.hd p],.slice pa (G.ps p).length pc pe,.ptr (some (q,0))] false)):=⟨by simp,fun j hj hn=>Zbw fun e=>hn (e ▸ hp)⟩
   generalize h1.set p (.cells Zbt [.str [G.hd p],.slice pa (G.ps p).length pc pe,.ptr (some (q,0))] false)=h2 at g1 o1 ⊢
   have hlt:=Ynz (b:=q) hp hp0
   refine Zfb.L12ind (J:=fun (i:Nat) x82 h'=>x82=(i:Int)∧i≤(G.ps p).length∧Ycg N h2 h'∧∃ lk',Yjs G N lk p q lk' i∧GH h' G N lk' Z) (m:=fun i=>(G.ps p).length - i) (hr:=?_) (g:=0)
    (hj:=⟨rfl,by omega,Ycg.refl _ _,_,Yjs.start ok hq hp0 hq0 hne,g1⟩)
   rintro i x82 h3 ⟨rfl,hi,o3,lk',u,g3⟩ R hR
   unfold Zfb.L12t
   have O3:=o1.trans o3
   refine Zan (fun hlt3=>?_) (fun hge=>?_)
   ·have hi':i < (G.ps p).length:=by omega
    have hpv:Zbc (G.hd p)=false:=by
     cases hv:Zbc (G.hd p) with
     | false=>rfl
     | true=>rw [ok.var_ps hp hv] at hi'; simp at hi'
    have hh:=hhd hpv
    have hl:=lenEq hpv hh
    have hpg:(G.ps p)[i]?=some (G.ps p)[i]:=List.getElem?_eq_getElem hi'
    have hqg:(G.ps q)[i]?=some ((G.ps q)[i]'(by omega)):=List.getElem?_eq_getElem (by omega)
    obtain ⟨ja,oa,rfl,hca⟩:=Zxy (hpr.outN hpd O3) hpg
    obtain ⟨ra,rc,re,hri,hrr,hrd⟩:=g3.node q hq
    obtain ⟨jb,ob,rfl,hcb⟩:=Zxy hrr hqg
    simp only [Zat,Int.toNat_natCast,hca,Zda,Zak hri,Nat.zero_add,List.getElem?_cons_succ,List.getElem?_cons_zero,Zag,hcb]
    have hup:ub N lk' < ub N lk:=Nat.lt_of_le_of_lt (Yje u.ext) hlt
    refine ⟨by omega,by omega,(ih (ub N lk') (by omega) (Nat.le_refl _) g3 u.gok (ok.par p hp _ (List.getElem_mem hi')) (ok.par q hq _ (List.getElem_mem _))).mono ?_⟩
    rintro v h4 ⟨o4,⟨rfl,lk'',y,g4⟩ | ⟨rfl,no⟩⟩
    ·simp only [Zah,Bool.not_true,Zax]
     rw [Zbn (by have:=ok.ps_le hp; omega)]
     exact hR (i + 1) _ _ (by omega) ⟨rfl,by omega,o3.trans o4,lk'',u.step hpg hqg hpv hp hq hh y,g4⟩
    ·simp only [Zah,Bool.not_false,Zbr]
     exact hQ _ _ ⟨O3.trans o4,.inr ⟨rfl,u.fail hpg hqg hpv hp hq hh no⟩⟩
   ·apply Zfb.A12x1i
    have:i=(G.ps p).length:=by omega
    subst this
    exact hQ _ _ ⟨O3,.inl ⟨rfl,lk',u.done hp0 (fun hv=>(hhd hv).symm) hord,g3⟩⟩
  refine Zbx (fun hv=>?_) (fun hv=>j9 fun h=>by rw [hv] at h; cases h)
  have hqv:Zbc (G.hd q)=false:=by
   cases hv':Zbc (G.hd q) with
   | false=>rfl
   | true=>rw [hvar hv'] at hv; cases hv
  refine Zot (fun hne'=>?_) (fun he=>j9 fun _=>by simpa using he)
  exact hQ _ _ ⟨Ycg.refl _ _,.inr ⟨rfl,UNo.clash hp hq hv hqv fun e=>hne' (by rw [e])⟩⟩
 apply Zfb.call
 refine (Yio g ok ha hp1 hx0).mono ?_
 rintro v h1 ⟨rfl,rfl⟩
 simp only [Zda]
 refine (Yio g ok hb hp2 hy0).mono ?_
 rintro v h2 ⟨rfl,rfl⟩
 simp only [Zda]
 by_cases hxy:x=y
 ·subst hxy
  refine .inl ⟨rfl,?_⟩
  simp only [Zbr]
  exact ⟨Ycg.refl _ _,.inl ⟨rfl,lk,Zwi.path ok ha hb hp1 hp2 (Zwi.same ok),g⟩⟩
 ·refine .inr ⟨hxy,Zkk g hx,Zkk g hy,?_⟩
  simp only [Zax]
  obtain ⟨xa,xc,xe,hxi,_⟩:=g.node x hx
  obtain ⟨ya,yc,ye,hyi,_⟩:=g.node y hy
  have fwd:∀ v h',Yor G N lk Z x y h2 v h'→Yor G N lk Z a b h2 v h':=fun v h' ⟨o,r⟩=>⟨o,r.imp (fun ⟨e,lk',u,g'⟩=>⟨e,lk',Zwi.path ok ha hb hp1 hp2 u,g'⟩) fun ⟨e,u⟩=>⟨e,UNo.path ok ha hb hp1 hp2 u⟩⟩
  have bwd:∀ v h',Yor G N lk Z y x h2 v h'→Yor G N lk Z a b h2 v h':=fun v h' ⟨o,r⟩=>fwd v h' ⟨o,r.imp (fun ⟨e,lk',u,g'⟩=>⟨e,lk',u.symm,g'⟩) fun ⟨e,u⟩=>⟨e,u.symm⟩⟩
  have iv:∀ (c:Nat) (K:Zal→Zaa→Prop),K (.bool (Zbc c)) h2→Zae pg Zdd [.str [c]] h2 K:=fun c K hK=>(Zrl [c]).mono fun v h' ⟨e1,e2⟩=>by rw [e1,e2]; exact hK
  simp only [Zat,Zak hxi,Zak hyi,Nat.zero_add,List.getElem?_cons_succ,List.getElem?_cons_zero,Zap,true_and]
  refine iv _ _ ?_
  simp only [Zah,Zak hxi,Zak hyi,List.getElem?_cons_zero,Zap]
  refine Zds (fun hvx=>?_) (fun hvx=>?_)
  ·refine iv _ _ ?_
   simp only [Zah,Zak hxi,Zak hyi,List.getElem?_cons_zero,Zap]
   refine Zds (fun hvy=>?_) (fun hvy=>?_)
   ·simp only [Ygm]
    refine Zot (fun hgt=>?_) (fun hle=>?_)
    ·rw [decide_eq_false hgt]
     exact core y x _ hy hx hy0 hx0 (fun e=>hxy e.symm) (fun _=>hvy) (fun _ _=>by omega) bwd
    ·refine iv _ _ ?_
     rw [hvx]
     simp only [Zah,Zak hxi,Zak hyi,List.getElem?_cons_zero,Zap,Bool.not_true,Zax]
     exact core x y _ hx hy hx0 hy0 hxy (fun _=>hvx) (fun _ _=>hle) fwd
   ·refine iv _ _ ?_
    rw [hvx]
    simp only [Zah,Zak hxi,Zak hyi,List.getElem?_cons_zero,Zap,Bool.not_true,Zax]
    exact core x y _ hx hy hx0 hy0 hxy (fun h=>hvx) (fun _ h=>by rw [hvy] at h; cases h) fwd
  ·refine iv _ _ ?_
   rw [hvx]
   simp only [Zah,Zak hxi,Zak hyi,List.getElem?_cons_zero,Zap,Bool.not_false,Zbr]
   refine iv _ _ ?_
   simp only [Zah,Zak hxi,Zak hyi,List.getElem?_cons_zero,Zap]
   refine Zds (fun hvy=>?_) (fun hvy=>?_)
   ·exact core y x _ hy hx hy0 hx0 (fun e=>hxy e.symm) (fun _=>hvy) (fun _ h=>by rw [hvx] at h; cases h) bwd
   ·exact core x y _ hx hy hx0 hy0 hxy (fun h=>by rw [hvy] at h; cases h) (fun h=>by rw [hvx] at h; cases h) fwd
end
end Go.Sim

set_option linter.unusedVariables false
set_option linter.unusedSimpArgs false
set_option maxRecDepth 20000
namespace Go.Sim
open Go Go.RowKit

def Zvj (h:Zaa) (i:Nat) (A:List Nat):Prop:=∃ es clk,h[i]?=some (.map es clk)∧es.map (·.1)=A.map (fun n=>Zal.ptr (some (n,0)))∧es.map (·.2.1)=A.map (fun _=>Zal.bool true)
theorem Ztm {h:Zaa}:∀ {es:List ME} {A:List Nat} {n k:Nat},es.map (·.1)=A.map (fun n=>Zal.ptr (some (n,0)))→es.map (·.2.1)=A.map (fun _=>Zal.bool true)→(∀ x∈A,Zdi h x=true)→Zdi h n=true→n∈A →
  ∃ j b,Zku h es (n,0) k=some (some (k + j,.bool true))∧A[j]?=some n∧(∀ i,i < j→A[i]?≠some n)∧es[j]?=some (.ptr (some (n,0)),.bool true,b)
 | _,[],n,k,_,_,_,_,h=>by cases h
 | [],x :: A,n,k,h,_,_,_,_=>by simp at h
 | (ek,ev,eb) :: es,x :: A,n,k,hk,hv,hA,hn,hm=>by
  simp only [List.map_cons,List.cons.injEq] at hk hv
  obtain ⟨rfl,hk⟩:=hk
  obtain ⟨rfl,hv⟩:=hv
  by_cases e:n=x
  ·subst e
   exact ⟨0,eb,by simp [Zku],rfl,fun i hi=>by omega,rfl⟩
  ·obtain ⟨j,b,h1,h2,h3,h4⟩:=Ztm (k:=k + 1) hk hv (fun y hy=>hA y (List.mem_cons_of_mem _ hy)) hn ((List.mem_cons.1 hm).resolve_left e)
   have hne:¬ ((n,0):Nat × Nat)=(x,0):=fun h=>e (by simpa using h)
   refine ⟨j + 1,b,?_,h2,fun i hi=>?_,h4⟩
   ·unfold Zku
    rw [if_neg hne,if_pos ⟨e,hn,hA x List.mem_cons_self⟩,h1,show k + 1 + j=k + (j + 1) by omega]
   ·match i with
    | 0=>simp; exact fun h=>e h.symm
    | i + 1=>simpa using h3 i (by omega)
theorem Zuy {h:Zaa}:∀ {es:List ME} {A:List Nat} {n k:Nat},es.map (·.1)=A.map (fun n=>Zal.ptr (some (n,0)))→(∀ x∈A,Zdi h x=true)→Zdi h n=true→n ∉ A→Zku h es (n,0) k=some none
 | [],[],n,k,_,_,_,_=>rfl
 | [],x :: A,n,k,h,_,_,_=>by simp at h
 | e :: es,[],n,k,h,_,_,_=>by simp at h
 | (ek,ev,eb) :: es,x :: A,n,k,hk,hA,hn,hm=>by
  simp only [List.map_cons,List.cons.injEq] at hk
  obtain ⟨rfl,hk⟩:=hk
  have e:n≠x:=fun e=>hm (by rw [e]; exact List.mem_cons_self)
  have hne:¬ ((n,0):Nat × Nat)=(x,0):=fun h=>e (by simpa using h)
  unfold Zku
  rw [if_neg hne,if_pos ⟨e,hn,hA x List.mem_cons_self⟩]
  exact Zuy hk (fun y hy=>hA y (List.mem_cons_of_mem _ hy)) hn fun h=>hm (List.mem_cons_of_mem _ h)
section
variable {h h':Zaa} {i n:Nat} {A:List Nat}
theorem Zvj.get (r:Zvj h i A) (he:h'[i]?=h[i]?):Zvj h' i A:=by obtain ⟨es,k,h1,x⟩:=r; exact ⟨es,k,by rw [he]; exact h1,x⟩
theorem Zvj.map (r:Zvj h i A):∃ es k,h[i]?=some (.map es k):=by obtain ⟨es,k,h1,_⟩:=r; exact ⟨es,k,h1⟩
theorem Zvj.look (r:Zvj h i A) (hA:∀ x∈A,Zdi h x=true) (hn:Zdi h n=true) {K:Bool→Prop} (hK:K (decide (n∈A))) :
  Zdc h (some i) fun es _=>Ztw (Zku h es (n,0) 0) fun r=>Zbp (some (Option.getD r (.bool false))) K:=by
 obtain ⟨es,k,h1,hk,hv⟩:=r
 simp only [Zdc,h1]
 by_cases hm:n∈A
 ·obtain ⟨j,b,hf,_⟩:=Ztm (k:=0) hk hv hA hn hm
  rw [hf]
  simp only [Ztw,Option.getD_some,Zah]
  rw [decide_eq_true hm] at hK; exact hK
 ·rw [Zuy (k:=0) hk hA hn hm]
  simp only [Ztw,Option.getD_none,Zah]
  rw [decide_eq_false hm] at hK; exact hK
theorem Zvj.put (r:Zvj h i A) (hA:∀ x∈A,Zdi h x=true) (hn:Zdi h n=true):∃ es k es' k',h[i]?=some (.map es k)∧Zvj (h.set i (.map es' k')) i (if n∈A then A else A ++ [n]) ∧
  ∀ K:List ME→Nat→Prop,K es' k'→Yma (Zku h es (n,0) 0) es k (n,0) (.bool true) K:=by
 obtain ⟨es,k,h1,hk,hv⟩:=r
 have hl:=Own.lt h1
 by_cases hm:n∈A
 ·obtain ⟨j,b,hf,_,_,hj⟩:=Ztm (k:=0) hk hv hA hn hm
  refine ⟨es,k,es,k,h1,?_,fun K hK=>?_⟩
  rotate_left
  ·rw [hf]
   simp only [Yma,Nat.zero_add]
   rw [Zpy hj rfl]
   exact hK
  ·rw [if_pos hm]
   exact ⟨es,k,List.getElem?_set_self hl,hk,hv⟩
 ·refine ⟨es,k,es ++ [(.ptr (some (n,0)),.bool true,k)],k + 1,h1,?_,fun K hK=>?_⟩
  rotate_left
  ·rw [Zuy (k:=0) hk hA hn hm]
   exact hK
  ·rw [if_neg hm]
   exact ⟨_,_,List.getElem?_set_self hl,by simp [hk],by simp [hv]⟩
theorem Zvj.del (r:Zvj h i (A ++ [n])) (hA:∀ x∈A,Zdi h x=true) (hn:Zdi h n=true) (hm:n ∉ A):∃ es k es',h[i]?=some (.map es k)∧Zvj (h.set i (.map es' k)) i A ∧
  ∀ K:List ME→Prop,K es'→Ymi (Zku h es (n,0) 0) es K:=by
 obtain ⟨es,k,h1,hk,hv⟩:=r
 have hl:=Own.lt h1
 have hA':∀ x∈A ++ [n],Zdi h x=true:=fun x hx=>by
  rcases List.mem_append.1 hx with hx | hx
  ·exact hA x hx
  ·rw [List.mem_singleton.1 hx]; exact hn
 obtain ⟨j,b,hf,hj,hfirst,_⟩:=Ztm (k:=0) hk hv hA' hn (by simp)
 have hjA:j=A.length:=by
  have hjl:=(List.getElem?_eq_some_iff.1 hj).1
  simp at hjl
  by_cases h:j < A.length
  ·rw [List.getElem?_append_left h] at hj
   exact absurd (List.mem_of_getElem? hj) hm
  ·omega
 refine ⟨es,k,es.eraseIdx j,h1,⟨_,_,List.getElem?_set_self hl,?_,?_⟩,fun K hK=>?_⟩
 ·rw [← Zen,hk,hjA,List.map_append,List.eraseIdx_append_of_length_le (by simp)]; simp
 ·rw [← Zen,hv,hjA,List.map_append,List.eraseIdx_append_of_length_le (by simp)]; simp
 ·rw [hf]
  simp only [Ymi,Nat.zero_add]
  exact hK
end
def Znb (i j:Nat) (h h':Zaa):Prop:=h.length≤h'.length∧∀ k,k < h.length→k≠i→k≠j→h'[k]?=h[k]?
theorem Znb.refl (i j:Nat) (h:Zaa):Znb i j h h:=⟨Nat.le_refl _,fun _ _ _ _=>rfl⟩
theorem Znb.trans {i j:Nat} {h h1 h2:Zaa} (a:Znb i j h h1) (b:Znb i j h1 h2):Znb i j h h2:=⟨Nat.le_trans a.1 b.1,fun k hk h1 h2=>by rw [b.2 k (by have:=a.1; omega) h1 h2]; exact a.2 k hk h1 h2⟩
theorem Znb.set1 (i j:Nat) (h:Zaa) (x:Zcj):Znb i j h (h.set i x):=⟨by simp,fun k _ h1 _=>Zbw fun e=>h1 e.symm⟩
theorem Znb.set2 (i j:Nat) (h:Zaa) (x:Zcj):Znb i j h (h.set j x):=⟨by simp,fun k _ _ h2=>Zbw fun e=>h2 e.symm⟩
section
variable {G:Gr} {N:List Nat} {lk:Nat→Option Nat} {Z:Nat→Prop}
theorem GH.keepM {h h':Zaa} {i j:Nat} (g:GH h G N lk Z) (k:Znb i j h h') (hi:∃ es c,h[i]?=some (.map es c)) (hj:∃ es c,h[j]?=some (.map es c)):GH h' G N lk Z:=by
 obtain ⟨es,c,hi⟩:=hi
 obtain ⟨es',c',hj⟩:=hj
 exact g.agree k.1 fun q t cs ro hq=>k.2 q (Own.lt hq) (fun e=>by subst e; rw [hi] at hq; cases hq) (fun e=>by subst e; rw [hj] at hq; cases hq)
def Ysj (G:Gr) (N:List Nat) (lk:Nat→Option Nat) (n mA mD:Nat) (A:List Nat) (h:Zaa) (v:Zal) (h':Zaa):Prop:=
 Znb mA mD h h'∧((v=.bool true∧∀ val,Str G N val→¬ Rsp N lk val) ∨ (v=.bool false∧(∀ nu,∃ T,VT G lk nu n T)∧Zvj h' mA A∧∃ D,Zvj h' mD D∧(∀ x∈D,x∈N)∧∀ d∈D,∀ nu,∃ T,VT G lk nu d T))
theorem Ypa {N A:List Nat} {e:Nat} (he:e∈N) (hA:e ∉ A):N.countP (fun x=>decide (x ∉ A ++ [e])) < N.countP (fun x=>decide (x ∉ A)):=by
 have key:∀ L:List Nat,e∈L→L.countP (fun x=>decide (x ∉ A ++ [e])) < L.countP (fun x=>decide (x ∉ A)):=by
  intro L hL
  induction L with
  | nil=>cases hL
  | cons n L ih=>
   have hm:L.countP (fun x=>decide (x ∉ A ++ [e]))≤L.countP (fun x=>decide (x ∉ A)):=List.countP_mono_left fun x _ h=>by
    simp only [decide_eq_true_eq,List.mem_append,not_or] at h ⊢; exact h.1
   rw [List.countP_cons,List.countP_cons]
   by_cases en:n=e
   ·subst en
    rw [if_neg (by simp),if_pos (by simpa using hA)]; omega
   ·have:=ih ((List.mem_cons.1 hL).resolve_left fun h=>en h.symm)
    by_cases hn:n∈A
    ·rw [if_neg (by simp [hn]),if_neg (by simp [hn])]; omega
    ·rw [if_pos (by simp [hn,en]),if_pos (by simp [hn])]; omega
 exact key N he
theorem Yfl (ok:GOk G N lk):∀ (M:Nat) {h:Zaa} {n mA mD:Nat} {A D:List Nat},N.countP (fun x=>decide (x ∉ A))≤M→GH h G N lk Z→n∈N→Zvj h mA A→Zvj h mD D→mA≠mD→(∀ x∈A,x∈N)→(∀ x∈D,x∈N) →
  (∀ d∈D,∀ nu,∃ T,VT G lk nu d T)→(∀ val,Str G N val→Rsp N lk val→∀ x∈A,(val n).size < (val x).size) →
  Zae pg Zfo [.ptr (some (n,0)),.map (some mA),.map (some mD)] h (Ysj G N lk n mA mD A h):=by
 intro M
 induction M using Nat.strongRecOn with
 | ind M ih=>
 intro h n mA mD A D hM g hn rA rD hne hAN hDN hDV hlt
 obtain ⟨k,e,hp,he0,he⟩:=ok.ends hn
 have hoA:∀ x∈A,Zdi h x=true:=fun x hx=>Zkk g (hAN x hx)
 have hoD:∀ x∈D,Zdi h x=true:=fun x hx=>Zkk g (hDN x hx)
 have hoe:=Zkk g he
 apply Zeq.call
 refine (Yio g ok hn hp he0).mono ?_
 rintro v h1 ⟨rfl,rfl⟩
 simp only [Zda,Zat]
 refine rA.look hoA hoe ?_
 refine Zan (fun hin=>?_) (fun hnA=>?_)
 ·refine ⟨Znb.refl _ _ _,.inl ⟨rfl,fun val hs hr=>?_⟩⟩
  have:=hlt val hs hr e hin
  rw [hr.path ok hn hp] at this
  omega
 refine rD.look hoD hoe ?_
 refine Zan (fun hin=>?_) (fun hnD=>?_)
 ·exact ⟨Znb.refl _ _ _,.inr ⟨rfl,fun nu=>(hDV e hin nu).imp fun T v=>v.of_path hp,rA,D,rD,hDN,hDV⟩⟩
 obtain ⟨esA,kA,esA',kA',hA0,rA1,hput⟩:=rA.put hoA hoe
 simp only [xMp,Zat,Zaw,Zdc,hA0]
 refine hput _ ?_
 rw [if_neg hnA] at rA1
 have K1:=Znb.set1 mA mD h1 (.map esA' kA')
 have rD1:Zvj (h1.set mA (.map esA' kA')) mD D:=rD.get (Zbw hne)
 have g1:=g.keepM K1 rA.map rD.map
 generalize h1.set mA (.map esA' kA')=h2 at rA1 rD1 g1 K1 ⊢
 obtain ⟨pa,pc,pe,hei,her,hed⟩:=g1.node e he
 simp only [Zak hei,Nat.zero_add,List.getElem?_cons_succ,List.getElem?_cons_zero,Zag]
 have hAN':∀ x∈A ++ [e],x∈N:=fun x hx=>by
  rcases List.mem_append.1 hx with hx | hx
  ·exact hAN x hx
  ·rw [List.mem_singleton.1 hx]; exact he
 refine Zeq.L8ind (J:=fun (i:Nat) x24 h'=>x24=(i:Int)∧i≤(G.ps e).length∧Znb mA mD h2 h'∧Zvj h' mA (A ++ [e])∧(∃ D',Zvj h' mD D'∧(∀ x∈D',x∈N)∧∀ d∈D',∀ nu,∃ T,VT G lk nu d T)∧∀ j p,j < i→(G.ps e)[j]?=some p→∀ nu,∃ T,VT G lk nu p T) (m:=fun i=>(G.ps e).length - i) (hr:=?_) (g:=0)
  (hj:=⟨rfl,by omega,Znb.refl _ _ _,rA1,⟨D,rD1,hDN,hDV⟩,fun j p hj=>by omega⟩)
 rintro i x24 h3 ⟨rfl,hi,K3,rA3,⟨D3,rD3,hDN3,hDV3⟩,hdone⟩ R hR
 unfold Zeq.L8t
 have g3:=g1.keepM K3 rA1.map rD1.map
 have KK:=K1.trans K3
 refine Zan (fun hlt3=>?_) (fun hge=>?_)
 ·have hi':i < (G.ps e).length:=by omega
  have hpg:(G.ps e)[i]?=some (G.ps e)[i]:=List.getElem?_eq_getElem hi'
  have her3:Row h3.length h3 pa (G.ps e).length ((G.ps e).map fun p=>Zal.ptr (some (p,0))):=her.to K3.1 fun j o h0 ha hl=>by
   obtain ⟨t,all,ro,hj⟩:=her.cellsAt h0 ha
   obtain ⟨es1,c1,q1⟩:=rA1.map
   obtain ⟨es2,c2,q2⟩:=rD1.map
   exact K3.2 j hl (fun e'=>by subst e'; rw [q1] at hj; cases hj) (fun e'=>by subst e'; rw [q2] at hj; cases hj)
  obtain ⟨ja,oa,rfl,hca⟩:=Zxy her3 hpg
  simp only [Zat,Int.toNat_natCast,hca,Zda]
  have hpN:=ok.par e he _ (List.getElem_mem hi')
  refine ⟨by omega,(ih _ (Nat.lt_of_lt_of_le (Ypa he hnA) hM) (Nat.le_refl _) g3 hpN rA3 rD3 hne hAN' hDN3 hDV3 (fun val hs hr x hx=>?_)).mono ?_⟩
  ·have hpe:(val (G.ps e)[i]).size < (val e).size:=Yqf ok hs hr he (List.getElem_mem hi') .refl
   rcases List.mem_append.1 hx with hx | hx
   ·have:=hlt val hs hr x hx
    rw [hr.path ok hn hp] at this
    omega
   ·rw [List.mem_singleton.1 hx]; exact hpe
  ·rintro v h4 ⟨K4,⟨rfl,hno⟩ | ⟨rfl,hT,rA4,D4,rD4,hDN4,hDV4⟩⟩
   ·simp only [Zah,Zbr]
    exact ⟨KK.trans K4,.inl ⟨rfl,hno⟩⟩
   ·simp only [Zah,Zax]
    rw [Zbn (by have:=ok.ps_le he; omega)]
    refine hR (i + 1) _ _ (by omega) ⟨rfl,by omega,K3.trans K4,rA4,⟨D4,rD4,hDN4,hDV4⟩,fun j p hj hp'=>?_⟩
    by_cases hji:j=i
    ·subst hji; rw [hpg] at hp'; cases hp'; exact hT
    ·exact hdone j p (by omega) hp'
 ·apply Zeq.A8x0i
  have:i=(G.ps e).length:=by omega
  subst this
  have hVe:∀ nu,∃ T,VT G lk nu e T:=fun nu=>VT.make ok he he0 fun p hp'=>by
   obtain ⟨j,hj⟩:=List.getElem?_of_mem hp'
   exact hdone j p (List.getElem?_eq_some_iff.1 hj).1 hj nu
  obtain ⟨es3,k3,es3',hA3,rA4,hdel⟩:=rA3.del (fun x hx=>Zkk g3 (hAN x hx)) (Zkk g3 he) hnA
  simp only [xMp,Zat,Zaw,Zdc,hA3]
  refine hdel _ ?_
  have K4:=Znb.set1 mA mD h3 (.map es3' k3)
  have rD4:Zvj (h3.set mA (.map es3' k3)) mD D3:=rD3.get (Zbw hne)
  have g4:=g3.keepM K4 rA3.map rD3.map
  generalize h3.set mA (.map es3' k3)=h4 at rA4 rD4 g4 K4 ⊢
  obtain ⟨es4,k4,es4',k4',hD4,rD5,hput4⟩:=rD4.put (fun x hx=>Zkk g4 (hDN3 x hx)) (Zkk g4 he)
  simp only [hD4]
  refine hput4 _ ?_
  have rA5:Zvj (h4.set mD (.map es4' k4')) mA A:=rA4.get (Zbw fun e=>hne e.symm)
  refine ⟨(KK.trans K4).trans (Znb.set2 mA mD h4 _),.inr ⟨rfl,fun nu=>(hVe nu).imp fun T v=>v.of_path hp,rA5,_,rD5,fun x hx=>?_,fun d hd=>?_⟩⟩
  ·split at hx
   ·exact hDN3 x hx
   ·rcases List.mem_append.1 hx with hx | hx
    ·exact hDN3 x hx
    ·rw [List.mem_singleton.1 hx]; exact he
  ·split at hd
   ·exact hDV3 d hd
   ·rcases List.mem_append.1 hd with hd | hd
    ·exact hDV3 d hd
    ·rw [List.mem_singleton.1 hd]; exact hVe
theorem Ynt (ok:GOk G N lk) {h:Zaa} {n:Nat} (g:GH h G N lk Z) (hn:n∈N) :
  Zae pg Zjt [.ptr (some (n,0))] h fun v h'=>Zaz h.length h h'∧((v=.bool false∧∀ val,Str G N val→¬ Rsp N lk val) ∨ (v=.bool true∧∀ nu,∃ T,VT G lk nu n T)):=by
 apply Znu.call
 simp only [Zaw]
 generalize hh0:h ++ [Zcj.map [] 0]=h0
 have s0:Zaz h.length h h0:=by rw [← hh0]; exact Zaq
 have m0:h0[h.length]?=some (.map [] 0):=by rw [← hh0]; simp
 have l0:h0.length=h.length + 1:=by rw [← hh0]; simp
 generalize hh1:h0 ++ [Zcj.map [] 0]=h1
 have s1:Zaz h0.length h0 h1:=by rw [← hh1]; exact Zaq
 have m1:=s1.get m0 (Own.lt m0)
 have d1:h1[h0.length]?=some (.map [] 0):=by rw [← hh1]; simp
 have S1:=s0.cat s1
 refine (Yfl ok _ (Nat.le_refl _) (g.same S1) hn (A:=[]) (D:=[]) ⟨[],0,m1,rfl,rfl⟩ ⟨[],0,d1,rfl,rfl⟩ (by omega) (by simp) (by simp) (by simp) (by simp)).mono ?_
 rintro v h2 ⟨K2,hr⟩
 have l1:=S1.le
 have S2:Zaz h.length h h2:=⟨by have:=K2.1; omega,fun j hj=>by rw [K2.2 j (by omega) (by omega) (by omega)]; exact S1.eq j hj⟩
 rcases hr with ⟨rfl,hno⟩ | ⟨rfl,hT,_⟩
 ·simp only [Zah]
  exact ⟨S2,.inl ⟨rfl,hno⟩⟩
 ·simp only [Zah]
  exact ⟨S2,.inr ⟨rfl,hT⟩⟩
end
end Go.Sim

set_option linter.unusedVariables false
set_option linter.unusedSimpArgs false
set_option maxRecDepth 20000
namespace Go.Sim
open Go Go.RowKit

section
variable {G:Gr} {N:List Nat} {lk:Nat→Option Nat} {Z:Nat→Prop}
end
end Go.Sim
