/- A part of the proof of a statement of this seat: see the text that holds the theorem. No condition. -/
import Derived.Test.YtdglddliggejdaaPTCMatch
import Derived.Test.YtdglddliggejdaaCSUn5
import Derived.Test.YtdglddliggejdaaPApply
import Derived.Test.YtdglddliggejdaaCSUn2
import Derived.Test.YtdglddliggejdaaNm
import Derived.Test.YtdglddliggejdaaCParse
import Derived.Test.YtdglddliggejdaaPTCUni
import Derived.Test.YtdglddliggejdaaPTCDraw
set_option linter.unusedVariables false
set_option linter.unusedSimpArgs false
set_option linter.all false
set_option linter.unusedVariables false
set_option linter.unusedSimpArgs false
set_option maxRecDepth 20000
namespace Go.Sim
open Go Go.RowKit

theorem Zze {c d:Nat} (hc:V12 c=true) (hd:V12 d=true) (h:Zmv c=Zmv d):c=d:=by
 obtain ⟨k,hk,hkv,hix⟩:=Zjy hc
 obtain ⟨k',hk',hkv',hix'⟩:=Zjy hd
 unfold Zmv at h
 rw [hix,hix'] at h
 have:k=k':=by simpa using h
 subst this
 rw [hkv] at hkv'
 exact Option.some.inj hkv'
def tg (σ:Nat→Option Ty) (F:Nat→Ty) (k:Nat):Nat→Option Ty:=fun c=>if V12 c=true∧Zmv c < k∧σ c≠none then some (F c) else none
theorem Ybe {P:Ty→Prop} (hP:∀ t,P t→okL Znd t=true) (hPs:∀ t,P t→∀ p∈t.ps,P p) {S:Nat→Prop} {h:Zaa} {a b:Ty} {va vb:List Zad} (hS:∀ j,S j→j < h.length) (ha:P a) (hb:P b) (ra:Zdc S h a va) (rb:Zdc S h b vb) :
  Zac pg Ziz [.agg va,.agg vb] h fun v h'=>Zbh h.length h h'∧∃ q bl,v=.tup [.ptr (some (q,0)),.bool bl]∧((bl=true∧∃ σ F,Rsv V12 σ F∧(∀ θ,Sol V12 σ θ ↔ sb V12 θ a=sb V12 θ b)∧Inc Zmv V12 σ∧(∀ c t,σ c=some t→P (.k c)∧P t) ∧
   ∃ S',(∀ j,S' j→j≠q)∧Zmn S' h' q (tg σ F 12)) ∨ (bl=false∧∀ θ:Nat→Ty,sb V12 θ a≠sb V12 θ b)):=by
 obtain ⟨aa,ca,ea,rfl⟩:=ra.shape
 obtain ⟨ab,cb,eb,rfl⟩:=rb.shape
 apply Zeb.call
 rw [← Yie]
 simp only [Zbb]
 generalize hh0:h ++ [Zcf.cells Zab [.int .u8 (a.hd:Int),.slice aa a.ps.length ca ea] false]=h0
 generalize hh1:h0 ++ [Zcf.cells Zab [.int .u8 (b.hd:Int),.slice ab b.ps.length cb eb] false]=h1
 generalize hh2:h1 ++ [Zcf.cells Zbf (Zeh eR (List.replicate 12 (Zad.int .u8 0,Zad.slice none 0 0 true))) false]=h2
 have s0:Zbh h.length h h0:=by rw [← hh0]; exact Zau
 have s1:Zbh h0.length h0 h1:=by rw [← hh1]; exact Zau
 have s2:Zbh h1.length h1 h2:=by rw [← hh2]; exact Zau
 have l0:h0.length=h.length + 1:=by rw [← hh0]; simp
 have l1:h1.length=h.length + 2:=by rw [← hh1]; simp [l0]
 have l2:h2.length=h.length + 3:=by rw [← hh2]; simp [l1]
 have oa0:h0[h.length]?=some (.cells Zab [.int .u8 (a.hd:Int),.slice aa a.ps.length ca ea] false):=by rw [← hh0]; simp
 have oa:=(s1.cat s2).get oa0 (Own.lt oa0)
 have ob1:h1[h0.length]?=some (.cells Zab [.int .u8 (b.hd:Int),.slice ab b.ps.length cb eb] false):=by rw [← hh1]; simp
 have ob:=s2.get ob1 (Own.lt ob1)
 have om:h2[h1.length]?=some (.cells Zbf (Zeh eR (List.replicate 12 (Zad.int .u8 0,Zad.slice none 0 0 true))) false):=by rw [← hh2]; simp
 have S2:=(s0.cat s1).cat s2
 rw [Zdj oa,Zdj ob]
 simp only [Zax,Zak,Zaq,Zae,Zai]
 refine (Yai (S:=S) (i:=h1.length) hP hPs _ _ (Nat.le_refl _) (Nat.le_refl _) Rsv.nil (fun c d hc=>by cases hc) (fun c t hc=>by cases hc) (Zmn.nil om) (fun j hj=>⟨by have:=hS j hj; omega,by have:=hS j hj; omega⟩) ha hb (ra.same S2) (rb.same S2)).mono ?_
 rintro v h3 ⟨K3,⟨rfl,σ,F,m3,rs,hsol,hi,hσ,_⟩ | ⟨rfl,hno⟩⟩
 ·have hdom:∀ c u,σ c=some u→V12 c=true∧okL Znd u=true:=fun c u h=>⟨rs.dom c u h,hP u (hσ c u h).2⟩
  simp only [Zaf,Bool.not_true,Zat]
  have l3:=K3.le
  have S3:Zbh h.length h h3:=⟨by omega,fun j hj=>by rw [K3.eq j (by omega) (by omega)]; exact S2.eq j hj⟩
  generalize hhB:h3 ++ [Zcf.cells Zbf (Zeh eR (List.replicate 12 (Zad.int .u8 0,Zad.slice none 0 0 true))) false]=hB
  have sB:Zbh h3.length h3 hB:=by rw [← hhB]; exact Zau
  have oB:hB[h3.length]?=some (.cells Zbf (Zeh eR (List.replicate 12 (Zad.int .u8 0,Zad.slice none 0 0 true))) false):=by rw [← hhB]; simp
  have lB:hB.length=h3.length + 1:=by rw [← hhB]; simp
  have mB:=m3.same sB
  have hSB:∀ j,S j→j < h3.length:=fun j hj=>by have:=hS j hj; omega
  have tg0:tg σ F 0=fun _=>none:=by funext c; simp [tg]
  refine Zeb.L6ind (J:=fun (k:Nat) x19 h'=>x19=(k:Int)∧k≤12∧Zej h3.length hB h'∧Zmn (fun j=>hB.length≤j) h' h3.length (tg σ F k)) (m:=fun k=>12 - k) (hr:=?_) (g:=0) (hj:=⟨rfl,by omega,Zej.refl _ _,by rw [tg0]; exact Zmn.nil oB⟩)
  rintro k x19 h4 ⟨rfl,hk,K4,mo⟩ R hR
  unfold Zeb.L6t
  have l4:=K4.le
  refine Zan (fun hlt=>?_) (fun hge=>?_)
  ·have hk12:k < 12:=by omega
   obtain ⟨v,hv⟩:∃ v,Zek[k]?=some v:=⟨_,List.getElem?_eq_getElem (show k < Zek.length from hk12)⟩
   have hvv:=Yia hv
   have hrv:Zmv v=k:=by
    obtain ⟨k',hk',hkv',hix'⟩:=Zjy hvv
    have h5:=List.getElem?_eq_some_iff.1 hv
    have h6:=List.getElem?_eq_some_iff.1 hkv'
    have:k=k':=(List.getElem_inj (h₀:=h5.1) (h₁:=h6.1) Zur).1 (h5.2.trans h6.2.symm)
    unfold Zmv; rw [hix',this]; rfl
   have m4:Zmn S h4 h1.length σ:=mB.keep (K4.eq _ (by omega) (by omega)) fun j hj _=>K4.eq j (by have:=hSB j hj; omega) (by have:=hSB j hj; omega)
   obtain ⟨x,hx1,hx2,hx3⟩:=m4.get hv
   have next:∀ h',Zej h3.length hB h'→Zmn (fun j=>hB.length≤j) h' h3.length (tg σ F (k + 1))→Zeb.J10 (fun v h'=>Zbh h.length h h'∧∃ q bl,v=.tup [.ptr (some (q,0)),.bool bl]∧((bl=true∧∃ σ F,Rsv V12 σ F∧(∀ θ,Sol V12 σ θ ↔ sb V12 θ a=sb V12 θ b)∧Inc Zmv V12 σ∧(∀ c t,σ c=some t→P (.k c)∧P t) ∧
     ∃ S',(∀ j,S' j→j≠q)∧Zmn S' h' q (tg σ F 12)) ∨ (bl=false∧∀ θ:Nat→Ty,sb V12 θ a≠sb V12 θ b))) R (k:Int) h1.length 0 h3.length 0 h':=by
    intro h' K' m'
    apply Zeb.J10i
    rw [Zci (by omega)]
    exact hR (k + 1) _ _ (by omega) ⟨rfl,by omega,K',m'⟩
   simp only [Int.toNat_natCast,hx1]
   cases hs:σ v with
   | none=>
    rw [hs] at hx3
    simp only at hx3
    subst hx3
    simp only [Zae,show ((0:Int) == 0)=true from rfl,Bool.not_true,Zat]
    have:tg σ F (k + 1)=tg σ F k:=by
     funext c
     unfold tg
     by_cases hc:V12 c=true∧σ c≠none
     ·have hne:Zmv c≠k:=fun e=>hc.2 (by rw [Zze hc.1 hvv (by rw [e,hrv])]; exact hs)
      have:(Zmv c < k + 1) ↔ Zmv c < k:=by omega
      simp [hc,this]
     ·have h1:¬ (V12 c=true∧Zmv c < k + 1∧σ c≠none):=fun h=>hc ⟨h.1,h.2.2⟩
      have h2:¬ (V12 c=true∧Zmv c < k∧σ c≠none):=fun h=>hc ⟨h.1,h.2.2⟩
      rw [if_neg h1,if_neg h2]
    refine ⟨by omega,next h4 K4 (by rw [this]; exact mo)⟩
   | some t=>
    rw [hs] at hx3
    simp only at hx3
    have htok:=(hdom _ _ hs).2
    obtain ⟨wa,wc,we,hwx⟩:=hx3.shape
    simp only [List.cons.injEq,and_true] at hwx
    obtain ⟨hw1,hw2⟩:=hwx
    have hne:((t.hd:Int) == 0)=false:=by
     have:=Zmm htok
     have hne:t.hd≠0:=fun e=>by rw [e] at this; simp at this
     simp; omega
    rw [hw1,hw2] at hx2 hx3
    rw [hw1]
    simp only [Zae,hne,Bool.not_false,Zay,hx2,Zax,Zak,Zaq,Zai]
    refine ⟨by omega,by omega,(Ycz rs hdom _ (Nat.le_refl _) m4 (fun j hj=>⟨by have:=hSB j hj; omega,by have:=hS j hj; omega⟩) htok hx3).mono ?_⟩
    rintro v5 h5 ⟨s5,vs,rfl,r5⟩
    obtain ⟨fa,fc,fe,rfl⟩:=r5.shape
    simp only [Zed,Zak,Zaq,Zae,Zai]
    have l5:=s5.le
    obtain ⟨h6,hst,K6,m6⟩:=(mo.same s5).put (fun j hj=>by omega) hv (t:=sb V12 F t) (x:=.int .u8 ((sb V12 F t).hd:Int)) (y:=.slice fa (sb V12 F t).ps.length fc fe) (r5.mono fun j hj=>by omega)
    rw [hst]
    simp only [Zar]
    have:tg σ F (k + 1)=upd (tg σ F k) v (sb V12 F t):=by
     funext c
     unfold upd
     by_cases e:c=v
     ·subst e
      rw [if_pos rfl,← rs.som c t hs]
      unfold tg
      rw [if_pos ⟨hvv,by omega,by rw [hs]; simp⟩]
     ·rw [if_neg e]
      unfold tg
      by_cases hc:V12 c=true
      ·have hne:Zmv c≠k:=fun e'=>e (Zze hc hvv (by rw [e',hrv]))
       have:(Zmv c < k + 1) ↔ Zmv c < k:=by omega
       simp [this]
      ·simp [hc]
    exact ⟨by omega,next h6 ((K4.trans (Zzw s5)).trans K6) (by rw [this]; exact m6)⟩
  ·apply Zeb.A6x0i
   have:k=12:=by omega
   subst this
   refine ⟨⟨by omega,fun j hj=>by rw [K4.eq j (by omega) (by omega),sB.eq j (by omega)]; exact S3.eq j hj⟩,_,_,rfl,.inl ⟨rfl,σ,F,rs,fun θ=>?_,hi,hσ,_,fun j hj=>?_,mo⟩⟩
   ·rw [hsol θ]; exact ⟨And.right,fun h=>⟨Sol.nil,h⟩⟩
   ·have:hB.length≤j:=hj
    omega
 ·simp only [Zaf,Bool.not_false,Zay]
  refine ⟨⟨by have:=K3.le; omega,fun j hj=>by rw [K3.eq j (by omega) (by omega)]; exact S2.eq j hj⟩,_,_,rfl,.inr ⟨rfl,fun θ=>hno θ Sol.nil⟩⟩
theorem Zol (s t:List Nat) (hs0:s.length≤1048576) (ht0:t.length≤1048576) (h:Zaa):Zac pg Zdg [.str s,.str t] h fun v h'=>v=.bool (Zee s t)∧Zbh h.length h h':=by
 apply Zhw.call
 refine (Zns s (by omega) h).mono ?_
 rintro v h1 ⟨s1,vs1,rfl,r1⟩
 obtain ⟨d1,a1,n1,c1,e1,rfl⟩:=Ztd r1
 simp only [Zdx,Zak,Zed,Zae,Zai,Zaq,Zaf,Zbb]
 rw [Zih]
 generalize hh2:h1 ++ [Zcf.cells Zab [.int .u8 d1,.slice a1 n1 c1 e1] false]=h2
 have s2:Zbh h1.length h1 h2:=by rw [← hh2]; exact Zau
 have o2:h2[h1.length]?=some (.cells Zab [.int .u8 d1,.slice a1 n1 c1 e1] false):=by rw [← hh2]; simp
 simp only [Zar]
 refine (Zns t (by omega) h2).mono ?_
 rintro v h3 ⟨s3,vs3,rfl,r3⟩
 obtain ⟨d3,a3,n3,c3,e3,rfl⟩:=Ztd r3
 simp only [Zdx,Zak,Zed,Zae,Zai,Zaq,Zaf]
 rw [Zih]
 generalize hh4:h3 ++ [Zcf.cells Zab [.int .u8 d3,.slice a3 n3 c3 e3] false]=h4
 have s4:Zbh h3.length h3 h4:=by rw [← hh4]; exact Zau
 have o4:h4[h3.length]?=some (.cells Zab [.int .u8 d3,.slice a3 n3 c3 e3] false):=by rw [← hh4]; simp
 simp only [Zar]
 have S2:=s1.cat s2
 have S4:=(S2.cat s3).cat s4
 have o24:=s4.get (s3.get o2 (Own.lt o2)) (by have:=Own.lt o2; have:=s3.le; omega)
 cases hp:Zea s with
 | none=>
  have:Zlb s=false:=by unfold Zlb; rw [hp]; rfl
  rw [this]
  simp only [Bool.not_false,Zay]
  exact ⟨by rw [Znt (by rw [this]; rfl)],S4⟩
 | some a=>
  rw [Ziw hp]
  simp only [Bool.not_true,Zat]
  cases ht:Zea t with
  | none=>
   have:Zlb t=false:=by unfold Zlb; rw [ht]; rfl
   rw [this]
   simp only [Bool.not_false,Zay]
   exact ⟨by rw [Znt (by rw [this]; simp)],S4⟩
  | some b=>
   rw [Ziw ht]
   rw [hp] at r1
   rw [ht] at r3
   simp only at r1 r3
   obtain ⟨ha1,ha2,ha3⟩:=Zbv.1 hp
   obtain ⟨hb1,hb2,hb3⟩:=Zbv.1 ht
   simp only [Bool.not_true,Zat]
   apply Zhw.J5i
   rw [Zdj o24,Zdj o4]
   simp only [Zax,Zak,Zaq,Zae,Zai,true_and]
   have l1:=s1.le; have l2:=s2.le; have l3:=s3.le; have l4:=s4.le
   refine (Zxh _ (Nat.le_refl _) (S:=fun j=>j < h4.length) (fun j hj=>hj) hb1 ((r3.same s4).below.mono fun j hj=>hj.2)).mono ?_
   rintro v h5 ⟨s5,vs5,rfl,r5⟩
   obtain ⟨a5,c5,e5,rfl⟩:=r5.shape
   have o25:=s5.get o24 (Own.lt o24)
   simp only [Zed,Zak,Zaq,Zae,Zai]
   refine ⟨Zdj o25,?_⟩
   refine (Ybe (P:=fun t=>okL Znd t=true) (fun t h=>h) (fun t h p hp=>Ydm h p hp) (S:=fun j=>j < h5.length) (fun j hj=>hj) (Zpl (lf:=Zdo) (fun c hc=>by unfold Znd; rw [hc]; rfl) (by rw [Zyw]; exact ha1)) (Zth hb1) (((((r1.same s2).same s3).same s4).same s5).below.mono fun j hj=>hj.2) (r5.below.mono fun j hj=>hj.2)).mono ?_
   rintro v h6 ⟨s6,q,bl,rfl,hres⟩
   simp only [Zdx,Zak,Zbo,Zaf,Zaq]
   have hap:Zee s t=true ↔ ¬ ∃ θ:Nat→Ty,sb V12 θ a=sb V12 θ (Zmp b):=by
    rw [Zzp ha1 hb1]
    unfold Zee; rw [hp,ht]; simp
   refine ⟨?_,(S4.cat s5).cat s6⟩
   rcases hres with ⟨rfl,σ,F,rs,hsol,_⟩ | ⟨rfl,hno⟩
   ·have:Zee s t=false:=by
     cases hq:Zee s t with
     | false=>rfl
     | true=>exact absurd ⟨F,(hsol F).1 rs.solF⟩ (hap.1 hq)
    rw [this]; rfl
   ·rw [hap.2 fun ⟨θ,h⟩=>hno θ h]; rfl
end Go.Sim

set_option linter.unusedVariables false
set_option linter.unusedSimpArgs false
set_option maxRecDepth 20000
namespace Go.Sim
open Go Go.RowKit

end Go.Sim

set_option linter.unusedVariables false
set_option linter.unusedSimpArgs false
set_option maxRecDepth 20000
namespace Go.Sim
open Go Go.RowKit

end Go.Sim

set_option linter.unusedVariables false
set_option linter.unusedSimpArgs false
set_option maxRecDepth 20000
namespace Go.Sim
open Go Go.RowKit

end Go.Sim

set_option linter.unusedVariables false
set_option linter.unusedSimpArgs false
set_option maxRecDepth 20000
namespace Go.Sim
open Go Go.RowKit

theorem Zfd.low {α:Type} {ty:TypeId} {enc:α→List Zad} {b b':Nat} {h:Zaa} {a:Pt} {n:Nat} {l:List α} (f:Zfd ty enc b h a n l) (hb:b'≤b):Zfd ty enc b' h a n l:=
 ⟨f.1,f.2.imp id fun ⟨i,ha,hbi,hi⟩=>⟨i,ha,by omega,hi⟩⟩
end Go.Sim

set_option linter.unusedVariables false
set_option linter.unusedSimpArgs false
set_option maxRecDepth 20000
namespace Go.Sim
open Go Go.RowKit

theorem Row.i64 {b:Nat} {h:Zaa} {a:Pt} {n:Nat} {l:List Int} (r:Row b h a n (Zeh eI l)) {k:Nat} (hk:k < n):∃ i o,∃ hk':k < l.length,a=some (i,o)∧i < b∧Zaj h (.ptr (some (i,o + k * 1)))=some (.int .i64 l[k]):=by
 obtain ⟨i,o,hk',ha,hi,hc⟩:=Row.el1 Yla r hk
 exact ⟨i,o,hk',ha,hi,hc⟩
end Go.Sim

set_option linter.unusedVariables false
set_option linter.unusedSimpArgs false
set_option maxRecDepth 20000
namespace Go.Sim
open Go Go.RowKit

theorem Zqr.mono {S S':Nat→Prop} {h:Zaa} {i:Nat} {m:Bd} (r:Zqr S h i m) (hs:∀ j,S j→S' j):Zqr S' h i m:=by
 obtain ⟨rows,h1,h2,h3⟩:=r
 refine ⟨rows,h1,h2,fun k x hx=>?_⟩
 have:=h3 k x hx
 split at this
 ·exact this.mono hs
 ·exact this
theorem Zqr.below {S:Nat→Prop} {h:Zaa} {i:Nat} {m:Bd} (r:Zqr S h i m):Zqr (fun j=>S j∧j < h.length) h i m:=by
 obtain ⟨rows,h1,h2,h3⟩:=r
 refine ⟨rows,h1,h2,fun k x hx=>?_⟩
 have:=h3 k x hx
 split at this
 ·exact Zdc.below this
 ·exact this
end Go.Sim

set_option linter.unusedSimpArgs false
set_option linter.unusedVariables false
namespace Go.Sim
structure Zsc (G:Gr) (N:List Nat) (lk:Nat→Option Nat) (a b:Nat) (lk':Nat→Option Nat):Prop where
 ext:Zuk lk lk'
 gok:GOk G N lk'
 jnd:Jnd lk' a b
 new:∀ n m,n∈N→lk' n=some m→lk n=some m ∨ Yjn G lk' n m
 pres:∀ val,Str G N val→val a=val b→Rsp N lk val→Rsp N lk' val
def UNo (G:Gr) (N:List Nat) (lk:Nat→Option Nat) (a b:Nat):Prop:=∀ val,Str G N val→Rsp N lk val→val a≠val b
structure Yem (G:Gr) (N:List Nat) (lk:Nat→Option Nat) (a b:Nat) (lk':Nat→Option Nat) (i:Nat):Prop where
 ext:Zuk (lnk lk a b) lk'
 gok:GOk G N lk'
 jn:∀ j p q,j < i→(G.ps a)[j]?=some p→(G.ps b)[j]?=some q→Jnd lk' p q
 new:∀ n m,n∈N→lk' n=some m→lnk lk a b n=some m ∨ Yjn G lk' n m
 pres:∀ val,Str G N val→val a=val b→Rsp N lk val→Rsp N lk' val
section
variable {G:Gr} {N:List Nat} {lk lk' lk'':Nat→Option Nat} {a b p q i:Nat}
theorem Yem.start (g:GOk G N lk) (hb:b∈N) (ha0:lk a=none) (hb0:lk b=none) (hne:a≠b):Yem G N lk a b (lnk lk a b) 0:=
 ⟨Zuk.refl _,g.link hb ha0 hb0 hne,fun j p q h=>by omega,fun n m _ h=>.inl h,fun val _ he hr=>hr.link he⟩
theorem Yem.step (u:Yem G N lk a b lk' i) (hp:(G.ps a)[i]?=some p) (hq:(G.ps b)[i]?=some q) (ha:Zag (G.hd a)=false) (haN:a∈N) (hbN:b∈N) (hh:G.hd a=G.hd b) (y:Zsc G N lk' p q lk''):Yem G N lk a b lk'' (i + 1):=by
 refine ⟨u.ext.trans y.ext,y.gok,fun j p' q' hj hp' hq'=>?_,fun n m hn h=>?_,fun val hs he hr=>?_⟩
 ·by_cases e:j=i
  ·subst e; rw [hp] at hp'; rw [hq] at hq'; cases hp'; cases hq'; exact y.jnd
  ·exact (u.jn j p' q' (by omega) hp' hq').ext y.ext
 ·rcases y.new n m hn h with h | h
  ·rcases u.new n m hn h with h | h
   ·exact .inl h
   ·exact .inr (h.ext y.ext)
  ·exact .inr h
 ·refine y.pres val hs ?_ (u.pres val hs he hr)
  have h1:=(hs a haN ha).2
  have h2:=(hs b hbN (by rw [← hh]; exact ha)).2
  rw [he,h2] at h1
  have:=congrArg (·[i]?) h1
  simp only [List.getElem?_map,hp,hq,Option.map_some,Option.some.injEq] at this
  exact this.symm
theorem Yem.done (u:Yem G N lk a b lk' (G.ps a).length) (ha0:lk a=none) (hf:Zag (G.hd a)=false→G.hd b=G.hd a) (hv:Zag (G.hd a)=true→Zag (G.hd b)=true→G.hd a≤G.hd b):Zsc G N lk a b lk':=by
 have hab:lk' a=some b:=u.ext a b (by simp [lnk])
 refine ⟨(Ztw ha0).trans u.ext,u.gok,.of_path (.step hab .refl),fun n m hn h=>?_,u.pres⟩
 rcases u.new n m hn h with h | h
 ·unfold lnk at h
  by_cases e:n=a
  ·rw [if_pos e] at h; cases h; subst e
   exact .inr ⟨fun hn'=>⟨hf hn',fun j p q h1 h2=>u.jn j p q (List.getElem?_eq_some_iff.1 h1).1 h1 h2⟩,hv⟩
  ·rw [if_neg e] at h; exact .inl h
 ·exact .inr h
theorem Yem.fail (u:Yem G N lk a b lk' i) (hp:(G.ps a)[i]?=some p) (hq:(G.ps b)[i]?=some q) (ha:Zag (G.hd a)=false) (haN:a∈N) (hbN:b∈N) (hh:G.hd a=G.hd b) (y:UNo G N lk' p q):UNo G N lk a b:=by
 intro val hs hr he
 refine y val hs (u.pres val hs he hr) ?_
 have h1:=(hs a haN ha).2
 have h2:=(hs b hbN (by rw [← hh]; exact ha)).2
 rw [he,h2] at h1
 have:=congrArg (·[i]?) h1
 simp only [List.getElem?_map,hp,hq,Option.map_some,Option.some.injEq] at this
 exact this.symm
theorem UNo.clash (haN:a∈N) (hbN:b∈N) (ha:Zag (G.hd a)=false) (hb:Zag (G.hd b)=false) (hh:G.hd a≠G.hd b):UNo G N lk a b:=by
 intro val hs _ he
 have h1:=(hs a haN ha).1
 have h2:=(hs b hbN hb).1
 rw [he] at h1
 exact hh (h1.symm.trans h2)
theorem UNo.symm (h:UNo G N lk a b):UNo G N lk b a:=fun val hs hr he=>h val hs hr he.symm
theorem Zsc.symm (h:Zsc G N lk a b lk'):Zsc G N lk b a lk':=⟨h.ext,h.gok,h.jnd.symm,h.new,fun val hs he hr=>h.pres val hs he.symm hr⟩
theorem Zsc.same (g:GOk G N lk):Zsc G N lk a a lk:=⟨Zuk.refl _,g,.refl a,fun n m _ h=>.inl h,fun val _ _ hr=>hr⟩
theorem Zsc.path (g:GOk G N lk) {a0 b0 i j:Nat} (ha:a0∈N) (hb:b0∈N) (h1:Pth lk i a0 a) (h2:Pth lk j b0 b) (h:Zsc G N lk a b lk'):Zsc G N lk a0 b0 lk':=
 ⟨h.ext,h.gok,((Jnd.of_path (h1.ext h.ext)).trans h.jnd).trans (Jnd.of_path (h2.ext h.ext)).symm,h.new,fun val hs he hr=>h.pres val hs (by rw [← hr.path g ha h1,← hr.path g hb h2,he]) hr⟩
theorem UNo.path (g:GOk G N lk) {a0 b0 i j:Nat} (ha:a0∈N) (hb:b0∈N) (h1:Pth lk i a0 a) (h2:Pth lk j b0 b) (h:UNo G N lk a b):UNo G N lk a0 b0:=
 fun val hs hr he=>h val hs hr (by rw [← hr.path g ha h1,← hr.path g hb h2,he])
theorem Zsc.cls (y:Zsc G N (fun _=>none) a b lk'):Cls G N lk':=fun n m hn h=>(y.new n m hn h).resolve_left (by simp)
theorem Rsp.none {val:Nat→Ty}:Rsp N (fun _=>Option.none) val:=fun n m _ h=>by cases h
theorem GOk.ends (g:GOk G N lk) {n:Nat} (hn:n∈N):∃ k e,Pth lk k n e∧lk e=none∧e∈N:=by
 obtain ⟨k,e,h1,h2⟩:=g.end_ n hn
 exact ⟨k,e,h1,h2,g.path hn h1⟩
end
end Go.Sim

set_option linter.unusedSimpArgs false
set_option linter.unusedVariables false
namespace Go.Sim
def GAg (N:List Nat) (G G':Gr):Prop:=∀ n∈N,G'.hd n=G.hd n∧G'.ps n=G.ps n
theorem GAg.refl (N:List Nat) (G:Gr):GAg N G G:=fun _ _=>⟨rfl,rfl⟩
theorem GAg.trans {N N':List Nat} {G G' G'':Gr} (h:GAg N G G') (k:GAg N' G' G'') (hN:∀ n∈N,n∈N'):GAg N G G'':=fun n hn=>⟨((k n (hN n hn)).1).trans (h n hn).1,((k n (hN n hn)).2).trans (h n hn).2⟩
def GCl (G:Gr) (N:List Nat):Prop:=∀ n∈N,∀ p∈G.ps n,p∈N
section
variable {G G':Gr} {N:List Nat} {nu nu':Nat→Nat}
theorem Raw.agree {n:Nat} {t:Ty} (r:Raw G nu n t) (ag:GAg N G G') (cl:GCl G N) (hnu:∀ x∈N,nu' x=nu x):n∈N→Raw G' nu' n t:=by
 induction r with
 | @var n h=>intro hn; rw [← hnu n hn]; exact .var (by rw [(ag n hn).1]; exact h)
 | @cst n h h1=>intro hn; rw [← (ag n hn).1]; exact .cst (by rw [(ag n hn).1]; exact h) (by rw [(ag n hn).2]; exact h1)
 | @one n p s h h1 _ ih=>
  intro hn
  rw [← (ag n hn).1]
  exact .one (by rw [(ag n hn).1]; exact h) (by rw [(ag n hn).2]; exact h1) (ih (cl n hn p (by rw [h1]; simp)))
 | @two n p q s t h h1 _ _ ih1 ih2=>
  intro hn
  rw [← (ag n hn).1]
  exact .two (by rw [(ag n hn).1]; exact h) (by rw [(ag n hn).2]; exact h1) (ih1 (cl n hn p (by rw [h1]; simp))) (ih2 (cl n hn q (by rw [h1]; simp)))
theorem Sub.agree {n x:Nat} (s:Sub G n x) (ag:GAg N G G') (cl:GCl G N):n∈N→Sub G' n x:=by
 induction s with
 | refl=>exact fun _=>.refl
 | @part n p x hp _ ih=>intro hn; exact .part (by rw [(ag n hn).2]; exact hp) (ih (cl n hn p hp))
theorem Sub.trans {x y z:Nat} (h:Sub G x y) (k:Sub G y z):Sub G x z:=by
 induction h with
 | refl=>exact k
 | part hp _ ih=>exact .part hp (ih k)
theorem Raw.oth {n:Nat} {t:Ty} (r:Raw G G.hd n t) (cl:GCl G N) (hnu:∀ x∈N,Zag (G.hd x)=true→nu x=Zzr (G.hd x)):n∈N→Raw G nu n (Zmp t):=by
 induction r with
 | @var n h=>intro hn; rw [Zmp,if_pos h,← hnu n hn h]; exact .var h
 | @cst n h h1=>intro hn; rw [Zmp,if_neg (by rw [h]; simp)]; exact .cst h h1
 | @one n p s h h1 _ ih=>intro hn; rw [Zmp]; exact .one h h1 (ih (cl n hn p (by rw [h1]; simp)))
 | @two n p q s t h h1 _ _ ih1 ih2=>intro hn; rw [Zmp]; exact .two h h1 (ih1 (cl n hn p (by rw [h1]; simp))) (ih2 (cl n hn q (by rw [h1]; simp)))
variable {lk:Nat→Option Nat} {V:Nat→Bool}
theorem VT.ok (g:GOk G N lk) {n:Nat} {t:Ty} (v:VT G lk nu n t) (hnu:∀ x∈N,Zag (G.hd x)=true→Zag (nu x)=true):n∈N→t.ok=true:=by
 induction v with
 | @var n e k h1 h2 h3=>
  intro hn
  have:=hnu e (g.path hn h1) h3
  simp only [Ty.ok,Zdo,this,Bool.or_true]
 | @cst n e k h1 h2 h3 h4=>
  intro hn
  have:=g.ar e (g.path hn h1)
  rw [h4] at this
  simp only [Ty.ok]
  unfold arN at this
  cases hl:Zdo (G.hd e) with
  | true=>rfl
  | false=>
   rw [hl] at this
   simp only [Bool.false_eq_true,if_false,List.length_nil] at this
   split at this
   ·simp at this
   ·split at this <;> simp at this
 | @one n e k p s h1 h2 h3 h4 _ ih=>
  intro hn
  have he:=g.path hn h1
  have:=g.ar e he
  rw [h4] at this
  simp only [Ty.ok,ih (g.par e he p (by rw [h4]; simp)),Bool.and_true]
  unfold arN at this
  split at this
  ·simp at this
  ·split at this
   ·assumption
   ·split at this <;> simp at this
 | @two n e k p q s t h1 h2 h3 h4 _ _ ih1 ih2=>
  intro hn
  have he:=g.path hn h1
  have:=g.ar e he
  rw [h4] at this
  simp only [Ty.ok,ih1 (g.par e he p (by rw [h4]; simp)),ih2 (g.par e he q (by rw [h4]; simp)),Bool.and_true]
  unfold arN at this
  split at this
  ·simp at this
  ·split at this
   ·simp at this
   ·split at this
    ·assumption
    ·simp at this
structure Two (G:Gr) (N:List Nat) (nu:Nat→Nat) (V:Nat→Bool) (a b:Nat) (ta tb:Ty):Prop where
 aN:a∈N
 bN:b∈N
 nv:Ybl G N nu V
 ra:Raw G nu a ta
 rb:Raw G nu b tb
 raw:∀ n∈N,∃ t,Raw G nu n t
 sub:∀ x∈N,Sub G a x ∨ Sub G b x
variable {a b:Nat} {ta tb:Ty}
theorem Two.no (w:Two G N nu V a b ta tb) (h:UNo G N (fun _=>none) a b):¬ ∃ θ:Nat→Ty,sb V θ ta=sb V θ tb:=by
 rintro ⟨θ,he⟩
 exact h _ (Zod w.nv w.raw θ) Rsp.none (by rw [Zff w.ra,Zff w.rb,he])
theorem Two.endless (w:Two G N nu V a b ta tb) (y:Zsc G N (fun _=>none) a b lk) (h:∀ val,Str G N val→¬ Rsp N lk val):¬ ∃ θ:Nat→Ty,sb V θ ta=sb V θ tb:=by
 rintro ⟨θ,he⟩
 have hs:=Zod w.nv w.raw θ
 exact h _ hs (y.pres _ hs (by rw [Zff w.ra,Zff w.rb,he]) Rsp.none)
theorem Two.all (w:Two G N nu V a b ta tb) (y:Zsc G N (fun _=>none) a b lk) {T:Ty} (v:VT G lk nu a T):∀ x∈N,∃ s,VT G lk nu x s:=by
 intro x hx
 rcases w.sub x hx with h | h
 ·exact VT.sub y.gok y.cls h w.aN v
 ·exact VT.sub y.gok y.cls h w.bN (v.jnd y.jnd)
theorem Two.sol (w:Two G N nu V a b ta tb) (y:Zsc G N (fun _=>none) a b lk) {T:Ty} (v:VT G lk nu a T):sb V (grF G N lk nu) ta=T∧sb V (grF G N lk nu) tb=T:=
 Yib y.gok y.cls w.nv w.aN w.bN y.jnd w.ra w.rb v
theorem Two.mgu (w:Two G N G.hd Zag a b ta tb) (y:Zsc G N (fun _=>none) a b lk) {T:Ty} (v:VT G lk G.hd a T):Ycs ta tb (grF G N lk G.hd):=by
 have hs:=w.sol y v
 refine ⟨⟨hs.1.trans hs.2.symm,fun θ h c hc=>Yis y.gok w.nv w.raw w.ra w.rb (fun val h1 h2=>y.pres val h1 h2 Rsp.none) h hc,fun c d hc hd h hne=>?_,fun c h=>Yif w.nv h⟩,fun c hc=>?_⟩
 ·exact Yil (rk:=fun c=>c) y.gok y.cls w.nv (fun x hx e he hxv hev hle hne=>Nat.lt_of_le_of_ne hle hne) hc hd h hne
 ·unfold grF
  split
  ·rename_i hx
   obtain ⟨x,hxN,hxv,_,hv⟩:=hx.choose_spec
   exact hv.ok y.gok (fun x _ h=>h) hxN
  ·simp only [Ty.ok,Zdo,hc,Bool.or_true]
theorem Two.bound (w:Two G N G.hd Zag a b ta tb) (y:Zsc G N (fun _=>none) a b lk) {x:Nat} (hx:x∈N) (hv:Zag (G.hd x)=true) {s:Ty} (v:VT G lk G.hd x s):grF G N lk G.hd (G.hd x)=s∧(s=.k (G.hd x) ↔ lk x=none):=by
 refine ⟨Ycl w.nv hx hv v,?_⟩
 constructor
 ·have key:∀ {s:Ty},VT G lk G.hd x s→s=.k (G.hd x)→lk x=none:=by
   intro s v
   cases v with
   | @var _ e k h1 h2 h3=>
    intro he
    injection he with he
    have:=w.nv.inj e (y.gok.path hx h1) x hx h3 hv he
    rw [← this]; exact h2
   | @cst _ e k h1 h2 h3 h4=>
    intro he
    injection he with he
    rw [he,hv] at h3; cases h3
   | one=>intro he; cases he
   | two=>intro he; cases he
  exact key v
 ·intro h0
  exact v.det (.var .refl h0 hv)
end
end Go.Sim

set_option linter.unusedVariables false
set_option linter.unusedSimpArgs false
set_option maxRecDepth 20000
namespace Go.Sim
open Go Go.RowKit

structure GH (h:Zaa) (G:Gr) (N:List Nat) (lk:Nat→Option Nat) (Z:Nat→Prop):Prop where
 node:∀ n∈N,∃ a c e,h[n]?=some (.cells Zba [.str [G.hd n],.slice a (G.ps n).length c e,.ptr ((lk n).map fun m=>(m,0))] false) ∧
  Row h.length h a (G.ps n).length ((G.ps n).map fun p=>Zad.ptr (some (p,0)))∧∀ j o,(G.ps n).length≠0→a=some (j,o)→j ∉ N∧¬ Z j
def Zwo (N:List Nat) (h h':Zaa):Prop:=h.length≤h'.length∧∀ j,j < h.length→j ∉ N→h'[j]?=h[j]?
theorem Zwo.refl (N:List Nat) (h:Zaa):Zwo N h h:=⟨Nat.le_refl _,fun _ _ _=>rfl⟩
theorem Zwo.trans {N:List Nat} {h h1 h2:Zaa} (a:Zwo N h h1) (b:Zwo N h1 h2):Zwo N h h2:=⟨Nat.le_trans a.1 b.1,fun j hj hn=>by rw [b.2 j (by have:=a.1; omega) hn]; exact a.2 j hj hn⟩
theorem Zwo.of_same {N:List Nat} {h h':Zaa} (s:Zbh h.length h h'):Zwo N h h':=⟨s.le,fun j hj _=>s.eq j hj⟩
theorem Row.to {h h':Zaa} {a:Pt} {m:Nat} {cs:List Zad} (r:Row h.length h a m cs) (hl:h.length≤h'.length) (hh:∀ j o,m≠0→a=some (j,o)→j < h.length→h'[j]?=h[j]?):Row h'.length h' a m cs:=by
 obtain ⟨hc,r⟩:=r
 by_cases h0:m=0
 ·exact ⟨hc,.inl h0⟩
 ·refine ⟨hc,r.imp id ?_⟩
  rintro ⟨i,o,t,all,ro,ha,hi,hg,x⟩
  exact ⟨i,o,t,all,ro,ha,by omega,by rw [hh i o h0 ha hi]; exact hg,x⟩
section
variable {h h':Zaa} {G:Gr} {N:List Nat} {lk:Nat→Option Nat} {Z:Nat→Prop}
theorem GH.lt (g:GH h G N lk Z) {n:Nat} (hn:n∈N):n < h.length:=by obtain ⟨_,_,_,hi,_⟩:=g.node n hn; exact Own.lt hi
theorem Row.cellsAt {a:Pt} {m:Nat} {cs:List Zad} (r:Row h.length h a m cs) {j o:Nat} (h0:m≠0) (ha:a=some (j,o)):∃ t all ro,h[j]?=some (.cells t all ro):=by
 rcases r.2 with hm | ⟨i,o',t,all,ro,ha',hi,hg,x⟩
 ·exact absurd hm h0
 ·rw [ha] at ha'; cases ha'; exact ⟨t,all,ro,hg⟩
theorem GH.agree (g:GH h G N lk Z) (hl:h.length≤h'.length) (hh:∀ (j:Nat) (t:TypeId) (cs:List Zad) (ro:Bool),h[j]?=some (Zcf.cells t cs ro)→h'[j]?=h[j]?):GH h' G N lk Z:=by
 refine ⟨fun n hn=>?_⟩
 obtain ⟨a,c,e,hi,hr,hd⟩:=g.node n hn
 refine ⟨a,c,e,by rw [hh _ _ _ _ hi]; exact hi,hr.to hl fun j o h0 ha _=>?_,hd⟩
 obtain ⟨t,all,ro,hj⟩:=hr.cellsAt h0 ha
 exact hh _ _ _ _ hj
theorem GH.same (g:GH h G N lk Z) (s:Zbh h.length h h'):GH h' G N lk Z:=g.agree s.le fun j t cs ro hj=>s.eq j (Own.lt hj)
theorem GH.link (g:GH h G N lk Z) {a b:Nat} {x:Zcf} (ha:a∈N) {p:Pt} {c:Nat} {e:Bool} (hx:x=.cells Zba [.str [G.hd a],.slice p (G.ps a).length c e,.ptr (some (b,0))] false)
  (hr:Row h.length h p (G.ps a).length ((G.ps a).map fun p=>Zad.ptr (some (p,0)))) (hd:∀ j o,(G.ps a).length≠0→p=some (j,o)→j ∉ N∧¬ Z j):GH (h.set a x) G N (lnk lk a b) Z:=by
 refine ⟨fun n hn=>?_⟩
 have row:∀ {q:Pt} {m:Nat} {cs:List Zad},Row h.length h q m cs→(∀ j o,m≠0→q=some (j,o)→j ∉ N∧¬ Z j)→Row (h.set a x).length (h.set a x) q m cs:=fun r hd=>
  r.to (by simp) fun j o h0 hq _=>Zbm fun e'=>(hd j o h0 hq).1 (e' ▸ ha)
 by_cases e':n=a
 ·subst e'
  refine ⟨p,c,e,?_,row hr hd,hd⟩
  rw [List.getElem?_set_self (g.lt hn),hx]
  simp [lnk]
 ·obtain ⟨q,c',e'',hi,hr',hd'⟩:=g.node n hn
  refine ⟨q,c',e'',?_,row hr' hd',hd'⟩
  rw [Zbm (fun h=>e' h.symm),hi]
  simp [lnk,e']
theorem Row.outN {a:Pt} {m:Nat} {cs:List Zad} (r:Row h.length h a m cs) (hd:∀ j o,m≠0→a=some (j,o)→j ∉ N∧¬ Z j) (o:Zwo N h h'):Row h'.length h' a m cs:=
 r.to o.1 fun j o' h0 ha hl=>o.2 j hl (hd j o' h0 ha).1
theorem Zpg {a:Pt} {l:List Nat} (r:Row h.length h a l.length (l.map fun p=>Zad.ptr (some (p,0)))) {k p:Nat} (hp:l[k]?=some p):∃ j o,a=some (j,o)∧Zaj h (.ptr (some (j,o + k * 1)))=some (.ptr (some (p,0))):=by
 have hk:=(List.getElem?_eq_some_iff.1 hp).1
 obtain ⟨j,o,ha,hj,hc⟩:=r.at hk
 rw [List.getElem?_map,hp] at hc
 exact ⟨j,o,ha,by rw [Nat.mul_one]; exact hc⟩
theorem Zvk (g:GH h G N lk Z) (ok:GOk G N lk) {k n e:Nat} (hn:n∈N) (hp:Pth lk k n e) (he:lk e=none):Zac pg Zdu [.ptr (some (n,0))] h fun v h'=>v=.ptr (some (e,0))∧h'=h:=by
 apply Zez.call
 refine Zez.L1ind (J:=fun (i:Nat) a0 h'=>h'=h∧∃ m,a0=some (m,0)∧m∈N∧Pth lk i m e) (m:=fun i=>i) (hr:=?_) (g:=k) (hj:=⟨rfl,n,rfl,hn,hp⟩)
 rintro i a0 h' ⟨rfl,m,rfl,hm,hp⟩ R hR
 unfold Zez.L1t
 obtain ⟨a,c,e',hnode,_⟩:=g.node m hm
 simp only [Zao,Zah hnode,Nat.zero_add,List.getElem?_cons_succ,List.getElem?_cons_zero,Zbo]
 cases hp with
 | refl=>
  rw [he]
  simp only [Option.map_none,Option.isNone_none,Bool.not_true,Zat]
  apply Zez.A1x0i
  exact ⟨rfl,rfl⟩
 | step h1 h2=>
  rw [h1]
  simp only [Option.map_some,Option.isNone_some,Bool.not_false,Zay]
  exact hR _ _ _ (Nat.lt_succ_self _) ⟨rfl,_,rfl,ok.lkN _ _ hm h1,h2⟩
def Yjo (G:Gr) (N:List Nat) (lk:Nat→Option Nat) (Z:Nat→Prop) (a b:Nat) (h:Zaa) (v:Zad) (h':Zaa):Prop:=
 Zwo N h h'∧((v=.bool true∧∃ lk',Zsc G N lk a b lk'∧GH h' G N lk' Z) ∨ (v=.bool false∧UNo G N lk a b))
theorem Zgb (g:GH h G N lk Z) {n:Nat} (hn:n∈N):Zck h n=true:=by
 obtain ⟨a,c,e,hi,_⟩:=g.node n hn
 simp [Zck,hi]
theorem Yaw (x y:Nat):(Zen [x] [y] || decide ([x]=[y]))=decide (x≤y):=by
 rw [Bool.eq_iff_iff]
 simp [Zen]
 omega
theorem Zzq:∀ (U:Nat) {h:Zaa} {lk:Nat→Option Nat} {a b:Nat},ub N lk≤U→GH h G N lk Z→GOk G N lk→a∈N→b∈N→Zac pg Zhc [.ptr (some (a,0)),.ptr (some (b,0))] h (Yjo G N lk Z a b h):=by
 intro U
 induction U using Nat.strongRecOn with
 | ind U ih=>
 intro h lk a b hU g ok ha hb
 obtain ⟨k1,x,hp1,hx0,hx⟩:=ok.ends ha
 obtain ⟨k2,y,hp2,hy0,hy⟩:=ok.ends hb
 -- one end is linked to the other
 have core:∀ (p q:Nat) (Q:QT),p∈N→q∈N→lk p=none→lk q=none→p≠q→(Zag (G.hd q)=true→Zag (G.hd p)=true)→(Zag (G.hd p)=true→Zag (G.hd q)=true→G.hd p≤G.hd q) →
   (∀ v h',Yjo G N lk Z p q h v h'→Q v h')→Zdy.J7 Q (some (p,0)) (some (q,0)) h:=by
  intro p q Q hp hq hp0 hq0 hne hvar hord hQ
  obtain ⟨pa,pc,pe,hpi,hpr,hpd⟩:=g.node p hp
  obtain ⟨qa,qc,qe,hqi,hqr,hqd⟩:=g.node q hq
  have lenEq:Zag (G.hd p)=false→G.hd p=G.hd q→(G.ps p).length=(G.ps q).length:=fun _ e=>by
   have h1:=ok.ar p hp; have h2:=ok.ar q hq; rw [e] at h1; omega
  apply Zdy.J7i
  simp only [Zao,Zah hpi,Nat.zero_add,List.getElem?_cons_succ,List.getElem?_cons_zero,Zap]
  refine (Zln [G.hd p]).mono ?_
  rintro v h1 ⟨rfl,rfl⟩
  simp only [Zaf,Zlq,Zah hpi,Zah hqi,List.getElem?_cons_zero,Zap,true_and]
  have j9:(Zag (G.hd p)=false→G.hd p=G.hd q)→Zdy.J9 Q (some (p,0)) (some (q,0)) h1:=by
   intro hhd
   apply Zdy.J9i
   simp only [Zao,Zah hpi,Nat.zero_add,List.getElem?_cons_succ,List.getElem?_cons_zero,Zai]
   rw [Zbe hpi (by simp)]
   simp only [Zar,putRow,List.take_succ_cons,List.take_zero,List.length_cons,List.length_nil,List.drop_succ_cons,List.drop_zero,List.drop_nil,List.cons_append,List.nil_append,List.append_nil,hp0,Option.map_none]
   have g1:=g.link (b:=q) hp rfl hpr hpd (c:=pc) (e:=pe)
   have o1:Zwo N h1 (h1.set p (.cells Zba [.str [G.hd p],.slice pa (G.ps p).length pc pe,.ptr (some (q,0))] false)):=⟨by simp,fun j hj hn=>Zbm fun e=>hn (e ▸ hp)⟩
   generalize h1.set p (.cells Zba [.str [G.hd p],.slice pa (G.ps p).length pc pe,.ptr (some (q,0))] false)=h2 at g1 o1 ⊢
   have hlt:=Yjc (b:=q) hp hp0
   refine Zdy.L12ind (J:=fun (i:Nat) x82 h'=>x82=(i:Int)∧i≤(G.ps p).length∧Zwo N h2 h'∧∃ lk',Yem G N lk p q lk' i∧GH h' G N lk' Z) (m:=fun i=>(G.ps p).length - i) (hr:=?_) (g:=0)
    (hj:=⟨rfl,by omega,Zwo.refl _ _,_,Yem.start ok hq hp0 hq0 hne,g1⟩)
   rintro i x82 h3 ⟨rfl,hi,o3,lk',u,g3⟩ R hR
   unfold Zdy.L12t
   have O3:=o1.trans o3
   refine Zan (fun hlt3=>?_) (fun hge=>?_)
   ·have hi':i < (G.ps p).length:=by omega
    have hpv:Zag (G.hd p)=false:=by
     cases hv:Zag (G.hd p) with
     | false=>rfl
     | true=>rw [ok.var_ps hp hv] at hi'; simp at hi'
    have hh:=hhd hpv
    have hl:=lenEq hpv hh
    have hpg:(G.ps p)[i]?=some (G.ps p)[i]:=List.getElem?_eq_getElem hi'
    have hqg:(G.ps q)[i]?=some ((G.ps q)[i]'(by omega)):=List.getElem?_eq_getElem (by omega)
    obtain ⟨ja,oa,rfl,hca⟩:=Zpg (hpr.outN hpd O3) hpg
    obtain ⟨ra,rc,re,hri,hrr,hrd⟩:=g3.node q hq
    obtain ⟨jb,ob,rfl,hcb⟩:=Zpg hrr hqg
    simp only [Zao,Int.toNat_natCast,hca,Zbo,Zah hri,Nat.zero_add,List.getElem?_cons_succ,List.getElem?_cons_zero,Zai,hcb]
    have hup:ub N lk' < ub N lk:=Nat.lt_of_le_of_lt (Ydz u.ext) hlt
    refine ⟨by omega,by omega,(ih (ub N lk') (by omega) (Nat.le_refl _) g3 u.gok (ok.par p hp _ (List.getElem_mem hi')) (ok.par q hq _ (List.getElem_mem _))).mono ?_⟩
    rintro v h4 ⟨o4,⟨rfl,lk'',y,g4⟩ | ⟨rfl,no⟩⟩
    ·simp only [Zaf,Bool.not_true,Zat]
     rw [Zci (by have:=ok.ps_le hp; omega)]
     exact hR (i + 1) _ _ (by omega) ⟨rfl,by omega,o3.trans o4,lk'',u.step hpg hqg hpv hp hq hh y,g4⟩
    ·simp only [Zaf,Bool.not_false,Zay]
     exact hQ _ _ ⟨O3.trans o4,.inr ⟨rfl,u.fail hpg hqg hpv hp hq hh no⟩⟩
   ·apply Zdy.A12x1i
    have:i=(G.ps p).length:=by omega
    subst this
    exact hQ _ _ ⟨O3,.inl ⟨rfl,lk',u.done hp0 (fun hv=>(hhd hv).symm) hord,g3⟩⟩
  refine Zcx (fun hv=>?_) (fun hv=>j9 fun h=>by rw [hv] at h; cases h)
  have hqv:Zag (G.hd q)=false:=by
   cases hv':Zag (G.hd q) with
   | false=>rfl
   | true=>rw [hvar hv'] at hv; cases hv
  refine Zog (fun hne'=>?_) (fun he=>j9 fun _=>by simpa using he)
  exact hQ _ _ ⟨Zwo.refl _ _,.inr ⟨rfl,UNo.clash hp hq hv hqv fun e=>hne' (by rw [e])⟩⟩
 apply Zdy.call
 refine (Zvk g ok ha hp1 hx0).mono ?_
 rintro v h1 ⟨rfl,rfl⟩
 simp only [Zbo]
 refine (Zvk g ok hb hp2 hy0).mono ?_
 rintro v h2 ⟨rfl,rfl⟩
 simp only [Zbo]
 by_cases hxy:x=y
 ·subst hxy
  refine .inl ⟨rfl,?_⟩
  simp only [Zay]
  exact ⟨Zwo.refl _ _,.inl ⟨rfl,lk,Zsc.path ok ha hb hp1 hp2 (Zsc.same ok),g⟩⟩
 ·refine .inr ⟨hxy,Zgb g hx,Zgb g hy,?_⟩
  simp only [Zat]
  obtain ⟨xa,xc,xe,hxi,_⟩:=g.node x hx
  obtain ⟨ya,yc,ye,hyi,_⟩:=g.node y hy
  have fwd:∀ v h',Yjo G N lk Z x y h2 v h'→Yjo G N lk Z a b h2 v h':=fun v h' ⟨o,r⟩=>⟨o,r.imp (fun ⟨e,lk',u,g'⟩=>⟨e,lk',Zsc.path ok ha hb hp1 hp2 u,g'⟩) fun ⟨e,u⟩=>⟨e,UNo.path ok ha hb hp1 hp2 u⟩⟩
  have bwd:∀ v h',Yjo G N lk Z y x h2 v h'→Yjo G N lk Z a b h2 v h':=fun v h' ⟨o,r⟩=>fwd v h' ⟨o,r.imp (fun ⟨e,lk',u,g'⟩=>⟨e,lk',u.symm,g'⟩) fun ⟨e,u⟩=>⟨e,u.symm⟩⟩
  have iv:∀ (c:Nat) (K:Zad→Zaa→Prop),K (.bool (Zag c)) h2→Zac pg Zcc [.str [c]] h2 K:=fun c K hK=>(Zln [c]).mono fun v h' ⟨e1,e2⟩=>by rw [e1,e2]; exact hK
  simp only [Zao,Zah hxi,Zah hyi,Nat.zero_add,List.getElem?_cons_succ,List.getElem?_cons_zero,Zap,true_and]
  refine iv _ _ ?_
  simp only [Zaf,Zah hxi,Zah hyi,List.getElem?_cons_zero,Zap]
  refine Zdk (fun hvx=>?_) (fun hvx=>?_)
  ·refine iv _ _ ?_
   simp only [Zaf,Zah hxi,Zah hyi,List.getElem?_cons_zero,Zap]
   refine Zdk (fun hvy=>?_) (fun hvy=>?_)
   ·simp only [Yaw]
    refine Zog (fun hgt=>?_) (fun hle=>?_)
    ·rw [decide_eq_false hgt]
     exact core y x _ hy hx hy0 hx0 (fun e=>hxy e.symm) (fun _=>hvy) (fun _ _=>by omega) bwd
    ·refine iv _ _ ?_
     rw [hvx]
     simp only [Zaf,Zah hxi,Zah hyi,List.getElem?_cons_zero,Zap,Bool.not_true,Zat]
     exact core x y _ hx hy hx0 hy0 hxy (fun _=>hvx) (fun _ _=>hle) fwd
   ·refine iv _ _ ?_
    rw [hvx]
    simp only [Zaf,Zah hxi,Zah hyi,List.getElem?_cons_zero,Zap,Bool.not_true,Zat]
    exact core x y _ hx hy hx0 hy0 hxy (fun h=>hvx) (fun _ h=>by rw [hvy] at h; cases h) fwd
  ·refine iv _ _ ?_
   rw [hvx]
   simp only [Zaf,Zah hxi,Zah hyi,List.getElem?_cons_zero,Zap,Bool.not_false,Zay]
   refine iv _ _ ?_
   simp only [Zaf,Zah hxi,Zah hyi,List.getElem?_cons_zero,Zap]
   refine Zdk (fun hvy=>?_) (fun hvy=>?_)
   ·exact core y x _ hy hx hy0 hx0 (fun e=>hxy e.symm) (fun _=>hvy) (fun _ h=>by rw [hvx] at h; cases h) bwd
   ·exact core x y _ hx hy hx0 hy0 hxy (fun h=>by rw [hvy] at h; cases h) (fun h=>by rw [hvx] at h; cases h) fwd
end
end Go.Sim

set_option linter.unusedVariables false
set_option linter.unusedSimpArgs false
set_option maxRecDepth 20000
namespace Go.Sim
open Go Go.RowKit

def Zrt (h:Zaa) (i:Nat) (A:List Nat):Prop:=∃ es clk,h[i]?=some (.map es clk)∧es.map (·.1)=A.map (fun n=>Zad.ptr (some (n,0)))∧es.map (·.2.1)=A.map (fun _=>Zad.bool true)
theorem Zpn {h:Zaa}:∀ {es:List ME} {A:List Nat} {n k:Nat},es.map (·.1)=A.map (fun n=>Zad.ptr (some (n,0)))→es.map (·.2.1)=A.map (fun _=>Zad.bool true)→(∀ x∈A,Zck h x=true)→Zck h n=true→n∈A →
  ∃ j b,Zib h es (n,0) k=some (some (k + j,.bool true))∧A[j]?=some n∧(∀ i,i < j→A[i]?≠some n)∧es[j]?=some (.ptr (some (n,0)),.bool true,b)
 | _,[],n,k,_,_,_,_,h=>by cases h
 | [],x :: A,n,k,h,_,_,_,_=>by simp at h
 | (ek,ev,eb) :: es,x :: A,n,k,hk,hv,hA,hn,hm=>by
  simp only [List.map_cons,List.cons.injEq] at hk hv
  obtain ⟨rfl,hk⟩:=hk
  obtain ⟨rfl,hv⟩:=hv
  by_cases e:n=x
  ·subst e
   exact ⟨0,eb,by simp [Zib],rfl,fun i hi=>by omega,rfl⟩
  ·obtain ⟨j,b,h1,h2,h3,h4⟩:=Zpn (k:=k + 1) hk hv (fun y hy=>hA y (List.mem_cons_of_mem _ hy)) hn ((List.mem_cons.1 hm).resolve_left e)
   have hne:¬ ((n,0):Nat × Nat)=(x,0):=fun h=>e (by simpa using h)
   refine ⟨j + 1,b,?_,h2,fun i hi=>?_,h4⟩
   ·unfold Zib
    rw [if_neg hne,if_pos ⟨e,hn,hA x List.mem_cons_self⟩,h1,show k + 1 + j=k + (j + 1) by omega]
   ·match i with
    | 0=>simp; exact fun h=>e h.symm
    | i + 1=>simpa using h3 i (by omega)
theorem Zrh {h:Zaa}:∀ {es:List ME} {A:List Nat} {n k:Nat},es.map (·.1)=A.map (fun n=>Zad.ptr (some (n,0)))→(∀ x∈A,Zck h x=true)→Zck h n=true→n ∉ A→Zib h es (n,0) k=some none
 | [],[],n,k,_,_,_,_=>rfl
 | [],x :: A,n,k,h,_,_,_=>by simp at h
 | e :: es,[],n,k,h,_,_,_=>by simp at h
 | (ek,ev,eb) :: es,x :: A,n,k,hk,hA,hn,hm=>by
  simp only [List.map_cons,List.cons.injEq] at hk
  obtain ⟨rfl,hk⟩:=hk
  have e:n≠x:=fun e=>hm (by rw [e]; exact List.mem_cons_self)
  have hne:¬ ((n,0):Nat × Nat)=(x,0):=fun h=>e (by simpa using h)
  unfold Zib
  rw [if_neg hne,if_pos ⟨e,hn,hA x List.mem_cons_self⟩]
  exact Zrh hk (fun y hy=>hA y (List.mem_cons_of_mem _ hy)) hn fun h=>hm (List.mem_cons_of_mem _ h)
section
variable {h h':Zaa} {i n:Nat} {A:List Nat}
theorem Zrt.get (r:Zrt h i A) (he:h'[i]?=h[i]?):Zrt h' i A:=by obtain ⟨es,k,h1,x⟩:=r; exact ⟨es,k,by rw [he]; exact h1,x⟩
theorem Zrt.map (r:Zrt h i A):∃ es k,h[i]?=some (.map es k):=by obtain ⟨es,k,h1,_⟩:=r; exact ⟨es,k,h1⟩
theorem Zrt.look (r:Zrt h i A) (hA:∀ x∈A,Zck h x=true) (hn:Zck h n=true) {K:Bool→Prop} (hK:K (decide (n∈A))) :
  Zbt h (some i) fun es _=>Zqt (Zib h es (n,0) 0) fun r=>Zbg (some (Option.getD r (.bool false))) K:=by
 obtain ⟨es,k,h1,hk,hv⟩:=r
 simp only [Zbt,h1]
 by_cases hm:n∈A
 ·obtain ⟨j,b,hf,_⟩:=Zpn (k:=0) hk hv hA hn hm
  rw [hf]
  simp only [Zqt,Option.getD_some,Zaf]
  rw [decide_eq_true hm] at hK; exact hK
 ·rw [Zrh (k:=0) hk hA hn hm]
  simp only [Zqt,Option.getD_none,Zaf]
  rw [decide_eq_false hm] at hK; exact hK
theorem Zrt.put (r:Zrt h i A) (hA:∀ x∈A,Zck h x=true) (hn:Zck h n=true):∃ es k es' k',h[i]?=some (.map es k)∧Zrt (h.set i (.map es' k')) i (if n∈A then A else A ++ [n]) ∧
  ∀ K:List ME→Nat→Prop,K es' k'→Yfr (Zib h es (n,0) 0) es k (n,0) (.bool true) K:=by
 obtain ⟨es,k,h1,hk,hv⟩:=r
 have hl:=Own.lt h1
 by_cases hm:n∈A
 ·obtain ⟨j,b,hf,_,_,hj⟩:=Zpn (k:=0) hk hv hA hn hm
  refine ⟨es,k,es,k,h1,?_,fun K hK=>?_⟩
  rotate_left
  ·rw [hf]
   simp only [Yfr,Nat.zero_add]
   rw [Zjz hj rfl]
   exact hK
  ·rw [if_pos hm]
   exact ⟨es,k,List.getElem?_set_self hl,hk,hv⟩
 ·refine ⟨es,k,es ++ [(.ptr (some (n,0)),.bool true,k)],k + 1,h1,?_,fun K hK=>?_⟩
  rotate_left
  ·rw [Zrh (k:=0) hk hA hn hm]
   exact hK
  ·rw [if_neg hm]
   exact ⟨_,_,List.getElem?_set_self hl,by simp [hk],by simp [hv]⟩
theorem Zrt.del (r:Zrt h i (A ++ [n])) (hA:∀ x∈A,Zck h x=true) (hn:Zck h n=true) (hm:n ∉ A):∃ es k es',h[i]?=some (.map es k)∧Zrt (h.set i (.map es' k)) i A ∧
  ∀ K:List ME→Prop,K es'→Yhi (Zib h es (n,0) 0) es K:=by
 obtain ⟨es,k,h1,hk,hv⟩:=r
 have hl:=Own.lt h1
 have hA':∀ x∈A ++ [n],Zck h x=true:=fun x hx=>by
  rcases List.mem_append.1 hx with hx | hx
  ·exact hA x hx
  ·rw [List.mem_singleton.1 hx]; exact hn
 obtain ⟨j,b,hf,hj,hfirst,_⟩:=Zpn (k:=0) hk hv hA' hn (by simp)
 have hjA:j=A.length:=by
  have hjl:=(List.getElem?_eq_some_iff.1 hj).1
  simp at hjl
  by_cases h:j < A.length
  ·rw [List.getElem?_append_left h] at hj
   exact absurd (List.mem_of_getElem? hj) hm
  ·omega
 refine ⟨es,k,es.eraseIdx j,h1,⟨_,_,List.getElem?_set_self hl,?_,?_⟩,fun K hK=>?_⟩
 ·rw [← Zdn,hk,hjA,List.map_append,List.eraseIdx_append_of_length_le (by simp)]; simp
 ·rw [← Zdn,hv,hjA,List.map_append,List.eraseIdx_append_of_length_le (by simp)]; simp
 ·rw [hf]
  simp only [Yhi,Nat.zero_add]
  exact hK
end
def Zhb (i j:Nat) (h h':Zaa):Prop:=h.length≤h'.length∧∀ k,k < h.length→k≠i→k≠j→h'[k]?=h[k]?
theorem Zhb.refl (i j:Nat) (h:Zaa):Zhb i j h h:=⟨Nat.le_refl _,fun _ _ _ _=>rfl⟩
theorem Zhb.trans {i j:Nat} {h h1 h2:Zaa} (a:Zhb i j h h1) (b:Zhb i j h1 h2):Zhb i j h h2:=⟨Nat.le_trans a.1 b.1,fun k hk h1 h2=>by rw [b.2 k (by have:=a.1; omega) h1 h2]; exact a.2 k hk h1 h2⟩
theorem Zhb.set1 (i j:Nat) (h:Zaa) (x:Zcf):Zhb i j h (h.set i x):=⟨by simp,fun k _ h1 _=>Zbm fun e=>h1 e.symm⟩
theorem Zhb.set2 (i j:Nat) (h:Zaa) (x:Zcf):Zhb i j h (h.set j x):=⟨by simp,fun k _ _ h2=>Zbm fun e=>h2 e.symm⟩
section
variable {G:Gr} {N:List Nat} {lk:Nat→Option Nat} {Z:Nat→Prop}
theorem GH.keepM {h h':Zaa} {i j:Nat} (g:GH h G N lk Z) (k:Zhb i j h h') (hi:∃ es c,h[i]?=some (.map es c)) (hj:∃ es c,h[j]?=some (.map es c)):GH h' G N lk Z:=by
 obtain ⟨es,c,hi⟩:=hi
 obtain ⟨es',c',hj⟩:=hj
 exact g.agree k.1 fun q t cs ro hq=>k.2 q (Own.lt hq) (fun e=>by subst e; rw [hi] at hq; cases hq) (fun e=>by subst e; rw [hj] at hq; cases hq)
def Ymf (G:Gr) (N:List Nat) (lk:Nat→Option Nat) (n mA mD:Nat) (A:List Nat) (h:Zaa) (v:Zad) (h':Zaa):Prop:=
 Zhb mA mD h h'∧((v=.bool true∧∀ val,Str G N val→¬ Rsp N lk val) ∨ (v=.bool false∧(∀ nu,∃ T,VT G lk nu n T)∧Zrt h' mA A∧∃ D,Zrt h' mD D∧(∀ x∈D,x∈N)∧∀ d∈D,∀ nu,∃ T,VT G lk nu d T))
theorem Ykn {N A:List Nat} {e:Nat} (he:e∈N) (hA:e ∉ A):N.countP (fun x=>decide (x ∉ A ++ [e])) < N.countP (fun x=>decide (x ∉ A)):=by
 have key:∀ L:List Nat,e∈L→L.countP (fun x=>decide (x ∉ A ++ [e])) < L.countP (fun x=>decide (x ∉ A)):=by
  intro L hL
  induction L with
  | nil=>cases hL
  | cons n L ih=>
   have hm:L.countP (fun x=>decide (x ∉ A ++ [e]))≤L.countP (fun x=>decide (x ∉ A)):=List.countP_mono_left fun x _ h=>by
    simp only [decide_eq_true_eq,List.mem_append,not_or] at h ⊢; exact h.1
   rw [List.countP_cons,List.countP_cons]
   by_cases en:n=e
   ·subst en
    rw [if_neg (by simp),if_pos (by simpa using hA)]; omega
   ·have:=ih ((List.mem_cons.1 hL).resolve_left fun h=>en h.symm)
    by_cases hn:n∈A
    ·rw [if_neg (by simp [hn]),if_neg (by simp [hn])]; omega
    ·rw [if_pos (by simp [hn,en]),if_pos (by simp [hn])]; omega
 exact key N he
theorem Yan (ok:GOk G N lk):∀ (M:Nat) {h:Zaa} {n mA mD:Nat} {A D:List Nat},N.countP (fun x=>decide (x ∉ A))≤M→GH h G N lk Z→n∈N→Zrt h mA A→Zrt h mD D→mA≠mD→(∀ x∈A,x∈N)→(∀ x∈D,x∈N) →
  (∀ d∈D,∀ nu,∃ T,VT G lk nu d T)→(∀ val,Str G N val→Rsp N lk val→∀ x∈A,(val n).size < (val x).size) →
  Zac pg Zem [.ptr (some (n,0)),.map (some mA),.map (some mD)] h (Ymf G N lk n mA mD A h):=by
 intro M
 induction M using Nat.strongRecOn with
 | ind M ih=>
 intro h n mA mD A D hM g hn rA rD hne hAN hDN hDV hlt
 obtain ⟨k,e,hp,he0,he⟩:=ok.ends hn
 have hoA:∀ x∈A,Zck h x=true:=fun x hx=>Zgb g (hAN x hx)
 have hoD:∀ x∈D,Zck h x=true:=fun x hx=>Zgb g (hDN x hx)
 have hoe:=Zgb g he
 apply Zds.call
 refine (Zvk g ok hn hp he0).mono ?_
 rintro v h1 ⟨rfl,rfl⟩
 simp only [Zbo,Zao]
 refine rA.look hoA hoe ?_
 refine Zan (fun hin=>?_) (fun hnA=>?_)
 ·refine ⟨Zhb.refl _ _ _,.inl ⟨rfl,fun val hs hr=>?_⟩⟩
  have:=hlt val hs hr e hin
  rw [hr.path ok hn hp] at this
  omega
 refine rD.look hoD hoe ?_
 refine Zan (fun hin=>?_) (fun hnD=>?_)
 ·exact ⟨Zhb.refl _ _ _,.inr ⟨rfl,fun nu=>(hDV e hin nu).imp fun T v=>v.of_path hp,rA,D,rD,hDN,hDV⟩⟩
 obtain ⟨esA,kA,esA',kA',hA0,rA1,hput⟩:=rA.put hoA hoe
 simp only [xMp,Zao,Zbb,Zbt,hA0]
 refine hput _ ?_
 rw [if_neg hnA] at rA1
 have K1:=Zhb.set1 mA mD h1 (.map esA' kA')
 have rD1:Zrt (h1.set mA (.map esA' kA')) mD D:=rD.get (Zbm hne)
 have g1:=g.keepM K1 rA.map rD.map
 generalize h1.set mA (.map esA' kA')=h2 at rA1 rD1 g1 K1 ⊢
 obtain ⟨pa,pc,pe,hei,her,hed⟩:=g1.node e he
 simp only [Zah hei,Nat.zero_add,List.getElem?_cons_succ,List.getElem?_cons_zero,Zai]
 have hAN':∀ x∈A ++ [e],x∈N:=fun x hx=>by
  rcases List.mem_append.1 hx with hx | hx
  ·exact hAN x hx
  ·rw [List.mem_singleton.1 hx]; exact he
 refine Zds.L8ind (J:=fun (i:Nat) x24 h'=>x24=(i:Int)∧i≤(G.ps e).length∧Zhb mA mD h2 h'∧Zrt h' mA (A ++ [e])∧(∃ D',Zrt h' mD D'∧(∀ x∈D',x∈N)∧∀ d∈D',∀ nu,∃ T,VT G lk nu d T)∧∀ j p,j < i→(G.ps e)[j]?=some p→∀ nu,∃ T,VT G lk nu p T) (m:=fun i=>(G.ps e).length - i) (hr:=?_) (g:=0)
  (hj:=⟨rfl,by omega,Zhb.refl _ _ _,rA1,⟨D,rD1,hDN,hDV⟩,fun j p hj=>by omega⟩)
 rintro i x24 h3 ⟨rfl,hi,K3,rA3,⟨D3,rD3,hDN3,hDV3⟩,hdone⟩ R hR
 unfold Zds.L8t
 have g3:=g1.keepM K3 rA1.map rD1.map
 have KK:=K1.trans K3
 refine Zan (fun hlt3=>?_) (fun hge=>?_)
 ·have hi':i < (G.ps e).length:=by omega
  have hpg:(G.ps e)[i]?=some (G.ps e)[i]:=List.getElem?_eq_getElem hi'
  have her3:Row h3.length h3 pa (G.ps e).length ((G.ps e).map fun p=>Zad.ptr (some (p,0))):=her.to K3.1 fun j o h0 ha hl=>by
   obtain ⟨t,all,ro,hj⟩:=her.cellsAt h0 ha
   obtain ⟨es1,c1,q1⟩:=rA1.map
   obtain ⟨es2,c2,q2⟩:=rD1.map
   exact K3.2 j hl (fun e'=>by subst e'; rw [q1] at hj; cases hj) (fun e'=>by subst e'; rw [q2] at hj; cases hj)
  obtain ⟨ja,oa,rfl,hca⟩:=Zpg her3 hpg
  simp only [Zao,Int.toNat_natCast,hca,Zbo]
  have hpN:=ok.par e he _ (List.getElem_mem hi')
  refine ⟨by omega,(ih _ (Nat.lt_of_lt_of_le (Ykn he hnA) hM) (Nat.le_refl _) g3 hpN rA3 rD3 hne hAN' hDN3 hDV3 (fun val hs hr x hx=>?_)).mono ?_⟩
  ·have hpe:(val (G.ps e)[i]).size < (val e).size:=Yjx ok hs hr he (List.getElem_mem hi') .refl
   rcases List.mem_append.1 hx with hx | hx
   ·have:=hlt val hs hr x hx
    rw [hr.path ok hn hp] at this
    omega
   ·rw [List.mem_singleton.1 hx]; exact hpe
  ·rintro v h4 ⟨K4,⟨rfl,hno⟩ | ⟨rfl,hT,rA4,D4,rD4,hDN4,hDV4⟩⟩
   ·simp only [Zaf,Zay]
    exact ⟨KK.trans K4,.inl ⟨rfl,hno⟩⟩
   ·simp only [Zaf,Zat]
    rw [Zci (by have:=ok.ps_le he; omega)]
    refine hR (i + 1) _ _ (by omega) ⟨rfl,by omega,K3.trans K4,rA4,⟨D4,rD4,hDN4,hDV4⟩,fun j p hj hp'=>?_⟩
    by_cases hji:j=i
    ·subst hji; rw [hpg] at hp'; cases hp'; exact hT
    ·exact hdone j p (by omega) hp'
 ·apply Zds.A8x0i
  have:i=(G.ps e).length:=by omega
  subst this
  have hVe:∀ nu,∃ T,VT G lk nu e T:=fun nu=>VT.make ok he he0 fun p hp'=>by
   obtain ⟨j,hj⟩:=List.getElem?_of_mem hp'
   exact hdone j p (List.getElem?_eq_some_iff.1 hj).1 hj nu
  obtain ⟨es3,k3,es3',hA3,rA4,hdel⟩:=rA3.del (fun x hx=>Zgb g3 (hAN x hx)) (Zgb g3 he) hnA
  simp only [xMp,Zao,Zbb,Zbt,hA3]
  refine hdel _ ?_
  have K4:=Zhb.set1 mA mD h3 (.map es3' k3)
  have rD4:Zrt (h3.set mA (.map es3' k3)) mD D3:=rD3.get (Zbm hne)
  have g4:=g3.keepM K4 rA3.map rD3.map
  generalize h3.set mA (.map es3' k3)=h4 at rA4 rD4 g4 K4 ⊢
  obtain ⟨es4,k4,es4',k4',hD4,rD5,hput4⟩:=rD4.put (fun x hx=>Zgb g4 (hDN3 x hx)) (Zgb g4 he)
  simp only [hD4]
  refine hput4 _ ?_
  have rA5:Zrt (h4.set mD (.map es4' k4')) mA A:=rA4.get (Zbm fun e=>hne e.symm)
  refine ⟨(KK.trans K4).trans (Zhb.set2 mA mD h4 _),.inr ⟨rfl,fun nu=>(hVe nu).imp fun T v=>v.of_path hp,rA5,_,rD5,fun x hx=>?_,fun d hd=>?_⟩⟩
  ·split at hx
   ·exact hDN3 x hx
   ·rcases List.mem_append.1 hx with hx | hx
    ·exact hDN3 x hx
    ·rw [List.mem_singleton.1 hx]; exact he
  ·split at hd
   ·exact hDV3 d hd
   ·rcases List.mem_append.1 hd with hd | hd
    ·exact hDV3 d hd
    ·rw [List.mem_singleton.1 hd]; exact hVe
theorem Ycv (ok:GOk G N lk) {h:Zaa} {n:Nat} (g:GH h G N lk Z) (hn:n∈N) :
  Zac pg Zfp [.ptr (some (n,0))] h fun v h'=>Zbh h.length h h'∧((v=.bool false∧∀ val,Str G N val→¬ Rsp N lk val) ∨ (v=.bool true∧∀ nu,∃ T,VT G lk nu n T)):=by
 apply Zki.call
 simp only [Zbb]
 generalize hh0:h ++ [Zcf.map [] 0]=h0
 have s0:Zbh h.length h h0:=by rw [← hh0]; exact Zau
 have m0:h0[h.length]?=some (.map [] 0):=by rw [← hh0]; simp
 have l0:h0.length=h.length + 1:=by rw [← hh0]; simp
 generalize hh1:h0 ++ [Zcf.map [] 0]=h1
 have s1:Zbh h0.length h0 h1:=by rw [← hh1]; exact Zau
 have m1:=s1.get m0 (Own.lt m0)
 have d1:h1[h0.length]?=some (.map [] 0):=by rw [← hh1]; simp
 have S1:=s0.cat s1
 refine (Yan ok _ (Nat.le_refl _) (g.same S1) hn (A:=[]) (D:=[]) ⟨[],0,m1,rfl,rfl⟩ ⟨[],0,d1,rfl,rfl⟩ (by omega) (by simp) (by simp) (by simp) (by simp)).mono ?_
 rintro v h2 ⟨K2,hr⟩
 have l1:=S1.le
 have S2:Zbh h.length h h2:=⟨by have:=K2.1; omega,fun j hj=>by rw [K2.2 j (by omega) (by omega) (by omega)]; exact S1.eq j hj⟩
 rcases hr with ⟨rfl,hno⟩ | ⟨rfl,hT,_⟩
 ·simp only [Zaf]
  exact ⟨S2,.inl ⟨rfl,hno⟩⟩
 ·simp only [Zaf]
  exact ⟨S2,.inr ⟨rfl,hT⟩⟩
end
end Go.Sim

set_option linter.unusedVariables false
set_option linter.unusedSimpArgs false
set_option maxRecDepth 20000
namespace Go.Sim
open Go Go.RowKit

theorem Yfk {g:FuncId} {caps:List Zad} {K:FuncId→List Zad→Prop}:Yko (.fn g caps) K=K g caps:=rfl
section
variable {G:Gr} {N:List Nat} {lk:Nat→Option Nat} {Z:Nat→Prop}
theorem Yja (ok:GOk G N lk) (cl:Cls G N lk):∀ (M:Nat) {h:Zaa} {n:Nat} {T:Ty},T.size≤M→GH h G N lk Z→n∈N→VT G lk G.hd n T →
  Zac pg Zfq [.ptr (some (n,0)),.fn Znw []] h fun v h'=>h'=h∧∃ s:List Nat,v=.tup [.str s,.bool (decide (T.txt.length≤60))]∧s.length≤61∧(T.txt.length≤60→s=T.txt):=by
 intro M
 induction M with
 | zero=>intro h n T hT; have:=Zlo T; omega
 | succ M ih=>
 intro h n T hT g hn v
 obtain ⟨k,e,hp,he0,he⟩:=ok.ends hn
 have ve:=v.to hp
 obtain ⟨pa,pc,pe,hei,her,hed⟩:=g.node e he
 apply Zdb.call
 refine (Zvk g ok hn hp he0).mono ?_
 rintro v1 h1 ⟨rfl,rfl⟩
 simp only [Zbo,Zao,Zah hei,Nat.zero_add,List.getElem?_cons_zero,Zap]
 refine (Zln [G.hd e]).mono ?_
 rintro v2 h2 ⟨rfl,rfl⟩
 simp only [Zaf,Zlq,Zao,Zah hei,List.getElem?_cons_succ,List.getElem?_cons_zero,Zap,Zai]
 refine Zdk (fun hv=>?_) (fun hv=>?_)
 ·have hTe:T=.k (G.hd e):=ve.det (.var .refl he0 hv)
  subst hTe
  simp only [Yfk,List.append_nil]
  apply Zse.call
  simp only [Zao,Zah hei,Nat.zero_add,List.getElem?_cons_zero,Zap]
  exact ⟨by trivial,[G.hd e],by simp [Ty.txt],by simp,fun _=>rfl⟩
 ·obtain ⟨a1,a2,a3⟩:=VT.parts ok cl .refl he0 he hv ve
  have htx:=T.txt_mids
  have hln:=congrArg List.length htx
  rw [List.length_append,List.length_cons] at hln
  have hps2:=ok.ps_le he
  refine Zdb.L7ind (J:=fun (i:Nat) x7 x34 h'=>x34=(i:Int)∧i≤(G.ps e).length∧h'=h2∧x7=T.hd :: Zho 0 (T.ps.take i)∧x7.length≤60) (m:=fun i=>(G.ps e).length - i) (hr:=?_) (g:=0)
   (hj:=⟨rfl,by omega,rfl,by simp [Zho,a1],by simp⟩)
  rintro i x7 x34 h3 ⟨rfl,hi,rfl,rfl,hx7⟩ R hR
  unfold Zdb.L7t
  refine Zan (fun hlt=>?_) (fun hge=>?_)
  ·have hi':i < (G.ps e).length:=by omega
   have hiT:i < T.ps.length:=by omega
   have hpg:(G.ps e)[i]?=some (G.ps e)[i]:=List.getElem?_eq_getElem hi'
   obtain ⟨ja,oa,rfl,hca⟩:=Zpg her hpg
   have vp:=a3 i _ _ hpg (List.getElem?_eq_getElem hiT)
   have hmem:=List.getElem_mem hiT
   have hsz:=Ty.size_part hmem
   have hlp:=Ty.len_part hmem
   have hmt:=Zll T.ps 0 i hiT
   have hml:=Zmw T.ps 0 (i + 1)
   have hmtl:=congrArg List.length hmt
   simp only [List.length_append,List.length_cons,Nat.zero_add] at hmtl
   simp only [List.length_cons] at hx7
   simp only [Zao,Int.toNat_natCast,hca,Zbo]
   refine ⟨by omega,(ih (by omega) g (ok.par e he _ (List.getElem_mem hi')) vp).mono ?_⟩
   rintro v3 h4 ⟨rfl,s,rfl,hs,hst⟩
   simp only [Zdx,Zak,Zap,Zaf,Zaq]
   rw [Zym (by omega)]
   refine ⟨⟨by omega,by rw [Zci (by omega)]; omega,by rw [Zci (by omega)]; simp; omega⟩,by simp; omega,by simp; omega,?_⟩
   refine Zcx (fun hb=>?_) (fun hb=>?_)
   ·have hb:=of_decide_eq_false hb
    exact ⟨by trivial,[],by rw [decide_eq_false (by omega)],by simp,fun h=>by omega⟩
   ·have hb:=of_decide_eq_true hb
    have hs':=hst hb
    subst hs'
    have hx:(T.hd :: Zho 0 (T.ps.take i)) ++ ([Zkl i] ++ T.ps[i].txt)=T.hd :: Zho 0 (T.ps.take (i + 1)):=by rw [hmt]; simp
    rw [hx]
    refine Zan (fun h60=>?_) (fun h60=>?_)
    ·simp only [List.length_cons] at h60
     exact ⟨by trivial,[],by rw [decide_eq_false (by omega)],by simp,fun h=>by omega⟩
    ·apply Zdb.J13i
     rw [Zci (by omega)]
     exact hR (i + 1) _ _ _ (by omega) ⟨rfl,by omega,rfl,rfl,by omega⟩
  ·apply Zdb.A7x0i
   have:i=(G.ps e).length:=by omega
   subst this
   rw [← a2,List.take_length] at hx7 ⊢
   simp only [Zao,Zah hei,Nat.zero_add,List.getElem?_cons_succ,List.getElem?_cons_zero,Zai]
   refine Zan (fun hpos=>?_) (fun hneg=>?_)
   ·have hne:T.ps≠[]:=fun e=>by rw [e] at a2; simp at a2; omega
    rw [if_neg hne] at htx hln
    refine ⟨by simp at hx7 ⊢; omega,?_⟩
    apply Zdb.J16i
    rw [← htx]
    refine ⟨by trivial,T.txt,?_,?_,fun _=>rfl⟩
    ·rw [show decide (((T.txt.length:Nat):Int)≤60)=decide (T.txt.length≤60) by rw [Bool.eq_iff_iff]; simp only [decide_eq_true_eq]; omega]
    ·rw [hln]; simp only [List.length_cons,List.length_nil] at hx7 ⊢; omega
   ·have hne:T.ps=[]:=List.eq_nil_of_length_eq_zero (by omega)
    rw [if_pos hne,List.append_nil] at htx
    apply Zdb.J16i
    rw [← htx]
    refine ⟨by trivial,T.txt,?_,?_,fun _=>rfl⟩
    ·rw [show decide (((T.txt.length:Nat):Int)≤60)=decide (T.txt.length≤60) by rw [Bool.eq_iff_iff]; simp only [decide_eq_true_eq]; omega]
    ·rw [htx]; omega
end
end Go.Sim

set_option linter.unusedVariables false
set_option linter.unusedSimpArgs false
set_option maxRecDepth 20000
namespace Go.Sim
open Go Go.RowKit

theorem Zzj {i:Nat} {h h':Zaa} (s:Zbh h.length h h'):Zej i h h':=⟨s.le,fun j hj _=>s.eq j hj⟩
theorem Yhq {h h':Zaa} {i j:Nat} {x:Zcf} (K:Zej i h h') (hj:h[j]?=some x) (hi:j≠i):h'[j]?=some x:=by rw [K.eq j (Own.lt hj) hi]; exact hj
def Zqo:List (Nat × Nat)→Nat→Option Nat
 | [],_=>none
 | (c,x) :: r,d=>if c=d then some x else Zqo r d
theorem Zyy:∀ {l:List (Nat × Nat)} {c x d:Nat},Zqo (l ++ [(c,x)]) d=match Zqo l d with | some y=>some y | none=>if c=d then some x else none
 | [],c,x,d=>by simp [Zqo]
 | (c',x') :: l,c,x,d=>by
  simp only [List.cons_append,Zqo]
  by_cases e:c'=d
  ·simp [e]
  ·simp only [if_neg e,Zyy]
theorem Zpe:∀ {l:List (Nat × Nat)} {c x:Nat},Zqo l c=some x→(c,x)∈l
 | [],c,x,h=>by cases h
 | (c',x') :: l,c,x,h=>by
  simp only [Zqo] at h
  by_cases e:c'=c
  ·rw [if_pos e] at h; cases h; subst e; exact List.mem_cons_self
  ·rw [if_neg e] at h; exact List.mem_cons_of_mem _ (Zpe h)
theorem Zyn:∀ {l r:List (Nat × Nat)} {c x:Nat},Zqo l c=some x→Zqo (l ++ r) c=some x
 | [],r,c,x,h=>by cases h
 | (c',x') :: l,r,c,x,h=>by
  simp only [List.cons_append,Zqo] at h ⊢
  by_cases e:c'=c
  ·rw [if_pos e] at h ⊢; exact h
  ·rw [if_neg e] at h ⊢; exact Zyn h
def Yld (h:Zaa) (i:Nat) (sc:List (Nat × Nat)):Prop:=∃ es clk,h[i]?=some (.map es clk)∧es.map (·.1)=sc.map (fun p=>Zad.str [p.1])∧es.map (·.2.1)=sc.map (fun p=>Zad.ptr (some (p.2,0)))∧(es.map (·.2.2)).Nodup∧∀ e∈es,e.2.2 < clk
theorem Yld.eq {h h':Zaa} {i:Nat} {sc:List (Nat × Nat)} (r:Yld h i sc) (he:h'[i]?=h[i]?):Yld h' i sc:=by obtain ⟨es,k,h1,x⟩:=r; exact ⟨es,k,by rw [he]; exact h1,x⟩
theorem Znz:∀ {es:List ME} {sc:List (Nat × Nat)} {v x k:Nat},es.map (·.1)=sc.map (fun p=>Zad.str [p.1])→es.map (·.2.1)=sc.map (fun p=>Zad.ptr (some (p.2,0)))→Zqo sc v=some x→∃ j,Zkk es [v] k=some (some (j,.ptr (some (x,0))))
 | _,[],v,x,k,_,_,h=>by cases h
 | [],p :: sc,v,x,k,h,_,_=>by simp at h
 | (ek,ev,eb) :: es,(w,u) :: sc,v,x,k,hk,hv,h=>by
  simp only [List.map_cons,List.cons.injEq] at hk hv
  obtain ⟨rfl,hk⟩:=hk
  obtain ⟨rfl,hv⟩:=hv
  simp only [Zqo] at h
  by_cases e:w=v
  ·rw [if_pos e] at h
   cases h; subst e
   exact ⟨k,by simp [Zkk]⟩
  ·rw [if_neg e] at h
   obtain ⟨j,h1⟩:=Znz (k:=k + 1) hk hv h
   have:¬ [v]=[w]:=fun x=>e (by simpa using x.symm)
   exact ⟨j,by simp only [Zkk,this,if_false,h1]⟩
theorem Zsk:∀ {es:List ME} {sc:List (Nat × Nat)} {v k:Nat},es.map (·.1)=sc.map (fun p=>Zad.str [p.1])→Zqo sc v=none→Zkk es [v] k=some none
 | [],[],v,k,_,_=>rfl
 | [],p :: sc,v,k,h,_=>by simp at h
 | e :: es,[],v,k,h,_=>by simp at h
 | (ek,ev,eb) :: es,(w,u) :: sc,v,k,hk,h=>by
  simp only [List.map_cons,List.cons.injEq] at hk
  obtain ⟨rfl,hk⟩:=hk
  simp only [Zqo] at h
  by_cases e:w=v
  ·rw [if_pos e] at h; cases h
  ·rw [if_neg e] at h
   have:¬ [v]=[w]:=fun x=>e (by simpa using x.symm)
   simp only [Zkk,this,if_false]
   exact Zsk hk h
def Zof (G:Gr) (o c:Nat) (qs:List Nat):Gr:=⟨fun n=>if n=o then c else G.hd n,fun n=>if n=o then qs else G.ps n⟩
theorem Zwm {G:Gr} {N:List Nat} {o c:Nat} {qs:List Nat} (ho:o ∉ N):GAg N G (Zof G o c qs):=fun n hn=>by
 have:n≠o:=fun e=>ho (e ▸ hn)
 simp [Zof,this]
structure ShS (h:Zaa) (mi:Nat) (G:Gr) (N:List Nat) (sc:List (Nat × Nat)) (Z:Nat→Prop):Prop where
 gh:GH h G N (fun _=>none) Z
 cl:GCl G N
 ar:∀ n∈N,arN (G.hd n)=((G.ps n).length:Int)
 map:Yld h mi sc
 sin:∀ p∈sc,p.2∈N∧G.hd p.2=p.1∧Zag p.1=true∧Zqo sc p.1=some p.2
structure ShR (h:Zaa) (mi:Nat) (G:Gr) (N:List Nat) (sc:List (Nat × Nat)) (Z:Nat→Prop) (t:Ty) (q:Nat) (h':Zaa) (G':Gr) (L:List Nat) (sc':List (Nat × Nat)):Prop where
 fr:Zej mi h h'
 st:ShS h' mi G' (N ++ L) sc' Z
 ag:GAg N G G'
 new:∀ x∈L,h.length≤x∧Sub G' q x
 var:∀ x∈L,Zag (G'.hd x)=true→(G'.hd x,x)∈sc'
 ext:∃ r,sc'=sc ++ r
 qN:q∈N ++ L
 raw:Raw G' G'.hd q t
section
variable {h h':Zaa} {mi:Nat} {G:Gr} {N:List Nat} {sc:List (Nat × Nat)} {Z Z':Nat→Prop} {lk:Nat→Option Nat}
theorem GH.re (g:GH h G N lk Z) (hl:h.length≤h'.length) (hN:∀ n∈N,h'[n]?=h[n]?) (hR:∀ j t cs ro,h[j]?=some (Zcf.cells t cs ro)→¬ Z j→j ∉ N→h'[j]?=h[j]?) (hZ:∀ j,j < h.length→¬ Z j→¬ Z' j):GH h' G N lk Z':=by
 refine ⟨fun n hn=>?_⟩
 obtain ⟨a,c,e,hi,hr,hd⟩:=g.node n hn
 refine ⟨a,c,e,by rw [hN n hn]; exact hi,hr.to hl fun j o h0 ha _=>?_,fun j o h0 ha=>?_⟩
 ·obtain ⟨t,all,ro,hj⟩:=hr.cellsAt h0 ha
  exact hR _ _ _ _ hj (hd j o h0 ha).2 (hd j o h0 ha).1
 ·obtain ⟨t,all,ro,hj⟩:=hr.cellsAt h0 ha
  exact ⟨(hd j o h0 ha).1,hZ j (Own.lt hj) (hd j o h0 ha).2⟩
theorem GH.ag {G':Gr} (g:GH h G N lk Z) (ag:GAg N G G'):GH h G' N lk Z:=⟨fun n hn=>by rw [(ag n hn).1,(ag n hn).2]; exact g.node n hn⟩
theorem GH.add {o c:Nat} {qs:List Nat} (g:GH h G N (fun _=>none) Z') (hZo:Z' o) (hZ:∀ z,Z z→Z' z) (ho:o ∉ N) {a:Pt} {cp:Nat} {e:Bool} (hi:h[o]?=some (.cells Zba [.str [c],.slice a qs.length cp e,.ptr none] false))
  (hr:Row h.length h a qs.length (qs.map fun p=>Zad.ptr (some (p,0)))) (hd:∀ j o',qs.length≠0→a=some (j,o')→j ∉ N∧j≠o∧¬ Z j):GH h (Zof G o c qs) (N ++ [o]) (fun _=>none) Z:=by
 refine ⟨fun n hn=>?_⟩
 rcases List.mem_append.1 hn with hn | hn
 ·obtain ⟨b,c',e',hb,hbr,hbd⟩:=(g.ag (Zwm (c:=c) (qs:=qs) ho)).node n hn
  refine ⟨b,c',e',hb,hbr,fun j o' h0 ha=>⟨fun hj=>?_,fun hj=>(hbd j o' h0 ha).2 (hZ _ hj)⟩⟩
  rcases List.mem_append.1 hj with hj | hj
  ·exact (hbd j o' h0 ha).1 hj
  ·rw [List.mem_singleton] at hj
   subst hj
   exact (hbd j o' h0 ha).2 hZo
 ·rw [List.mem_singleton] at hn
  subst hn
  refine ⟨a,cp,e,by simpa [Zof] using hi,by simpa [Zof] using hr,fun j o' h0 ha=>?_⟩
  have h0':qs.length≠0:=by simpa [Zof] using h0
  obtain ⟨h1,h2,h3⟩:=hd j o' h0' ha
  exact ⟨fun hj=>(List.mem_append.1 hj).elim h1 fun hj=>h2 (List.mem_singleton.1 hj),h3⟩
end
structure ShL (h0:Zaa) (mi:Nat) (G:Gr) (N:List Nat) (sc:List (Nat × Nat)) (Z:Nat→Prop) (t:Ty) (o:Nat) (h':Zaa) (G1:Gr) (L1:List Nat) (sc1:List (Nat × Nat)) (qs:List Nat) (a:Pt) (cp:Nat) (e:Bool):Prop where
 out:h'[o]?=some (.cells Zba [.str [t.hd],.slice a qs.length cp e,.ptr none] false)
 vec:Vec Zcd h' a qs.length cp (qs.map fun q=>Zad.ptr (some (q,0)))
 low:∀ j,a=some (j,0)→o < j
 raw:∀ (i q:Nat) (x:Ty),qs[i]?=some q→t.ps[i]?=some x→Raw G1 G1.hd q x
 qN:∀ q∈qs,q∈N ++ L1
 fr:Zej mi h0 h'
 st:ShS h' mi G1 (N ++ L1) sc1 (fun z=>Z z ∨ z=o ∨ a=some (z,0))
 ag:GAg N G G1
 new:∀ x∈L1,o < x∧∃ q∈qs,Sub G1 q x
 var:∀ x∈L1,Zag (G1.hd x)=true→(G1.hd x,x)∈sc1
 ext:∃ r,sc1=sc ++ r
theorem Ydi {h:Zaa} {i j:Nat} {cs cs':List Zad} {r r':Bool} (hi:h[i]?=some (.cells Zba cs r)) (hj:h[j]?=some (.cells Zcd cs' r')):i≠j:=by
 rintro rfl; rw [hi] at hj; injection hj with hj; injection hj with hj; exact absurd hj (by decide)
theorem Vec.ptr {ty:TypeId} {h:Zaa} {a:Pt} {n c:Nat} {cs:List Zad} (x:Vec ty h a n c cs) {j o:Nat} (ha:a=some (j,o)):o=0∧h[j]?=some (.cells ty cs false):=by
 rcases x with ⟨h0,_⟩ | ⟨i,hi,hj⟩
 ·rw [ha] at h0; cases h0
 ·rw [ha] at hi; cases hi; exact ⟨rfl,hj⟩
theorem Yfp:∀ (M:Nat) {t:Ty} {S:Nat→Prop} {h:Zaa} {p:Pt} {mi:Nat} {G:Gr} {N:List Nat} {sc:List (Nat × Nat)} {Z:Nat→Prop},t.size≤M→t.ok=true→Zlw S h t p→(∀ j,S j→j≠mi)→ShS h mi G N sc Z→(∀ z,Z z→z < h.length) →
  Zac pg Zfh [.ptr p,.map (some mi)] h fun v h'=>∃ q G' L sc',v=.ptr (some (q,0))∧ShR h mi G N sc Z t q h' G' L sc':=by
 intro M
 induction M with
 | zero=>intro t S h p mi G N sc Z hM; have:=Zlo t; omega
 | succ M ih=>
 intro t S h p mi G N sc Z hM hok hrep hS st hZ
 obtain ⟨i,a,c0,e0,qa,rfl,si,hi,row,hSa,hqal,hqa⟩:=hrep.parts
 obtain ⟨es,clk,hm,hk,hv,hb,hlt⟩:=id st.map
 have hml:=Own.lt hm
 apply Zdd.call
 simp only [Zao,Zah hi,Nat.zero_add,List.getElem?_cons_zero,Zap]
 refine (Zln [t.hd]).mono ?_
 rintro v h1 ⟨rfl,rfl⟩
 simp only [Zaf,Zlq,Zah hi,List.getElem?_cons_zero,Zap,Zao]
 refine Zdk (fun hvar=>?_) (fun hvar=>?_)
 ·-- a variable
  have hps:t.ps=[]:=List.eq_nil_of_length_eq_zero (by have:=Ty.ok_ar hok; rw [Zpz hvar] at this; omega)
  have htk:t=.k t.hd:=Ykv (by rw [hps]; rfl)
  simp only [Zbt,hm,Zmj]
  cases hg:Zqo sc t.hd with
  | some x=>
   obtain ⟨j,hf⟩:=Znz (k:=0) hk hv hg
   rw [hf]
   simp only [Option.getD_some,Zbo,Option.isNone_some,Zat]
   apply Zdd.J4i
   simp only [Zao,Zah hi,Nat.zero_add,List.getElem?_cons_zero,Zap,Zbt,hm,Zmj,hf,Option.getD_some,Zbo]
   obtain ⟨h2,h3,h4,_⟩:=st.sin _ (Zpe hg)
   refine ⟨x,G,[],sc,rfl,Zej.refl _ _,by rw [List.append_nil]; exact st,GAg.refl _ _,by simp,by simp,⟨[],by simp⟩,by simpa using h2,?_⟩
   have h3':G.hd x=t.hd:=h3
   rw [htk,← h3']
   exact .var (by rw [h3']; exact hvar)
  | none=>
   have hf:=Zsk (k:=0) hk hg
   rw [hf]
   simp only [Option.getD_none,Zbo,Option.isNone_none,Zay,Zbb,true_and]
   generalize hh2:h1 ++ [Zcf.cells Zba [.str [t.hd],.slice none 0 0 true,.ptr none] false]=h2
   have s2:Zbh h1.length h1 h2:=by rw [← hh2]; exact Zau
   have o2:h2[h1.length]?=some (.cells Zba [.str [t.hd],.slice none 0 0 true,.ptr none] false):=by rw [← hh2]; simp
   have hi2:=s2.get hi (Own.lt hi)
   have hm2:=s2.get hm hml
   have l2:h2.length=h1.length + 1:=by rw [← hh2]; simp
   have him:i≠mi:=hS i si
   simp only [Zah hi2,Zah hi,List.getElem?_cons_zero,xMp,Zbt,hm2,Zzc,hf,true_and]
   generalize hh3:h2.set mi (.map (es ++ [(.str [t.hd],.ptr (some (h1.length,0)),clk)]) (clk + 1))=h3
   have hm3:h3[mi]?=some (.map (es ++ [(.str [t.hd],.ptr (some (h1.length,0)),clk)]) (clk + 1)):=by rw [← hh3]; exact Zby hm2
   have k3:∀ j,j≠mi→h3[j]?=h2[j]?:=fun j hj=>by rw [← hh3]; exact Zbm fun e=>hj e.symm
   have l3:h3.length=h2.length:=by rw [← hh3]; simp
   have hi3:h3[i]?=h2[i]?:=k3 i him
   have hk3:(es ++ [((Zad.str [t.hd],Zad.ptr (some (h1.length,0)),clk):ME)]).map (·.1)=(sc ++ [(t.hd,h1.length)]).map (fun p=>Zad.str [p.1]):=by simp [hk]
   have hv3:(es ++ [((Zad.str [t.hd],Zad.ptr (some (h1.length,0)),clk):ME)]).map (·.2.1)=(sc ++ [(t.hd,h1.length)]).map (fun p=>Zad.ptr (some (p.2,0))):=by simp [hv]
   have hg3:Zqo (sc ++ [(t.hd,h1.length)]) t.hd=some h1.length:=by rw [Zyy,hg]; simp
   obtain ⟨j3,hf3⟩:=Znz (k:=0) hk3 hv3 hg3
   apply Zdd.J4i
   rw [hi2] at hi3
   simp only [Zao,Zah hi3,Nat.zero_add,List.getElem?_cons_zero,Zap,Zbt,hm3,Zmj,hf3,Option.getD_some,Zbo]
   have hnN:h1.length ∉ N:=fun h=>by have:=st.gh.lt h; omega
   have hml2:mi≠h1.length:=by omega
   have o3:h3[h1.length]?=some (.cells Zba [.str [t.hd],.slice none ([]:List Nat).length 0 true,.ptr none] false):=by rw [k3 _ hml2.symm]; exact o2
   have g3:GH h3 G N (fun _=>none) (fun z=>Z z ∨ z=h1.length):=st.gh.re (by omega) (fun n hn=>by rw [k3 n fun e=>by subst e; obtain ⟨_,_,_,q,_⟩:=st.gh.node n hn; rw [hm] at q; cases q]; exact s2.eq n (st.gh.lt hn))
    (fun j t cs ro hj _ _=>by rw [k3 j fun e=>by subst e; rw [hm] at hj; cases hj]; exact s2.eq j (Own.lt hj)) (fun j hj hz=>by rintro (h | h); exact hz h; omega)
   have ag:GAg N G (Zof G h1.length t.hd []):=Zwm hnN
   have ghd:(Zof G h1.length t.hd []).hd h1.length=t.hd:=by simp [Zof]
   refine ⟨h1.length,Zof G h1.length t.hd [],[h1.length],sc ++ [(t.hd,h1.length)],rfl,⟨by omega,fun j hj hne=>by rw [k3 j hne]; exact s2.eq j hj⟩,⟨?_,?_,?_,?_,?_⟩,ag,?_,?_,⟨_,rfl⟩,by simp,?_⟩
   ·exact g3.add (.inr rfl) (fun z hz=>.inl hz) hnN o3 Row.nil (fun j o' h0=>absurd rfl h0)
   ·intro n hn p hp
    rcases List.mem_append.1 hn with hn | hn
    ·rw [(ag n hn).2] at hp; exact List.mem_append_left _ (st.cl n hn p hp)
    ·rw [List.mem_singleton.1 hn] at hp; simp [Zof] at hp
   ·intro n hn
    rcases List.mem_append.1 hn with hn | hn
    ·rw [(ag n hn).1,(ag n hn).2]; exact st.ar n hn
    ·rw [List.mem_singleton.1 hn,ghd,Zpz hvar]; simp [Zof]
   ·refine ⟨_,_,hm3,hk3,hv3,?_,?_⟩
    ·rw [List.map_append,List.nodup_append]
     refine ⟨hb,by simp,?_⟩
     intro x hx y hy e
     simp at hy
     obtain ⟨z,hz,rfl⟩:=List.mem_map.1 hx
     have:=hlt z hz; omega
    ·intro e he
     rcases List.mem_append.1 he with he | he
     ·have:=hlt e he; omega
     ·simp at he; subst he; simp
   ·intro p hp
    rcases List.mem_append.1 hp with hp | hp
    ·obtain ⟨h1',h2',h3',h4'⟩:=st.sin p hp
     exact ⟨List.mem_append_left _ h1',by rw [(ag _ h1').1]; exact h2',h3',Zyn h4'⟩
    ·rw [List.mem_singleton.1 hp]
     exact ⟨by simp,ghd,hvar,hg3⟩
   ·intro x hx
    rw [List.mem_singleton.1 hx]
    exact ⟨Nat.le_refl _,.refl⟩
   ·intro x hx _
    rw [List.mem_singleton.1 hx,ghd]; simp
   ·rw [htk]
    have:Raw (Zof G h1.length t.hd []) (Zof G h1.length t.hd []).hd h1.length (.k ((Zof G h1.length t.hd []).hd h1.length)):=.var (by rw [ghd]; exact hvar)
    rw [ghd] at this; exact this
 ·-- another letter
  simp only [Zbb]
  generalize hh2:h1 ++ [Zcf.cells Zba [.str [t.hd],.slice none 0 0 true,.ptr none] false]=h2
  have s2:Zbh h1.length h1 h2:=by rw [← hh2]; exact Zau
  have o2:h2[h1.length]?=some (.cells Zba [.str [t.hd],.slice none 0 0 true,.ptr none] false):=by rw [← hh2]; simp
  have l2:h2.length=h1.length + 1:=by rw [← hh2]; simp
  have hi2:=s2.get hi (Own.lt hi)
  have hm2:=s2.get hm hml
  have hmo:mi≠h1.length:=by omega
  have hNlt:∀ n∈N,n < h1.length:=fun n hn=>st.gh.lt hn
  have har:=Ty.ok_ar hok
  simp only [Zah hi2,List.getElem?_cons_succ,List.getElem?_cons_zero,Zai]
  have st2:ShS h2 mi G (N ++ []) sc (fun z=>Z z ∨ z=h1.length ∨ (none:Pt)=some (z,0)):=by
   rw [List.append_nil]
   refine ⟨st.gh.re (by omega) (fun n hn=>s2.eq n (hNlt n hn)) (fun j t cs ro hj _ _=>s2.eq j (Own.lt hj)) (fun j hj hz=>?_),st.cl,st.ar,st.map.eq (s2.eq mi hml),st.sin⟩
   rintro (h | h | h)
   ·exact hz h
   ·omega
   ·cases h
  refine Zdd.L7ind (J:=fun (g:Nat) x48 h'=>x48=(g:Int)∧g≤t.ps.length∧∃ G1 L1 sc1 qs a1 cp e1,qs.length=g∧ShL h1 mi G N sc Z t h1.length h' G1 L1 sc1 qs a1 cp e1) (m:=fun g=>t.ps.length - g) (hr:=?_) (g:=0)
   (hj:=⟨rfl,by omega,G,[],sc,[],none,0,true,rfl,o2,Vec.mk0,(fun j hj=>by cases hj),(fun i q x hq=>by simp at hq),(fun q hq=>by cases hq),Zzj s2,st2,GAg.refl _ _,(fun x hx=>by cases hx),(fun x hx=>by cases hx),⟨[],by simp⟩⟩)
  rintro g x48 h3 ⟨rfl,hg,G1,L1,sc1,qs,a1,cp,e1,hql,W⟩ R hR
  unfold Zdd.L7t
  have hps2:t.ps.length≤2:=by cases t <;> simp [Ty.ps]
  have hol:=Own.lt W.out
  refine Zan (fun hlt'=>?_) (fun hge=>?_)
  ·have hg':g < t.ps.length:=by omega
   have hqag:g < qa.length:=by omega
   obtain ⟨ja,oa,rfl,_,hca⟩:=(row.keepAt (i:=mi) (fun j o h0 e=>hS j (hSa j o h0 e)) W.fr).at hg'
   rw [List.getElem?_map,List.getElem?_eq_getElem hqag] at hca
   simp only [Zao,Int.toNat_natCast,Nat.mul_one,hca,Option.map_some,Zbo,Zah W.out,Nat.zero_add,List.getElem?_cons_succ,List.getElem?_cons_zero,Zai]
   have hmem:=List.getElem_mem hg'
   have hsz:=Ty.size_part hmem
   refine ⟨by omega,(ih (by omega) (Ty.ok_ps hok _ hmem) ((hqa g _ _ (List.getElem?_eq_getElem hqag) (List.getElem?_eq_getElem hg')).keep fun j hj hl=>W.fr.eq j hl (hS j hj)) hS W.st (fun z hz=>?_)).mono ?_⟩
   ·rcases hz with hz | hz | hz
    ·have:=hZ z hz; omega
    ·omega
    ·exact Own.lt (W.vec.ptr hz).2
   rintro v h4 ⟨q,G2,L2,sc2,rfl,R2⟩
   have hmo':h1.length≠mi:=fun e=>hmo e.symm
   have out4:=Yhq R2.fr W.out hmo'
   have a1mi:∀ j o,a1=some (j,o)→j≠mi:=fun j o hj e=>by
    subst e
    obtain ⟨es1,k1,hm1,_⟩:=W.st.map
    rw [(W.vec.ptr hj).2] at hm1; cases hm1
   have vec4:Vec Zcd h4 a1 qs.length cp (qs.map fun q=>Zad.ptr (some (q,0))):=W.vec.agree fun j hj=>R2.fr.eq j (Own.lt (W.vec.ptr hj).2) (a1mi j 0 hj)
   simp only [Zbo,Zbb]
   refine ⟨by rw [Zah out4]; rfl,by rw [Zah (Zau.get out4 (Own.lt out4)),Zah out4],?_⟩
   refine vec4.push Zsq Zzh Zyu Zys (by simp) rfl (by omega) (fun h5 hl5 hi5 hk5=>?_)
   have hfl:=R2.fr.le
   have out5:h5[h1.length]?=some (.cells Zba [.str [t.hd],.slice a1 qs.length cp e1,.ptr none] false):=by rw [hk5 _ (Own.lt out4) fun j hj=>by have:=W.low j hj; omega]; exact out4
   simp only [Zai]
   rw [Zbe out5 (by simp)]
   simp only [Zar,putRow,List.take_succ_cons,List.take_zero,List.length_cons,List.length_nil,List.drop_succ_cons,List.drop_zero,List.drop_nil,List.cons_append,List.nil_append,List.append_nil]
   rw [Zci (by omega)]
   generalize hh6:h5.set h1.length (.cells Zba [.str [t.hd],.slice (some (h4.length + 1,0)) (qs.length + 1) (qs.length + 1) false,.ptr none] false)=h6
   have l6:h6.length=h4.length + 2:=by rw [← hh6]; simpa using hl5
   have k6:∀ j,j < h4.length→j≠h1.length→(∀ i,a1=some (i,0)→j≠i)→h6[j]?=h4[j]?:=fun j hj h1' h2'=>by rw [← hh6,Zbm (fun e=>h1' e.symm)]; exact hk5 j hj h2'
   have ob6:h6[h1.length]?=some (.cells Zba [.str [t.hd],.slice (some (h4.length + 1,0)) (qs ++ [q]).length (qs.length + 1) false,.ptr none] false):=by rw [← hh6,Zby out5]; simp
   have nb6:h6[h4.length + 1]?=some (.cells Zcd ((qs ++ [q]).map fun q=>Zad.ptr (some (q,0))) false):=by
    rw [← hh6,Zbm (by omega),hi5]; simp
   have hoN:∀ n∈(N ++ L1) ++ L2,n≠h1.length:=fun n hn=>by
    rcases List.mem_append.1 hn with hn | hn
    ·rcases List.mem_append.1 hn with hn | hn
     ·have:=hNlt n hn; omega
     ·have:=(W.new n hn).1; omega
    ·have:=(R2.new n hn).1; omega
   have haN:∀ n∈(N ++ L1) ++ L2,∀ i,a1=some (i,0)→n≠i:=fun n hn i hi'=>by
    obtain ⟨_,_,_,hnn,_⟩:=R2.st.gh.node n hn
    exact Ydi hnn (vec4.ptr hi').2
   have hm4:=R2.st.map
   obtain ⟨es4,k4,hm4',_⟩:=id hm4
   have mi6:h6[mi]?=h4[mi]?:=k6 mi (Own.lt hm4') hmo (fun i hi'=>(a1mi i 0 hi').symm)
   have inc:∀ p,p∈sc1→p∈sc2:=fun p hp=>by obtain ⟨r,hr⟩:=R2.ext; rw [hr]; exact List.mem_append_left _ hp
   refine hR (g + 1) _ _ (by omega) ⟨rfl,by omega,G2,L1 ++ L2,sc2,qs ++ [q],some (h4.length + 1,0),qs.length + 1,false,by simp [hql],ob6,by rw [List.length_append]; exact Vec.mk1 nb6,fun j hj=>by cases hj; omega,fun i q' x hq' hx=>?_,fun q' hq'=>?_,⟨by have:=W.fr.le; omega,fun j hj hne=>?_⟩,⟨?_,?_,?_,hm4.eq mi6,?_⟩,W.ag.trans R2.ag (fun n hn=>List.mem_append_left _ hn),fun x hx=>?_,fun x hx hxv=>?_,?_⟩
   ·by_cases hi':i < qs.length
    ·rw [List.getElem?_append_left hi'] at hq'
     exact (W.raw i q' x hq' hx).agree R2.ag W.st.cl (fun y hy=>(R2.ag y hy).1) (W.qN _ (List.mem_of_getElem? hq'))
    ·rw [List.getElem?_append_right (by omega)] at hq'
     have hi0:i=g:=by
      have:=(List.getElem?_eq_some_iff.1 hq').1
      simp at this; omega
     subst hi0
     rw [hql,Nat.sub_self] at hq'
     simp at hq'
     subst hq'
     rw [List.getElem?_eq_getElem hg'] at hx
     cases hx
     exact R2.raw
   ·rw [← List.append_assoc]
    rcases List.mem_append.1 hq' with hq' | hq'
    ·exact List.mem_append_left _ (W.qN q' hq')
    ·rw [List.mem_singleton.1 hq']; exact R2.qN
   ·rw [k6 j (by have:=W.fr.le; omega) (by omega) fun i hi'=>by have:=W.low i hi'; omega,R2.fr.eq j (by have:=W.fr.le; omega) hne]
    exact W.fr.eq j hj hne
   ·rw [← List.append_assoc]
    refine R2.st.gh.re (by omega) (fun n hn=>k6 n (R2.st.gh.lt hn) (hoN n hn) (haN n hn)) (fun j ty cs ro hj hz hjn=>?_) (fun j hj hz=>?_)
    ·exact k6 j (Own.lt hj) (fun e=>hz (.inr (.inl e))) fun i hi' e=>hz (.inr (.inr (by rw [e]; exact hi')))
    ·rintro (h | h | h)
     ·exact hz (.inl h)
     ·exact hz (.inr (.inl h))
     ·cases h; omega
   ·rw [← List.append_assoc]; exact R2.st.cl
   ·rw [← List.append_assoc]; exact R2.st.ar
   ·rw [← List.append_assoc]; exact R2.st.sin
   ·rcases List.mem_append.1 hx with hx | hx
    ·obtain ⟨x1,q',hq',hsub⟩:=W.new x hx
     exact ⟨x1,q',List.mem_append_left _ hq',hsub.agree R2.ag W.st.cl (W.qN q' hq')⟩
    ·obtain ⟨x1,hsub⟩:=R2.new x hx
     exact ⟨by omega,q,by simp,hsub⟩
   ·rcases List.mem_append.1 hx with hx | hx
    ·have hh:=(R2.ag x (List.mem_append_right _ hx)).1
     rw [hh] at hxv ⊢
     exact inc _ (W.var x hx hxv)
    ·exact R2.var x hx hxv
   ·obtain ⟨r1,hr1⟩:=W.ext
    obtain ⟨r2,hr2⟩:=R2.ext
    exact ⟨r1 ++ r2,by rw [hr2,hr1,List.append_assoc]⟩
  ·apply Zdd.A7x0i
   have hgl:g=t.ps.length:=by omega
   have hqt:qs.length=t.ps.length:=by omega
   have hoN:h1.length ∉ N ++ L1:=fun hn=>by
    rcases List.mem_append.1 hn with hn | hn
    ·have:=hNlt _ hn; omega
    ·have:=(W.new _ hn).1; omega
   have ag1:GAg (N ++ L1) G1 (Zof G1 h1.length t.hd qs):=Zwm hoN
   have ghd:(Zof G1 h1.length t.hd qs).hd h1.length=t.hd:=by simp [Zof]
   have gps:(Zof G1 h1.length t.hd qs).ps h1.length=qs:=by simp [Zof]
   refine ⟨h1.length,Zof G1 h1.length t.hd qs,L1 ++ [h1.length],sc1,rfl,W.fr,⟨?_,?_,?_,W.st.map,fun p hp=>?_⟩,W.ag.trans ag1 (fun n hn=>List.mem_append_left _ hn),fun x hx=>?_,fun x hx hxv=>?_,W.ext,by simp,?_⟩
   ·rw [← List.append_assoc]
    refine W.st.gh.add (.inr (.inl rfl)) (fun z hz=>.inl hz) hoN W.out (W.vec.row (by simp)) (fun j o' h0 ha=>⟨fun hj=>?_,?_,fun hz=>?_⟩)
    ·obtain ⟨_,_,_,hnn,_⟩:=W.st.gh.node j hj
     exact Ydi hnn (W.vec.ptr ha).2 rfl
    ·have h00:=(W.vec.ptr ha).1
     subst h00
     have:=W.low j ha; omega
    ·have h00:=(W.vec.ptr ha).1
     subst h00
     have:=W.low j ha
     have:=hZ j hz; omega
   ·intro n hn p hp
    rw [← List.append_assoc] at hn ⊢
    rcases List.mem_append.1 hn with hn | hn
    ·rw [(ag1 n hn).2] at hp; exact List.mem_append_left _ (W.st.cl n hn p hp)
    ·rw [List.mem_singleton.1 hn,gps] at hp; exact List.mem_append_left _ (W.qN p hp)
   ·intro n hn
    rw [← List.append_assoc] at hn
    rcases List.mem_append.1 hn with hn | hn
    ·rw [(ag1 n hn).1,(ag1 n hn).2]; exact W.st.ar n hn
    ·rw [List.mem_singleton.1 hn,ghd,gps,har,hqt]
   ·obtain ⟨q1,q2,q3,q4⟩:=W.st.sin p hp
    exact ⟨by rw [← List.append_assoc]; exact List.mem_append_left _ q1,by rw [(ag1 _ q1).1]; exact q2,q3,q4⟩
   ·rcases List.mem_append.1 hx with hx | hx
    ·obtain ⟨x1,q',hq',hsub⟩:=W.new x hx
     exact ⟨by omega,.part (by rw [gps]; exact hq') (hsub.agree ag1 W.st.cl (W.qN q' hq'))⟩
    ·rw [List.mem_singleton.1 hx]; exact ⟨Nat.le_refl _,.refl⟩
   ·rcases List.mem_append.1 hx with hx | hx
    ·rw [(ag1 x (List.mem_append_right _ hx)).1] at hxv ⊢
     exact W.var x hx hxv
    ·rw [List.mem_singleton.1 hx,ghd] at hxv
     rw [hvar] at hxv; cases hxv
   ·have hraw:∀ (i q:Nat) (x:Ty),qs[i]?=some q→t.ps[i]?=some x→Raw (Zof G1 h1.length t.hd qs) (Zof G1 h1.length t.hd qs).hd q x:=fun i q x hq hx=>
     (W.raw i q x hq hx).agree ag1 W.st.cl (fun y hy=>(ag1 y hy).1) (W.qN _ (List.mem_of_getElem? hq))
    have hvo:Zag ((Zof G1 h1.length t.hd qs).hd h1.length)=false:=by rw [ghd]; exact hvar
    cases t with
    | k c=>
     have hq0:qs=[]:=List.eq_nil_of_length_eq_zero hqt
     have:=Raw.cst (nu:=(Zof G1 h1.length (Ty.k c).hd qs).hd) hvo (by rw [gps]; exact hq0)
     rw [ghd] at this; exact this
    | u c x=>
     obtain ⟨q,rfl⟩:=List.length_eq_one_iff.1 (show qs.length=1 from hqt)
     ·have:=Raw.one (nu:=(Zof G1 h1.length (Ty.u c x).hd [q]).hd) hvo gps (hraw 0 q x rfl rfl)
      rw [ghd] at this; exact this
    | w c x y=>
     obtain ⟨q,q',rfl⟩:∃ q q',qs=[q,q']:=by
      match qs,hqt with
      | [q,q'],_=>exact ⟨q,q',rfl⟩
     ·have:=Raw.two (nu:=(Zof G1 h1.length (Ty.w c x y).hd [q,q']).hd) hvo gps (hraw 0 q x rfl rfl) (hraw 1 q' y rfl rfl)
      rw [ghd] at this; exact this
end Go.Sim
