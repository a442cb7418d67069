/- A part of the proof of a statement of this seat: see the text that holds the theorem. No condition. -/
import Derived.Test.YtdglddliggejdaaGreatPTCSUn6
import Derived.Test.YtdglddliggejdaaGreatCSUn5
import Derived.Test.YtdglddliggejdaaGreatCSMatch
import Derived.Test.YtdglddliggejdaaGreatPTCDrawV
import Derived.Test.YtdglddliggejdaaGreatCSUn
import Derived.Test.YtdglddliggejdaaGreatNm
import Derived.Test.YtdglddliggejdaaGreatCWVar2
import Derived.Test.YtdglddliggejdaaGreatPTCSApply2
set_option linter.unusedVariables false
set_option linter.unusedSimpArgs false
set_option linter.all false
set_option linter.unusedVariables false
set_option linter.unusedSimpArgs false
set_option maxRecDepth 20000
namespace Go.Sim
open Go Go.RowKit

theorem Ygu {c d:Nat} (hc:V12 c=true) (hd:V12 d=true) (h:Zsu c=Zsu d):c=d:=by
 obtain ⟨k,hk,hkv,hix⟩:=Zpn hc
 obtain ⟨k',hk',hkv',hix'⟩:=Zpn hd
 unfold Zsu at h
 rw [hix,hix'] at h
 have:k=k':=by simpa using h
 subst this
 rw [hkv] at hkv'
 exact Option.some.inj hkv'
def tg (σ:Nat→Option Ty) (F:Nat→Ty) (k:Nat):Nat→Option Ty:=fun c=>if V12 c=true∧Zsu c < k∧σ c≠none then some (F c) else none
theorem Yjm {P:Ty→Prop} (hP:∀ t,P t→okL Ztl t=true) (hPs:∀ t,P t→∀ p∈t.ps,P p) {S:Nat→Prop} {h:Zaa} {a b:Ty} {va vb:List Zas} (hS:∀ j,S j→j < h.length) (ha:P a) (hb:P b) (ra:Zew S h a va) (rb:Zew S h b vb) :
  Zah pg Znr [.agg va,.agg vb] h fun v h'=>Zbe h.length h h'∧∃ q bl,v=.tup [.ptr (some (q,0)),.bool bl]∧((bl=true∧∃ σ F,Rsv V12 σ F∧(∀ θ,Sol V12 σ θ ↔ sb V12 θ a=sb V12 θ b)∧Inc Zsu V12 σ∧(∀ c t,σ c=some t→P (.k c)∧P t) ∧
   ∃ S',(∀ j,S' j→j≠q)∧Zsn S' h' q (tg σ F 12)) ∨ (bl=false∧∀ θ:Nat→Ty,sb V12 θ a≠sb V12 θ b)):=by
 obtain ⟨aa,ca,ea,rfl⟩:=ra.shape
 obtain ⟨ab,cb,eb,rfl⟩:=rb.shape
 apply Zga.call
 rw [← Ymw]
 simp only [Zax]
 generalize hh0:h ++ [Zcc.cells Zab [.int .u8 (a.hd:Int),.slice aa a.ps.length ca ea] false]=h0
 generalize hh1:h0 ++ [Zcc.cells Zab [.int .u8 (b.hd:Int),.slice ab b.ps.length cb eb] false]=h1
 generalize hh2:h1 ++ [Zcc.cells Zcj (Zdq eR (List.replicate 12 (Zas.int .u8 0,Zas.slice none 0 0 true))) false]=h2
 have s0:Zbe h.length h h0:=by rw [← hh0]; exact Zao
 have s1:Zbe h0.length h0 h1:=by rw [← hh1]; exact Zao
 have s2:Zbe h1.length h1 h2:=by rw [← hh2]; exact Zao
 have l0:h0.length=h.length + 1:=by rw [← hh0]; simp
 have l1:h1.length=h.length + 2:=by rw [← hh1]; simp [l0]
 have l2:h2.length=h.length + 3:=by rw [← hh2]; simp [l1]
 have oa0:h0[h.length]?=some (.cells Zab [.int .u8 (a.hd:Int),.slice aa a.ps.length ca ea] false):=by rw [← hh0]; simp
 have oa:=(s1.cat s2).get oa0 (Own.lt oa0)
 have ob1:h1[h0.length]?=some (.cells Zab [.int .u8 (b.hd:Int),.slice ab b.ps.length cb eb] false):=by rw [← hh1]; simp
 have ob:=s2.get ob1 (Own.lt ob1)
 have om:h2[h1.length]?=some (.cells Zcj (Zdq eR (List.replicate 12 (Zas.int .u8 0,Zas.slice none 0 0 true))) false):=by rw [← hh2]; simp
 have S2:=(s0.cat s1).cat s2
 rw [Zbk oa,Zbk ob]
 simp only [Zau,Zaj,Zar,Zaq,Zaf]
 refine (Yjq (S:=S) (i:=h1.length) hP hPs _ _ (Nat.le_refl _) (Nat.le_refl _) Rsv.nil (fun c d hc=>by cases hc) (fun c t hc=>by cases hc) (Zsn.nil om) (fun j hj=>⟨by have:=hS j hj; omega,by have:=hS j hj; omega⟩) ha hb (ra.same S2) (rb.same S2)).mono ?_
 rintro v h3 ⟨K3,⟨rfl,σ,F,m3,rs,hsol,hi,hσ,_⟩ | ⟨rfl,hno⟩⟩
 ·have hdom:∀ c u,σ c=some u→V12 c=true∧okL Ztl u=true:=fun c u h=>⟨rs.dom c u h,hP u (hσ c u h).2⟩
  simp only [Zap,Bool.not_true,Zbj]
  have l3:=K3.le
  have S3:Zbe h.length h h3:=⟨by omega,fun j hj=>by rw [K3.eq j (by omega) (by omega)]; exact S2.eq j hj⟩
  generalize hhB:h3 ++ [Zcc.cells Zcj (Zdq eR (List.replicate 12 (Zas.int .u8 0,Zas.slice none 0 0 true))) false]=hB
  have sB:Zbe h3.length h3 hB:=by rw [← hhB]; exact Zao
  have oB:hB[h3.length]?=some (.cells Zcj (Zdq eR (List.replicate 12 (Zas.int .u8 0,Zas.slice none 0 0 true))) false):=by rw [← hhB]; simp
  have lB:hB.length=h3.length + 1:=by rw [← hhB]; simp
  have mB:=m3.same sB
  have hSB:∀ j,S j→j < h3.length:=fun j hj=>by have:=hS j hj; omega
  have tg0:tg σ F 0=fun _=>none:=by funext c; simp [tg]
  refine Zga.L6ind (J:=fun (k:Nat) x19 h'=>x19=(k:Int)∧k≤12∧Zdp h3.length hB h'∧Zsn (fun j=>hB.length≤j) h' h3.length (tg σ F k)) (m:=fun k=>12 - k) (hr:=?_) (g:=0) (hj:=⟨rfl,by omega,Zdp.refl _ _,by rw [tg0]; exact Zsn.nil oB⟩)
  rintro k x19 h4 ⟨rfl,hk,K4,mo⟩ R hR
  unfold Zga.L6t
  have l4:=K4.le
  refine Zav (fun hlt=>?_) (fun hge=>?_)
  ·have hk12:k < 12:=by omega
   obtain ⟨v,hv⟩:∃ v,Zgm[k]?=some v:=⟨_,List.getElem?_eq_getElem (show k < Zgm.length from hk12)⟩
   have hvv:=Yrs hv
   have hrv:Zsu v=k:=by
    obtain ⟨k',hk',hkv',hix'⟩:=Zpn hvv
    have h5:=List.getElem?_eq_some_iff.1 hv
    have h6:=List.getElem?_eq_some_iff.1 hkv'
    have:k=k':=(List.getElem_inj (h₀:=h5.1) (h₁:=h6.1) Ybq).1 (h5.2.trans h6.2.symm)
    unfold Zsu; rw [hix',this]; rfl
   have m4:Zsn S h4 h1.length σ:=mB.keep (K4.eq _ (by omega) (by omega)) fun j hj _=>K4.eq j (by have:=hSB j hj; omega) (by have:=hSB j hj; omega)
   obtain ⟨x,hx1,hx2,hx3⟩:=m4.get hv
   have next:∀ h',Zdp h3.length hB h'→Zsn (fun j=>hB.length≤j) h' h3.length (tg σ F (k + 1))→Zga.J10 (fun v h'=>Zbe h.length h h'∧∃ q bl,v=.tup [.ptr (some (q,0)),.bool bl]∧((bl=true∧∃ σ F,Rsv V12 σ F∧(∀ θ,Sol V12 σ θ ↔ sb V12 θ a=sb V12 θ b)∧Inc Zsu V12 σ∧(∀ c t,σ c=some t→P (.k c)∧P t) ∧
     ∃ S',(∀ j,S' j→j≠q)∧Zsn S' h' q (tg σ F 12)) ∨ (bl=false∧∀ θ:Nat→Ty,sb V12 θ a≠sb V12 θ b))) R (k:Int) h1.length 0 h3.length 0 h':=by
    intro h' K' m'
    apply Zga.J10i
    rw [Zbt (by omega)]
    exact hR (k + 1) _ _ (by omega) ⟨rfl,by omega,K',m'⟩
   simp only [Int.toNat_natCast,hx1]
   cases hs:σ v with
   | none=>
    rw [hs] at hx3
    simp only at hx3
    subst hx3
    simp only [Zaq,show ((0:Int) == 0)=true from rfl,Bool.not_true,Zbj]
    have:tg σ F (k + 1)=tg σ F k:=by
     funext c
     unfold tg
     by_cases hc:V12 c=true∧σ c≠none
     ·have hne:Zsu c≠k:=fun e=>hc.2 (by rw [Ygu hc.1 hvv (by rw [e,hrv])]; exact hs)
      have:(Zsu c < k + 1) ↔ Zsu c < k:=by omega
      simp [hc,this]
     ·have h1:¬ (V12 c=true∧Zsu c < k + 1∧σ c≠none):=fun h=>hc ⟨h.1,h.2.2⟩
      have h2:¬ (V12 c=true∧Zsu c < k∧σ c≠none):=fun h=>hc ⟨h.1,h.2.2⟩
      rw [if_neg h1,if_neg h2]
    refine ⟨by omega,next h4 K4 (by rw [this]; exact mo)⟩
   | some t=>
    rw [hs] at hx3
    simp only at hx3
    have htok:=(hdom _ _ hs).2
    obtain ⟨wa,wc,we,hwx⟩:=hx3.shape
    simp only [List.cons.injEq,and_true] at hwx
    obtain ⟨hw1,hw2⟩:=hwx
    have hne:((t.hd:Int) == 0)=false:=by
     have:=Zst htok
     have hne:t.hd≠0:=fun e=>by rw [e] at this; simp at this
     simp; omega
    rw [hw1,hw2] at hx2 hx3
    rw [hw1]
    simp only [Zaq,hne,Bool.not_false,Zby,hx2,Zau,Zaj,Zar,Zaf]
    refine ⟨by omega,by omega,(Ylo rs hdom _ (Nat.le_refl _) m4 (fun j hj=>⟨by have:=hSB j hj; omega,by have:=hS j hj; omega⟩) htok hx3).mono ?_⟩
    rintro v5 h5 ⟨s5,vs,rfl,r5⟩
    obtain ⟨fa,fc,fe,rfl⟩:=r5.shape
    simp only [Zde,Zaj,Zar,Zaq,Zaf]
    have l5:=s5.le
    obtain ⟨h6,hst,K6,m6⟩:=(mo.same s5).put (fun j hj=>by omega) hv (t:=sb V12 F t) (x:=.int .u8 ((sb V12 F t).hd:Int)) (y:=.slice fa (sb V12 F t).ps.length fc fe) (r5.mono fun j hj=>by omega)
    rw [hst]
    simp only [Zat]
    have:tg σ F (k + 1)=upd (tg σ F k) v (sb V12 F t):=by
     funext c
     unfold upd
     by_cases e:c=v
     ·subst e
      rw [if_pos rfl,← rs.som c t hs]
      unfold tg
      rw [if_pos ⟨hvv,by omega,by rw [hs]; simp⟩]
     ·rw [if_neg e]
      unfold tg
      by_cases hc:V12 c=true
      ·have hne:Zsu c≠k:=fun e'=>e (Ygu hc hvv (by rw [e',hrv]))
       have:(Zsu c < k + 1) ↔ Zsu c < k:=by omega
       simp [this]
      ·simp [hc]
    exact ⟨by omega,next h6 ((K4.trans (Yji s5)).trans K6) (by rw [this]; exact m6)⟩
  ·apply Zga.A6x0i
   have:k=12:=by omega
   subst this
   refine ⟨⟨by omega,fun j hj=>by rw [K4.eq j (by omega) (by omega),sB.eq j (by omega)]; exact S3.eq j hj⟩,_,_,rfl,.inl ⟨rfl,σ,F,rs,fun θ=>?_,hi,hσ,_,fun j hj=>?_,mo⟩⟩
   ·rw [hsol θ]; exact ⟨And.right,fun h=>⟨Sol.nil,h⟩⟩
   ·have:hB.length≤j:=hj
    omega
 ·simp only [Zap,Bool.not_false,Zby]
  refine ⟨⟨by have:=K3.le; omega,fun j hj=>by rw [K3.eq j (by omega) (by omega)]; exact S2.eq j hj⟩,_,_,rfl,.inr ⟨rfl,fun θ=>hno θ Sol.nil⟩⟩
theorem Ydl (s t:List Nat) (hs0:s.length≤1048576) (ht0:t.length≤1048576) (h:Zaa):Zah pg Zmm [.str s,.str t] h fun v h'=>v=.bool (Zir s t)∧Zbe h.length h h':=by
 apply Zms.call
 refine (Zmi s (by omega) h).mono ?_
 rintro v h1 ⟨s1,vs1,rfl,r1⟩
 obtain ⟨d1,a1,n1,c1,e1,rfl⟩:=Zrb r1
 simp only [Zdx,Zaj,Zde,Zaq,Zaf,Zar,Zap,Zax]
 rw [Zgk]
 generalize hh2:h1 ++ [Zcc.cells Zab [.int .u8 d1,.slice a1 n1 c1 e1] false]=h2
 have s2:Zbe h1.length h1 h2:=by rw [← hh2]; exact Zao
 have o2:h2[h1.length]?=some (.cells Zab [.int .u8 d1,.slice a1 n1 c1 e1] false):=by rw [← hh2]; simp
 simp only [Zat]
 refine (Zmi t (by omega) h2).mono ?_
 rintro v h3 ⟨s3,vs3,rfl,r3⟩
 obtain ⟨d3,a3,n3,c3,e3,rfl⟩:=Zrb r3
 simp only [Zdx,Zaj,Zde,Zaq,Zaf,Zar,Zap]
 rw [Zgk]
 generalize hh4:h3 ++ [Zcc.cells Zab [.int .u8 d3,.slice a3 n3 c3 e3] false]=h4
 have s4:Zbe h3.length h3 h4:=by rw [← hh4]; exact Zao
 have o4:h4[h3.length]?=some (.cells Zab [.int .u8 d3,.slice a3 n3 c3 e3] false):=by rw [← hh4]; simp
 simp only [Zat]
 have S2:=s1.cat s2
 have S4:=(S2.cat s3).cat s4
 have o24:=s4.get (s3.get o2 (Own.lt o2)) (by have:=Own.lt o2; have:=s3.le; omega)
 cases hp:Zgv s with
 | none=>
  have:Zkg s=false:=by unfold Zkg; rw [hp]; rfl
  rw [this]
  simp only [Bool.not_false,Zby]
  exact ⟨by rw [Zwj (by rw [this]; rfl)],S4⟩
 | some a=>
  rw [Zqe hp]
  simp only [Bool.not_true,Zbj]
  cases ht:Zgv t with
  | none=>
   have:Zkg t=false:=by unfold Zkg; rw [ht]; rfl
   rw [this]
   simp only [Bool.not_false,Zby]
   exact ⟨by rw [Zwj (by rw [this]; simp)],S4⟩
  | some b=>
   rw [Zqe ht]
   rw [hp] at r1
   rw [ht] at r3
   simp only at r1 r3
   obtain ⟨ha1,ha2,ha3⟩:=Zec.1 hp
   obtain ⟨hb1,hb2,hb3⟩:=Zec.1 ht
   simp only [Bool.not_true,Zbj]
   apply Zms.J5i
   rw [Zbk o24,Zbk o4]
   simp only [Zau,Zaj,Zar,Zaq,Zaf,true_and]
   have l1:=s1.le; have l2:=s2.le; have l3:=s3.le; have l4:=s4.le
   refine (Yfw _ (Nat.le_refl _) (S:=fun j=>j < h4.length) (fun j hj=>hj) hb1 ((r3.same s4).below.mono fun j hj=>hj.2)).mono ?_
   rintro v h5 ⟨s5,vs5,rfl,r5⟩
   obtain ⟨a5,c5,e5,rfl⟩:=r5.shape
   have o25:=s5.get o24 (Own.lt o24)
   simp only [Zde,Zaj,Zar,Zaq,Zaf]
   refine ⟨Zbk o25,?_⟩
   refine (Yjm (P:=fun t=>okL Ztl t=true) (fun t h=>h) (fun t h p hp=>Ykw h p hp) (S:=fun j=>j < h5.length) (fun j hj=>hj) (Zwe (lf:=Zfs) (fun c hc=>by unfold Ztl; rw [hc]; rfl) (by rw [Ygr]; exact ha1)) (Yal hb1) (((((r1.same s2).same s3).same s4).same s5).below.mono fun j hj=>hj.2) (r5.below.mono fun j hj=>hj.2)).mono ?_
   rintro v h6 ⟨s6,q,bl,rfl,hres⟩
   simp only [Zdx,Zaj,Zdu,Zap,Zar]
   have hap:Zir s t=true ↔ ¬ ∃ θ:Nat→Ty,sb V12 θ a=sb V12 θ (Zsh b):=by
    rw [Ygx ha1 hb1]
    unfold Zir; rw [hp,ht]; simp
   refine ⟨?_,(S4.cat s5).cat s6⟩
   rcases hres with ⟨rfl,σ,F,rs,hsol,_⟩ | ⟨rfl,hno⟩
   ·have:Zir s t=false:=by
     cases hq:Zir s t with
     | false=>rfl
     | true=>exact absurd ⟨F,(hsol F).1 rs.solF⟩ (hap.1 hq)
    rw [this]; rfl
   ·rw [hap.2 fun ⟨θ,h⟩=>hno θ h]; rfl
end Go.Sim

set_option linter.unusedVariables false
set_option linter.unusedSimpArgs false
set_option maxRecDepth 20000
namespace Go.Sim
open Go Go.RowKit

end Go.Sim

set_option linter.unusedVariables false
set_option linter.unusedSimpArgs false
set_option maxRecDepth 20000
namespace Go.Sim
open Go Go.RowKit

theorem Ztv {h:Zaa} {a0 a1:Pt} {n0 c0 n1 c1:Nat} {w:Wd} (r:Zpz h a0 n0 c0 a1 n1 c1 w) {k:Nat} (hk:k < w.is.length) :
  ∃ i o a n cp e,a1=some (i,o)∧i < h.length∧Zan h (.ptr (some (i,o + k * 3))) 3=some [.str w.is[k].1.1,.str w.is[k].1.2,.slice a n cp e]∧Zai h (.ptr (some (i,o + k * 3)))=some (.str w.is[k].1.1)∧Zai h (.ptr (some (i,o + k * 3 + 1)))=some (.str w.is[k].1.2)∧Row h.length h a (n * 2) (Zdq eP w.is[k].2)∧w.is[k].2.length=n:=by
 have hl:=r.len1
 obtain ⟨i,o,hk',a,n,cp,e,h1,h2,h3,h4,h5,h6,h7,h8⟩:=r.inst (k:=k) (by omega)
 exact ⟨i,o,a,n,cp,e,h1,h2,h3,h4,h5,h7,h8⟩
end Go.Sim

set_option linter.unusedVariables false
set_option linter.unusedSimpArgs false
set_option maxRecDepth 20000
namespace Go.Sim
open Go Go.RowKit

theorem Ybf:pg.underlying Zyr=some (.slice Zgj):=by kernel_rfl
theorem Yqa:pg.cellsOf Zgj=1:=by kernel_rfl
theorem Yqi:pg.okElem Zgj=true:=by kernel_rfl
theorem Yqk:pg.bytesOf Zgj≤127:=Nat.le_of_ble_eq_true (by kernel_rfl)
def ixs {α:Type} (f:α→Bool) (l:List α):List Int:=(l.zipIdx.filter fun p=>f p.1).map fun p=>(p.2:Int)
theorem Zna {α:Type} (f:α→Bool) {l:List α} {g:Nat} (h:g < l.length):ixs f (l.take (g + 1))=ixs f (l.take g) ++ if f l[g] then [(g:Int)] else []:=by
 unfold ixs
 rw [List.take_succ_eq_append_getElem h,List.zipIdx_append,List.filter_append,List.map_append]
 congr 1
 simp only [List.length_take,Nat.min_eq_left (by omega:g≤l.length),Nat.zero_add,List.zipIdx_singleton,List.filter_cons,List.filter_nil]
 split <;> simp
theorem Zqv {α:Type} (f:α→Bool) (l:List α):(ixs f l).length≤l.length:=by
 unfold ixs; rw [List.length_map]; exact Nat.le_trans (List.length_filter_le _ _) (by simp)
theorem Yao {w:Wd} (h:Zgb w=true) {i:Ins} (hi:i∈w.is):Zkg i.1.2=true∧∀ n∈i.2,Zkg n.2=true:=by
 unfold Zgb at h
 simp only [Bool.and_eq_true,List.all_eq_true] at h
 have:=h.2 i hi
 unfold Zlw at this
 simp only [Bool.and_eq_true,List.all_eq_true] at this
 refine ⟨this.1.1.1.1.2,fun n hn=>?_⟩
 have:=this.2 n hn
 unfold Zin at this
 simp only [Bool.and_eq_true] at this
 exact this.1.1.2
theorem fa1 {j o:Nat} {K:Zas→Prop}:Zje pg Zae (.ptr (some (j,o))) 1 K=K (.ptr (some (j,o + 1))):=by kernel_rfl
end Go.Sim

set_option linter.unusedVariables false
set_option linter.unusedSimpArgs false
set_option maxRecDepth 20000
namespace Go.Sim
open Go Go.RowKit

noncomputable def Zep (n:Nd) (i:Ins):Bool:=decide (i.1.1=n.1) && Zmx i.1.2 n.2
noncomputable def Zvq (w:Wd) (n:Nd):List Int:=ixs (Zep n) w.is
noncomputable def Zyl (w:Wd) (n:Nd):List Int:=if Zgb w && Zjb w n then Zvq w n else []
theorem Zic {h:Zaa} {a0 a1:Pt} {n0 c0 n1 c1:Nat} {e0 e1:Bool} {w:Wd} {ct tt:List Nat} (r:Zpz h a0 n0 c0 a1 n1 c1 w) (b:WB w) :
  Zah pg Zcg [.agg [.slice a0 n0 c0 e0,.slice a1 n1 c1 e1],.agg [.str ct,.str tt]] h fun v h'=>v=.bool (Zgb w && Zjb w (ct,tt))∧Zbe h.length h h':=by
 apply Zpo.call
 simp only [Zax]
 generalize hh0:h ++ [Zcc.cells Zad [.slice a0 n0 c0 e0,.slice a1 n1 c1 e1] false]=h0
 generalize hh1:h0 ++ [Zcc.cells Zae [.str ct,.str tt] false]=h1
 have s0:Zbe h.length h h0:=by rw [← hh0]; exact Zao
 have s1:Zbe h0.length h0 h1:=by rw [← hh1]; exact Zao
 have w0:h0[h.length]?=some (Zsa a0 n0 c0 e0 a1 n1 c1 e1):=by rw [← hh0]; simp [Zsa]
 have w1:=s1.get w0 (Own.lt w0)
 have i1:h1[h0.length]?=some (.cells Zae [.str ct,.str tt] false):=by rw [← hh1]; simp
 rw [Yeb w1]
 simp only [Zau,Zaj,Zar,Zaf]
 refine (Yap (r.same (s0.cat s1)) b).mono ?_
 rintro v h2 ⟨rfl,s2⟩
 simp only [Zap]
 have i2:=s2.get i1 (Own.lt i1)
 have w2:=s2.get w1 (Own.lt w1)
 refine Zdb (fun b1=>?_) (fun b1=>⟨by rw [b1]; rfl,(s0.cat s1).cat s2⟩)
 rw [Yeb w2,Zed i2 (by simp)]
 simp only [List.drop_zero,List.take_succ_cons,List.take_zero,Zau,Zaj,Zar,Zaf,Zam]
 refine (Yky (r.same ((s0.cat s1).cat s2)) b).mono ?_
 rintro v h3 ⟨rfl,s3⟩
 simp only [Zap]
 exact ⟨by rw [b1]; rfl,((s0.cat s1).cat s2).cat s3⟩
theorem Yig {h:Zaa} {a:Pt} {n c j:Nat} {e:Bool} {ct tt nc nt:List Nat} (hj:h[j]?=some (.cells Zae [.str nc,.str nt] false)) :
  Zah pg Zct [.agg [.str ct,.str tt,.slice a n c e],.ptr (some (j,0))] h fun v h'=>v=.bool (Zmx tt nt)∧Zbe h.length h h':=by
 apply Zka.call
 have s1:Zbe h.length h (h ++ [.cells Zac [.str ct,.str tt,.slice a n c e] false]):=Zao
 simp only [Zax,Zeu,Nat.zero_add,List.getElem?_cons_succ,List.getElem?_cons_zero,Zam,fa1,Zak (s1.get hj (Own.lt hj))]
 refine (Ztn tt nt _).mono ?_
 rintro v h2 ⟨rfl,s2⟩
 simp only [Zap]
 exact ⟨by trivial,s1.cat s2⟩
theorem Zws {h:Zaa} {t:TypeId} {x y z a b c:Zas}:Zbb (h ++ [.cells t [x,y,z] false]) (.ptr (some (h.length,0))) [a,b,c]=some (h ++ [.cells t [a,b,c] false]):=Zup rfl
theorem Yjh {h:Zaa} {a0 a1:Pt} {n0 c0 n1 c1 j:Nat} {e0 e1:Bool} {w:Wd} {nd:Nd} (r:Zpz h a0 n0 c0 a1 n1 c1 w) (b:WB w) (hj:h[j]?=some (.cells Zae [.str nd.1,.str nd.2] false)) :
  Zah pg Zjf [.agg [.slice a0 n0 c0 e0,.slice a1 n1 c1 e1],.str nd.1,.fn Zct [.ptr (some (j,0))]] h fun v h'=>Zbe h.length h h'∧∃ a n c e,v=.slice a n c e∧Zdl Zgj eI h.length h' a n (Zvq w nd):=by
 have hl1:=r.len1
 have hli:=b.li
 apply Zcd.call
 simp only [Zax]
 generalize hh0:h ++ [Zcc.cells Zad [.slice a0 n0 c0 e0,.slice a1 n1 c1 e1] false]=h0
 generalize hh1:h0 ++ [Zcc.cells Zgj [] false]=h1
 have s0:Zbe h.length h h0:=by rw [← hh0]; exact Zao
 have s1:Zbe h0.length h0 h1:=by rw [← hh1]; exact Zao
 have w0:h0[h.length]?=some (Zsa a0 n0 c0 e0 a1 n1 c1 e1):=by rw [← hh0]; simp [Zsa]
 have w1:=s1.get w0 (Own.lt w0)
 have o1:h1[h0.length]?=some (.cells Zgj [] false):=by rw [← hh1]; simp
 have l0:h0.length=h.length + 1:=by rw [← hh0]; simp
 have S1:=s0.cat s1
 simp only [Yau w1,Nat.zero_add,List.getElem?_cons_succ,List.getElem?_cons_zero,Zaf]
 refine Zcd.L3ind _ _ _ _ _ _ _ _ (J:=fun (g:Nat) a4 n4 c4 e4 x14 h'=>x14=(g:Int)∧g≤n1∧Zbe h.length h h'∧n4=(ixs (Zep nd) (w.is.take g)).length∧Vec Zgj h' a4 n4 c4 (Zdq eI (ixs (Zep nd) (w.is.take g)))∧(∀ i,a4=some (i,0)→h.length≤i)) (fun g=>n1 - g) ?_ 0 _ _ _ _ _ _
  ⟨rfl,by omega,S1,rfl,Vec.mk1 (by simpa [ixs] using o1),fun i hi=>by cases hi; omega⟩
 rintro g a4 n4 c4 e4 x14 h' ⟨rfl,hg,hS,rfl,hv,ha⟩ R hR
 unfold Zcd.L3t
 refine Zav (fun hlt=>?_) (fun hge=>?_)
 ·have hgl:g < w.is.length:=by omega
  obtain ⟨i,o,a2,n2,c2,e2,rfl,_,hr,_,_,hrow,hn⟩:=Ztv (r.same hS) hgl
  simp only [Zaw,Int.toNat_natCast,hr,Zau,Zaj,Zar,Zam,Zaf,Zax]
  rw [Zws]
  simp only [Zat,Zeu,Nat.zero_add,List.getElem?_cons_succ,List.getElem?_cons_zero,Zam]
  have hil:=Zqv (Zep nd) (w.is.take g)
  rw [List.length_take] at hil
  have htk:=Zna (Zep nd) hgl
  generalize hq:h' ++ [Zcc.cells Zac [.str w.is[g].1.1,.str w.is[g].1.2,.slice a2 n2 c2 e2] false]=hq'
  have sq:Zbe h'.length h' hq':=by rw [← hq]; exact Zao
  have skip:∀ hz,Zbe hq'.length hq' hz→Zep nd w.is[g]=false→Zcd.J7 (fun v h'=>Zbe h.length h h'∧∃ a n c e,v=.slice a n c e∧Zdl Zgj eI h.length h' a n (Zvq w nd)) R (g:Int) (((n1:Nat):Int)) (some (i,o)) n1 c1 e1 nd.1 (.ptr (some (j,0))) a4 (ixs (Zep nd) (w.is.take g)).length c4 e4 hz:=by
   intro hz sz hno
   apply Zcd.J7i
   rw [hno] at htk
   simp only [Bool.false_eq_true,if_false,List.append_nil] at htk
   rw [Zbt (by omega)]
   exact hR (g + 1) _ _ _ _ _ _ (by omega) ⟨rfl,by omega,(hS.cat sq).cat sz,by rw [htk],by rw [htk]; exact (hv.same sq).same sz,ha⟩
  refine ⟨by omega,Zav (fun hc=>?_) (fun hc=>skip _ (Zbe.refl _ _) (by unfold Zep; simp [hc]))⟩
  rw [← hq,Yqd,hq]
  simp only [Zau,Zaj,Zar,Zam,Zaf]
  refine (Yig (sq.get (hS.get hj (Own.lt hj)) (by have:=Own.lt hj; have:=hS.le; omega))).mono ?_
  rintro v h3 ⟨rfl,s3⟩
  simp only [Zap]
  refine Zdb (fun hi=>?_) (fun hi=>skip _ s3 (by unfold Zep; simp [hi]))
  have hyes:Zep nd w.is[g]=true:=by unfold Zep; simp [hc,hi]
  rw [hyes,if_pos rfl] at htk
  have S3:=(hS.cat sq).cat s3
  refine ((hv.same sq).same s3).push Ybf Yqa Yqi Yqk (by rw [Zay Zlg]; omega) rfl (by omega) (fun h6 hl6 hi6 hk6=>?_)
  simp only [Zaf]
  apply Zcd.J7i
  rw [Zbt (by omega)]
  have hle:=S3.le
  refine hR (g + 1) _ _ _ _ _ _ (by omega) ⟨rfl,by omega,⟨by omega,fun j hj=>?_⟩,by rw [htk]; simp,Vec.mk1 ?_,fun i hi=>by cases hi; omega⟩
  ·rw [hk6 j (by omega) fun i hi=>by have:=ha i hi; omega]; exact S3.eq j hj
  ·rw [hi6,htk,Zkq]; rfl
 ·apply Zcd.A3x0i
  have:g=n1:=by omega
  subst this
  rw [List.take_of_length_le (by omega)] at hv ⊢
  exact ⟨hS,_,_,_,_,rfl,hv.fresh (b:=h.length) rfl fun i hi=>ha i hi⟩
def Ysm (w:Wd) (n:Nd) (h:Zaa) (v:Zas) (h':Zaa):Prop:=Zbe h.length h h'∧∃ a m c e,v=.slice a m c e∧Zdl Zgj eI h.length h' a m (Zvq w n)
theorem Zdl.low {α:Type} {ty:TypeId} {enc:α→List Zas} {b b':Nat} {h:Zaa} {a:Pt} {n:Nat} {l:List α} (f:Zdl ty enc b h a n l) (hb:b'≤b):Zdl ty enc b' h a n l:=
 ⟨f.1,f.2.imp id fun ⟨i,ha,hbi,hi⟩=>⟨i,ha,by omega,hi⟩⟩
theorem Yah {h:Zaa} {a0 a1:Pt} {n0 c0 n1 c1:Nat} {e0 e1:Bool} {w:Wd} {nd:Nd} (r:Zpz h a0 n0 c0 a1 n1 c1 w) (b:WB w) :
  Zah pg Zko [.agg [.slice a0 n0 c0 e0,.slice a1 n1 c1 e1],.agg [.str nd.1,.str nd.2]] h (Ysm w nd h):=by
 apply Zof.call
 simp only [Zax]
 generalize hh0:h ++ [Zcc.cells Zad [.slice a0 n0 c0 e0,.slice a1 n1 c1 e1] false]=h0
 generalize hh1:h0 ++ [Zcc.cells Zae [.str nd.1,.str nd.2] false]=h1
 have s0:Zbe h.length h h0:=by rw [← hh0]; exact Zao
 have s1:Zbe h0.length h0 h1:=by rw [← hh1]; exact Zao
 have w0:h0[h.length]?=some (Zsa a0 n0 c0 e0 a1 n1 c1 e1):=by rw [← hh0]; simp [Zsa]
 have w1:=s1.get w0 (Own.lt w0)
 have i1:h1[h0.length]?=some (.cells Zae [.str nd.1,.str nd.2] false):=by rw [← hh1]; simp
 have S1:=s0.cat s1
 rw [Yeb w1]
 simp only [Zau,Zaj,Zar,Zaf,Zak i1,Nat.zero_add,List.getElem?_cons_zero,Zam]
 refine (Yjh (r.same S1) b i1).mono ?_
 rintro v h2 ⟨s2,a,n,c,e,rfl,f⟩
 simp only [Zaf]
 exact ⟨S1.cat s2,a,n,c,e,rfl,f.low S1.le⟩
def Yur (w:Wd) (n:Nd) (h:Zaa) (v:Zas) (h':Zaa):Prop:=Zbe h.length h h'∧∃ a m c e,v=.tup [.slice a m c e,.bool (Zgb w && Zjb w n)]∧Zdl Zgj eI h.length h' a m (Zyl w n)
theorem Zwr {h:Zaa} {a0 a1:Pt} {n0 c0 n1 c1:Nat} {e0 e1:Bool} {w:Wd} {nd:Nd} (r:Zpz h a0 n0 c0 a1 n1 c1 w) (b:WB w) :
  Zah pg Ziy [.agg [.slice a0 n0 c0 e0,.slice a1 n1 c1 e1],.agg [.str nd.1,.str nd.2]] h (Yur w nd h):=by
 apply Zmt.call
 simp only [Zax]
 generalize hh0:h ++ [Zcc.cells Zad [.slice a0 n0 c0 e0,.slice a1 n1 c1 e1] false]=h0
 generalize hh1:h0 ++ [Zcc.cells Zae [.str nd.1,.str nd.2] false]=h1
 have s0:Zbe h.length h h0:=by rw [← hh0]; exact Zao
 have s1:Zbe h0.length h0 h1:=by rw [← hh1]; exact Zao
 have w0:h0[h.length]?=some (Zsa a0 n0 c0 e0 a1 n1 c1 e1):=by rw [← hh0]; simp [Zsa]
 have w1:=s1.get w0 (Own.lt w0)
 have i1:h1[h0.length]?=some (.cells Zae [.str nd.1,.str nd.2] false):=by rw [← hh1]; simp
 have S1:=s0.cat s1
 rw [Yeb w1,Zed i1 (by simp)]
 simp only [List.drop_zero,List.take_succ_cons,List.take_zero,Zau,Zaj,Zar,Zaf,Zam]
 refine (Zic (r.same S1) b).mono ?_
 rintro v h2 ⟨rfl,s2⟩
 have i2:=s2.get i1 (Own.lt i1)
 have w2:=s2.get w1 (Own.lt w1)
 have S2:=S1.cat s2
 simp only [Zap]
 refine Zcq (fun b1=>⟨S2,none,0,0,true,by rw [b1],by unfold Zyl; rw [b1]; exact ⟨rfl,.inl rfl⟩⟩) (fun b1=>?_)
 rw [Yeb w2,Zed i2 (by simp)]
 simp only [List.drop_zero,List.take_succ_cons,List.take_zero,Zau,Zaj,Zar,Zaf,Zam]
 refine (Yah (r.same S2) b).mono ?_
 rintro v h3 ⟨s3,a,n,c,e,rfl,f⟩
 simp only [Zaf]
 exact ⟨S2.cat s3,a,n,c,e,by rw [b1],by unfold Zyl; rw [if_pos b1]; exact f.low S2.le⟩
theorem Zyy {h:Zaa} {a0 a1:Pt} {n0 c0 n1 c1:Nat} {e0 e1:Bool} {w:Wd} {nd:Nd} (r:Zpz h a0 n0 c0 a1 n1 c1 w) (b:WB w) (hnt:nd.2.length≤1048576) :
  Zah pg Zix [.agg [.slice a0 n0 c0 e0,.slice a1 n1 c1 e1],.agg [.str nd.1,.str nd.2]] h (Ysm w nd h):=by
 have hl1:=r.len1
 have hli:=b.li
 apply Zdz.call
 simp only [Zax]
 generalize hh0:h ++ [Zcc.cells Zad [.slice a0 n0 c0 e0,.slice a1 n1 c1 e1] false]=h0
 generalize hh1:h0 ++ [Zcc.cells Zae [.str nd.1,.str nd.2] false]=h1
 generalize hh2:h1 ++ [Zcc.cells Zgj [] false]=h2
 have s0:Zbe h.length h h0:=by rw [← hh0]; exact Zao
 have s1:Zbe h0.length h0 h1:=by rw [← hh1]; exact Zao
 have s2:Zbe h1.length h1 h2:=by rw [← hh2]; exact Zao
 have w0:h0[h.length]?=some (Zsa a0 n0 c0 e0 a1 n1 c1 e1):=by rw [← hh0]; simp [Zsa]
 have w2:=s2.get (s1.get w0 (Own.lt w0)) (by have:=Own.lt w0; have:=s1.le; omega)
 have i1:h1[h0.length]?=some (.cells Zae [.str nd.1,.str nd.2] false):=by rw [← hh1]; simp
 have i2:=s2.get i1 (Own.lt i1)
 have o2:h2[h1.length]?=some (.cells Zgj [] false):=by rw [← hh2]; simp
 have S2:=(s0.cat s1).cat s2
 have hle1:=(s0.cat s1).le
 have l1':h1.length=h0.length + 1:=by rw [← hh1]; simp
 simp only [Yau w2,Nat.zero_add,List.getElem?_cons_succ,List.getElem?_cons_zero,Zaf]
 refine Zdz.L3ind _ _ _ _ _ _ _ _ (J:=fun (g:Nat) a4 n4 c4 e4 x12 h'=>x12=(g:Int)∧g≤n1∧Zbe h.length h h'∧h'[h0.length]?=some (.cells Zae [.str nd.1,.str nd.2] false)∧n4=(ixs (Zep nd) (w.is.take g)).length∧Vec Zgj h' a4 n4 c4 (Zdq eI (ixs (Zep nd) (w.is.take g)))∧(∀ i,a4=some (i,0)→h1.length≤i)) (fun g=>n1 - g) ?_ 0 _ _ _ _ _ _
  ⟨rfl,by omega,S2,i2,rfl,Vec.mk1 (by simpa [ixs] using o2),fun i hi=>by cases hi; omega⟩
 rintro g a4 n4 c4 e4 x12 h' ⟨rfl,hg,hS,hi0,rfl,hv,ha⟩ R hR
 have hlt1:=Own.lt i1
 unfold Zdz.L3t
 refine Zav (fun hlt=>?_) (fun hge=>?_)
 ·have hgl:g < w.is.length:=by omega
  obtain ⟨i,o,a2,n2,c2,e2,rfl,_,hr,_,_,hrow,hn⟩:=Ztv (r.same hS) hgl
  simp only [Zaw,Int.toNat_natCast,hr,Zau,Zaj,Zar,Zam,Zaf,Zax]
  rw [Zws]
  have hil:=Zqv (Zep nd) (w.is.take g)
  rw [List.length_take] at hil
  have htk:=Zna (Zep nd) hgl
  have hb:=b.is _ (List.getElem_mem hgl)
  generalize hq:h' ++ [Zcc.cells Zac [.str w.is[g].1.1,.str w.is[g].1.2,.slice a2 n2 c2 e2] false]=hq'
  have sq:Zbe h'.length h' hq':=by rw [← hq]; exact Zao
  have oq:hq'[h'.length]?=some (.cells Zac [.str w.is[g].1.1,.str w.is[g].1.2,.slice a2 n2 c2 e2] false):=by rw [← hq]; simp
  have iq:=sq.get hi0 (Own.lt hi0)
  simp only [Zat,Zak oq,Zak iq,Nat.zero_add,List.getElem?_cons_succ,List.getElem?_cons_zero,Zam]
  have skip:∀ hz,Zbe hq'.length hq' hz→Zep nd w.is[g]=false→Zdz.J7 (Ysm w nd h) R (g:Int) (((n1:Nat):Int)) (some (i,o)) n1 c1 e1 h0.length 0 a4 (ixs (Zep nd) (w.is.take g)).length c4 e4 hz:=by
   intro hz sz hno
   apply Zdz.J7i
   rw [hno] at htk
   simp only [Bool.false_eq_true,if_false,List.append_nil] at htk
   rw [Zbt (by omega)]
   exact hR (g + 1) _ _ _ _ _ _ (by omega) ⟨rfl,by omega,(hS.cat sq).cat sz,sz.get iq (Own.lt iq),by rw [htk],by rw [htk]; exact (hv.same sq).same sz,ha⟩
  refine ⟨by omega,Zav (fun hc=>?_) (fun hc=>skip _ (Zbe.refl _ _) (by unfold Zep; simp [hc]))⟩
  refine (Zzb _ _ hb.2.1 hnt _).mono ?_
  rintro v h3 ⟨rfl,s3⟩
  simp only [Zap]
  refine Zdb (fun hi=>?_) (fun hi=>skip _ s3 (by unfold Zep; simp [hi]))
  have hyes:Zep nd w.is[g]=true:=by unfold Zep; simp [hc,hi]
  rw [hyes,if_pos rfl] at htk
  have S3:=(hS.cat sq).cat s3
  have i3:=s3.get iq (Own.lt iq)
  refine ((hv.same sq).same s3).push Ybf Yqa Yqi Yqk (by rw [Zay Zlg]; omega) rfl (by omega) (fun h6 hl6 hi6 hk6=>?_)
  simp only [Zaf]
  apply Zdz.J7i
  rw [Zbt (by omega)]
  have hle:=S3.le
  have hle3:=Own.lt i3
  refine hR (g + 1) _ _ _ _ _ _ (by omega) ⟨rfl,by omega,⟨by omega,fun j hj=>?_⟩,?_,by rw [htk]; simp,Vec.mk1 ?_,fun i hi=>by cases hi; have:=s3.le; have:=sq.le; have:=Own.lt hi0; omega⟩
  ·rw [hk6 j (by omega) fun i hi=>by have:=ha i hi; omega]; exact S3.eq j hj
  ·rw [hk6 _ hle3 fun i hi=>by have:=ha i hi; omega]; exact i3
  ·rw [hi6,htk,Zkq]; rfl
 ·apply Zdz.A3x0i
  have:g=n1:=by omega
  subst this
  rw [List.take_of_length_le (by omega)] at hv ⊢
  exact ⟨hS,_,_,_,_,rfl,hv.fresh (b:=h.length) rfl fun i hi=>by have:=ha i hi; omega⟩
theorem Zvp {h:Zaa} {a0 a1:Pt} {n0 c0 n1 c1:Nat} {e0 e1:Bool} {w:Wd} {nd:Nd} (r:Zpz h a0 n0 c0 a1 n1 c1 w) (b:WB w) (hnt:nd.2.length≤1048576) :
  Zah pg Ziz [.agg [.slice a0 n0 c0 e0,.slice a1 n1 c1 e1],.agg [.str nd.1,.str nd.2]] h (Yur w nd h):=by
 apply Zmp.call
 simp only [Zax]
 generalize hh0:h ++ [Zcc.cells Zad [.slice a0 n0 c0 e0,.slice a1 n1 c1 e1] false]=h0
 generalize hh1:h0 ++ [Zcc.cells Zae [.str nd.1,.str nd.2] false]=h1
 have s0:Zbe h.length h h0:=by rw [← hh0]; exact Zao
 have s1:Zbe h0.length h0 h1:=by rw [← hh1]; exact Zao
 have w0:h0[h.length]?=some (Zsa a0 n0 c0 e0 a1 n1 c1 e1):=by rw [← hh0]; simp [Zsa]
 have w1:=s1.get w0 (Own.lt w0)
 have i1:h1[h0.length]?=some (.cells Zae [.str nd.1,.str nd.2] false):=by rw [← hh1]; simp
 have S1:=s0.cat s1
 rw [Yeb w1,Zed i1 (by simp)]
 simp only [List.drop_zero,List.take_succ_cons,List.take_zero,Zau,Zaj,Zar,Zaf,Zam]
 refine (Znk (r.same S1) b hnt).mono ?_
 rintro v h2 ⟨rfl,s2⟩
 have i2:=s2.get i1 (Own.lt i1)
 have w2:=s2.get w1 (Own.lt w1)
 have S2:=S1.cat s2
 simp only [Zap]
 refine Zcq (fun b1=>⟨S2.cat Zao,_,0,0,true,by rw [b1],by unfold Zyl; rw [b1]; exact ⟨rfl,.inl rfl⟩⟩) (fun b1=>?_)
 rw [Yeb w2,Zed i2 (by simp)]
 simp only [List.drop_zero,List.take_succ_cons,List.take_zero,Zau,Zaj,Zar,Zaf,Zam]
 refine (Zyy (r.same S2) b hnt).mono ?_
 rintro v h3 ⟨s3,a,n,c,e,rfl,f⟩
 simp only [Zaf]
 exact ⟨S2.cat s3,a,n,c,e,by rw [b1],by unfold Zyl; rw [if_pos b1]; exact f.low S2.le⟩
theorem Ykg {w:Wd} (b:WB w) (n:Nd):(Zyl w n).length≤1048576:=by
 unfold Zyl Zvq
 have:=Zqv (Zep n) w.is; have:=b.li
 split
 ·omega
 ·simp
end Go.Sim

set_option linter.unusedVariables false
set_option linter.unusedSimpArgs false
set_option maxRecDepth 20000
namespace Go.Sim
open Go Go.RowKit

theorem Row.i64 {b:Nat} {h:Zaa} {a:Pt} {n:Nat} {l:List Int} (r:Row b h a n (Zdq eI l)) {k:Nat} (hk:k < n):∃ i o,∃ hk':k < l.length,a=some (i,o)∧i < b∧Zai h (.ptr (some (i,o + k * 1)))=some (.int .i64 l[k]):=by
 obtain ⟨i,o,hk',ha,hi,hc⟩:=Row.el1 Zlg r hk
 exact ⟨i,o,hk',ha,hi,hc⟩
end Go.Sim

set_option linter.unusedVariables false
set_option linter.unusedSimpArgs false
set_option maxRecDepth 20000
namespace Go.Sim
open Go Go.RowKit

theorem Zui.mono {S S':Nat→Prop} {h:Zaa} {i:Nat} {m:Bd} (r:Zui S h i m) (hs:∀ j,S j→S' j):Zui S' h i m:=by
 obtain ⟨rows,h1,h2,h3⟩:=r
 refine ⟨rows,h1,h2,fun k x hx=>?_⟩
 have:=h3 k x hx
 split at this
 ·exact this.mono hs
 ·exact this
theorem Zui.below {S:Nat→Prop} {h:Zaa} {i:Nat} {m:Bd} (r:Zui S h i m):Zui (fun j=>S j∧j < h.length) h i m:=by
 obtain ⟨rows,h1,h2,h3⟩:=r
 refine ⟨rows,h1,h2,fun k x hx=>?_⟩
 have:=h3 k x hx
 split at this
 ·exact Zew.below this
 ·exact this
end Go.Sim

set_option linter.unusedSimpArgs false
set_option linter.unusedVariables false
namespace Go.Sim
structure Ybd (G:Gr) (N:List Nat) (lk:Nat→Option Nat) (a b:Nat) (lk':Nat→Option Nat):Prop where
 ext:Ybz lk lk'
 gok:GOk G N lk'
 jnd:Jnd lk' a b
 new:∀ n m,n∈N→lk' n=some m→lk n=some m ∨ Ysx G lk' n m
 pres:∀ val,Str G N val→val a=val b→Rsp N lk val→Rsp N lk' val
def UNo (G:Gr) (N:List Nat) (lk:Nat→Option Nat) (a b:Nat):Prop:=∀ val,Str G N val→Rsp N lk val→val a≠val b
structure Ylk (G:Gr) (N:List Nat) (lk:Nat→Option Nat) (a b:Nat) (lk':Nat→Option Nat) (i:Nat):Prop where
 ext:Ybz (lnk lk a b) lk'
 gok:GOk G N lk'
 jn:∀ j p q,j < i→(G.ps a)[j]?=some p→(G.ps b)[j]?=some q→Jnd lk' p q
 new:∀ n m,n∈N→lk' n=some m→lnk lk a b n=some m ∨ Ysx G lk' n m
 pres:∀ val,Str G N val→val a=val b→Rsp N lk val→Rsp N lk' val
section
variable {G:Gr} {N:List Nat} {lk lk' lk'':Nat→Option Nat} {a b p q i:Nat}
theorem Ylk.start (g:GOk G N lk) (hb:b∈N) (ha0:lk a=none) (hb0:lk b=none) (hne:a≠b):Ylk G N lk a b (lnk lk a b) 0:=
 ⟨Ybz.refl _,g.link hb ha0 hb0 hne,fun j p q h=>by omega,fun n m _ h=>.inl h,fun val _ he hr=>hr.link he⟩
theorem Ylk.step (u:Ylk G N lk a b lk' i) (hp:(G.ps a)[i]?=some p) (hq:(G.ps b)[i]?=some q) (ha:Zbd (G.hd a)=false) (haN:a∈N) (hbN:b∈N) (hh:G.hd a=G.hd b) (y:Ybd G N lk' p q lk''):Ylk G N lk a b lk'' (i + 1):=by
 refine ⟨u.ext.trans y.ext,y.gok,fun j p' q' hj hp' hq'=>?_,fun n m hn h=>?_,fun val hs he hr=>?_⟩
 ·by_cases e:j=i
  ·subst e; rw [hp] at hp'; rw [hq] at hq'; cases hp'; cases hq'; exact y.jnd
  ·exact (u.jn j p' q' (by omega) hp' hq').ext y.ext
 ·rcases y.new n m hn h with h | h
  ·rcases u.new n m hn h with h | h
   ·exact .inl h
   ·exact .inr (h.ext y.ext)
  ·exact .inr h
 ·refine y.pres val hs ?_ (u.pres val hs he hr)
  have h1:=(hs a haN ha).2
  have h2:=(hs b hbN (by rw [← hh]; exact ha)).2
  rw [he,h2] at h1
  have:=congrArg (·[i]?) h1
  simp only [List.getElem?_map,hp,hq,Option.map_some,Option.some.injEq] at this
  exact this.symm
theorem Ylk.done (u:Ylk G N lk a b lk' (G.ps a).length) (ha0:lk a=none) (hf:Zbd (G.hd a)=false→G.hd b=G.hd a) (hv:Zbd (G.hd a)=true→Zbd (G.hd b)=true→G.hd a≤G.hd b):Ybd G N lk a b lk':=by
 have hab:lk' a=some b:=u.ext a b (by simp [lnk])
 refine ⟨(Ybb ha0).trans u.ext,u.gok,.of_path (.step hab .refl),fun n m hn h=>?_,u.pres⟩
 rcases u.new n m hn h with h | h
 ·unfold lnk at h
  by_cases e:n=a
  ·rw [if_pos e] at h; cases h; subst e
   exact .inr ⟨fun hn'=>⟨hf hn',fun j p q h1 h2=>u.jn j p q (List.getElem?_eq_some_iff.1 h1).1 h1 h2⟩,hv⟩
  ·rw [if_neg e] at h; exact .inl h
 ·exact .inr h
theorem Ylk.fail (u:Ylk G N lk a b lk' i) (hp:(G.ps a)[i]?=some p) (hq:(G.ps b)[i]?=some q) (ha:Zbd (G.hd a)=false) (haN:a∈N) (hbN:b∈N) (hh:G.hd a=G.hd b) (y:UNo G N lk' p q):UNo G N lk a b:=by
 intro val hs hr he
 refine y val hs (u.pres val hs he hr) ?_
 have h1:=(hs a haN ha).2
 have h2:=(hs b hbN (by rw [← hh]; exact ha)).2
 rw [he,h2] at h1
 have:=congrArg (·[i]?) h1
 simp only [List.getElem?_map,hp,hq,Option.map_some,Option.some.injEq] at this
 exact this.symm
theorem UNo.clash (haN:a∈N) (hbN:b∈N) (ha:Zbd (G.hd a)=false) (hb:Zbd (G.hd b)=false) (hh:G.hd a≠G.hd b):UNo G N lk a b:=by
 intro val hs _ he
 have h1:=(hs a haN ha).1
 have h2:=(hs b hbN hb).1
 rw [he] at h1
 exact hh (h1.symm.trans h2)
theorem UNo.symm (h:UNo G N lk a b):UNo G N lk b a:=fun val hs hr he=>h val hs hr he.symm
theorem Ybd.symm (h:Ybd G N lk a b lk'):Ybd G N lk b a lk':=⟨h.ext,h.gok,h.jnd.symm,h.new,fun val hs he hr=>h.pres val hs he.symm hr⟩
theorem Ybd.same (g:GOk G N lk):Ybd G N lk a a lk:=⟨Ybz.refl _,g,.refl a,fun n m _ h=>.inl h,fun val _ _ hr=>hr⟩
theorem Ybd.path (g:GOk G N lk) {a0 b0 i j:Nat} (ha:a0∈N) (hb:b0∈N) (h1:Pth lk i a0 a) (h2:Pth lk j b0 b) (h:Ybd G N lk a b lk'):Ybd G N lk a0 b0 lk':=
 ⟨h.ext,h.gok,((Jnd.of_path (h1.ext h.ext)).trans h.jnd).trans (Jnd.of_path (h2.ext h.ext)).symm,h.new,fun val hs he hr=>h.pres val hs (by rw [← hr.path g ha h1,← hr.path g hb h2,he]) hr⟩
theorem UNo.path (g:GOk G N lk) {a0 b0 i j:Nat} (ha:a0∈N) (hb:b0∈N) (h1:Pth lk i a0 a) (h2:Pth lk j b0 b) (h:UNo G N lk a b):UNo G N lk a0 b0:=
 fun val hs hr he=>h val hs hr (by rw [← hr.path g ha h1,← hr.path g hb h2,he])
theorem Ybd.cls (y:Ybd G N (fun _=>none) a b lk'):Cls G N lk':=fun n m hn h=>(y.new n m hn h).resolve_left (by simp)
theorem Rsp.none {val:Nat→Ty}:Rsp N (fun _=>Option.none) val:=fun n m _ h=>by cases h
theorem GOk.ends (g:GOk G N lk) {n:Nat} (hn:n∈N):∃ k e,Pth lk k n e∧lk e=none∧e∈N:=by
 obtain ⟨k,e,h1,h2⟩:=g.end_ n hn
 exact ⟨k,e,h1,h2,g.path hn h1⟩
end
end Go.Sim

set_option linter.unusedSimpArgs false
set_option linter.unusedVariables false
namespace Go.Sim
def GAg (N:List Nat) (G G':Gr):Prop:=∀ n∈N,G'.hd n=G.hd n∧G'.ps n=G.ps n
theorem GAg.refl (N:List Nat) (G:Gr):GAg N G G:=fun _ _=>⟨rfl,rfl⟩
theorem GAg.trans {N N':List Nat} {G G' G'':Gr} (h:GAg N G G') (k:GAg N' G' G'') (hN:∀ n∈N,n∈N'):GAg N G G'':=fun n hn=>⟨((k n (hN n hn)).1).trans (h n hn).1,((k n (hN n hn)).2).trans (h n hn).2⟩
def GCl (G:Gr) (N:List Nat):Prop:=∀ n∈N,∀ p∈G.ps n,p∈N
section
variable {G G':Gr} {N:List Nat} {nu nu':Nat→Nat}
theorem Raw.agree {n:Nat} {t:Ty} (r:Raw G nu n t) (ag:GAg N G G') (cl:GCl G N) (hnu:∀ x∈N,nu' x=nu x):n∈N→Raw G' nu' n t:=by
 induction r with
 | @var n h=>intro hn; rw [← hnu n hn]; exact .var (by rw [(ag n hn).1]; exact h)
 | @cst n h h1=>intro hn; rw [← (ag n hn).1]; exact .cst (by rw [(ag n hn).1]; exact h) (by rw [(ag n hn).2]; exact h1)
 | @one n p s h h1 _ ih=>
  intro hn
  rw [← (ag n hn).1]
  exact .one (by rw [(ag n hn).1]; exact h) (by rw [(ag n hn).2]; exact h1) (ih (cl n hn p (by rw [h1]; simp)))
 | @two n p q s t h h1 _ _ ih1 ih2=>
  intro hn
  rw [← (ag n hn).1]
  exact .two (by rw [(ag n hn).1]; exact h) (by rw [(ag n hn).2]; exact h1) (ih1 (cl n hn p (by rw [h1]; simp))) (ih2 (cl n hn q (by rw [h1]; simp)))
theorem Sub.agree {n x:Nat} (s:Sub G n x) (ag:GAg N G G') (cl:GCl G N):n∈N→Sub G' n x:=by
 induction s with
 | refl=>exact fun _=>.refl
 | @part n p x hp _ ih=>intro hn; exact .part (by rw [(ag n hn).2]; exact hp) (ih (cl n hn p hp))
theorem Sub.trans {x y z:Nat} (h:Sub G x y) (k:Sub G y z):Sub G x z:=by
 induction h with
 | refl=>exact k
 | part hp _ ih=>exact .part hp (ih k)
theorem Raw.oth {n:Nat} {t:Ty} (r:Raw G G.hd n t) (cl:GCl G N) (hnu:∀ x∈N,Zbd (G.hd x)=true→nu x=Yib (G.hd x)):n∈N→Raw G nu n (Zsh t):=by
 induction r with
 | @var n h=>intro hn; rw [Zsh,if_pos h,← hnu n hn h]; exact .var h
 | @cst n h h1=>intro hn; rw [Zsh,if_neg (by rw [h]; simp)]; exact .cst h h1
 | @one n p s h h1 _ ih=>intro hn; rw [Zsh]; exact .one h h1 (ih (cl n hn p (by rw [h1]; simp)))
 | @two n p q s t h h1 _ _ ih1 ih2=>intro hn; rw [Zsh]; exact .two h h1 (ih1 (cl n hn p (by rw [h1]; simp))) (ih2 (cl n hn q (by rw [h1]; simp)))
variable {lk:Nat→Option Nat} {V:Nat→Bool}
theorem VT.ok (g:GOk G N lk) {n:Nat} {t:Ty} (v:VT G lk nu n t) (hnu:∀ x∈N,Zbd (G.hd x)=true→Zbd (nu x)=true):n∈N→t.ok=true:=by
 induction v with
 | @var n e k h1 h2 h3=>
  intro hn
  have:=hnu e (g.path hn h1) h3
  simp only [Ty.ok,Zfs,this,Bool.or_true]
 | @cst n e k h1 h2 h3 h4=>
  intro hn
  have:=g.ar e (g.path hn h1)
  rw [h4] at this
  simp only [Ty.ok]
  unfold arN at this
  cases hl:Zfs (G.hd e) with
  | true=>rfl
  | false=>
   rw [hl] at this
   simp only [Bool.false_eq_true,if_false,List.length_nil] at this
   split at this
   ·simp at this
   ·split at this <;> simp at this
 | @one n e k p s h1 h2 h3 h4 _ ih=>
  intro hn
  have he:=g.path hn h1
  have:=g.ar e he
  rw [h4] at this
  simp only [Ty.ok,ih (g.par e he p (by rw [h4]; simp)),Bool.and_true]
  unfold arN at this
  split at this
  ·simp at this
  ·split at this
   ·assumption
   ·split at this <;> simp at this
 | @two n e k p q s t h1 h2 h3 h4 _ _ ih1 ih2=>
  intro hn
  have he:=g.path hn h1
  have:=g.ar e he
  rw [h4] at this
  simp only [Ty.ok,ih1 (g.par e he p (by rw [h4]; simp)),ih2 (g.par e he q (by rw [h4]; simp)),Bool.and_true]
  unfold arN at this
  split at this
  ·simp at this
  ·split at this
   ·simp at this
   ·split at this
    ·assumption
    ·simp at this
structure Two (G:Gr) (N:List Nat) (nu:Nat→Nat) (V:Nat→Bool) (a b:Nat) (ta tb:Ty):Prop where
 aN:a∈N
 bN:b∈N
 nv:Yrc G N nu V
 ra:Raw G nu a ta
 rb:Raw G nu b tb
 raw:∀ n∈N,∃ t,Raw G nu n t
 sub:∀ x∈N,Sub G a x ∨ Sub G b x
variable {a b:Nat} {ta tb:Ty}
theorem Two.no (w:Two G N nu V a b ta tb) (h:UNo G N (fun _=>none) a b):¬ ∃ θ:Nat→Ty,sb V θ ta=sb V θ tb:=by
 rintro ⟨θ,he⟩
 exact h _ (Zzp w.nv w.raw θ) Rsp.none (by rw [Zlh w.ra,Zlh w.rb,he])
theorem Two.endless (w:Two G N nu V a b ta tb) (y:Ybd G N (fun _=>none) a b lk) (h:∀ val,Str G N val→¬ Rsp N lk val):¬ ∃ θ:Nat→Ty,sb V θ ta=sb V θ tb:=by
 rintro ⟨θ,he⟩
 have hs:=Zzp w.nv w.raw θ
 exact h _ hs (y.pres _ hs (by rw [Zlh w.ra,Zlh w.rb,he]) Rsp.none)
theorem Two.all (w:Two G N nu V a b ta tb) (y:Ybd G N (fun _=>none) a b lk) {T:Ty} (v:VT G lk nu a T):∀ x∈N,∃ s,VT G lk nu x s:=by
 intro x hx
 rcases w.sub x hx with h | h
 ·exact VT.sub y.gok y.cls h w.aN v
 ·exact VT.sub y.gok y.cls h w.bN (v.jnd y.jnd)
theorem Two.sol (w:Two G N nu V a b ta tb) (y:Ybd G N (fun _=>none) a b lk) {T:Ty} (v:VT G lk nu a T):sb V (grF G N lk nu) ta=T∧sb V (grF G N lk nu) tb=T:=
 Yso y.gok y.cls w.nv w.aN w.bN y.jnd w.ra w.rb v
end
end Go.Sim

set_option linter.unusedVariables false
set_option linter.unusedSimpArgs false
set_option maxRecDepth 20000
namespace Go.Sim
open Go Go.RowKit

structure GH (h:Zaa) (G:Gr) (N:List Nat) (lk:Nat→Option Nat) (Z:Nat→Prop):Prop where
 node:∀ n∈N,∃ a c e,h[n]?=some (.cells Zcl [.str [G.hd n],.slice a (G.ps n).length c e,.ptr ((lk n).map fun m=>(m,0))] false) ∧
  Row h.length h a (G.ps n).length ((G.ps n).map fun p=>Zas.ptr (some (p,0)))∧∀ j o,(G.ps n).length≠0→a=some (j,o)→j ∉ N∧¬ Z j
def Yfv (N:List Nat) (h h':Zaa):Prop:=h.length≤h'.length∧∀ j,j < h.length→j ∉ N→h'[j]?=h[j]?
theorem Yfv.refl (N:List Nat) (h:Zaa):Yfv N h h:=⟨Nat.le_refl _,fun _ _ _=>rfl⟩
theorem Yfv.trans {N:List Nat} {h h1 h2:Zaa} (a:Yfv N h h1) (b:Yfv N h1 h2):Yfv N h h2:=⟨Nat.le_trans a.1 b.1,fun j hj hn=>by rw [b.2 j (by have:=a.1; omega) hn]; exact a.2 j hj hn⟩
theorem Yfv.of_same {N:List Nat} {h h':Zaa} (s:Zbe h.length h h'):Yfv N h h':=⟨s.le,fun j hj _=>s.eq j hj⟩
theorem Row.to {h h':Zaa} {a:Pt} {m:Nat} {cs:List Zas} (r:Row h.length h a m cs) (hl:h.length≤h'.length) (hh:∀ j o,m≠0→a=some (j,o)→j < h.length→h'[j]?=h[j]?):Row h'.length h' a m cs:=by
 obtain ⟨hc,r⟩:=r
 by_cases h0:m=0
 ·exact ⟨hc,.inl h0⟩
 ·refine ⟨hc,r.imp id ?_⟩
  rintro ⟨i,o,t,all,ro,ha,hi,hg,x⟩
  exact ⟨i,o,t,all,ro,ha,by omega,by rw [hh i o h0 ha hi]; exact hg,x⟩
section
variable {h h':Zaa} {G:Gr} {N:List Nat} {lk:Nat→Option Nat} {Z:Nat→Prop}
theorem GH.lt (g:GH h G N lk Z) {n:Nat} (hn:n∈N):n < h.length:=by obtain ⟨_,_,_,hi,_⟩:=g.node n hn; exact Own.lt hi
theorem Row.cellsAt {a:Pt} {m:Nat} {cs:List Zas} (r:Row h.length h a m cs) {j o:Nat} (h0:m≠0) (ha:a=some (j,o)):∃ t all ro,h[j]?=some (.cells t all ro):=by
 rcases r.2 with hm | ⟨i,o',t,all,ro,ha',hi,hg,x⟩
 ·exact absurd hm h0
 ·rw [ha] at ha'; cases ha'; exact ⟨t,all,ro,hg⟩
theorem GH.agree (g:GH h G N lk Z) (hl:h.length≤h'.length) (hh:∀ (j:Nat) (t:TypeId) (cs:List Zas) (ro:Bool),h[j]?=some (Zcc.cells t cs ro)→h'[j]?=h[j]?):GH h' G N lk Z:=by
 refine ⟨fun n hn=>?_⟩
 obtain ⟨a,c,e,hi,hr,hd⟩:=g.node n hn
 refine ⟨a,c,e,by rw [hh _ _ _ _ hi]; exact hi,hr.to hl fun j o h0 ha _=>?_,hd⟩
 obtain ⟨t,all,ro,hj⟩:=hr.cellsAt h0 ha
 exact hh _ _ _ _ hj
theorem GH.same (g:GH h G N lk Z) (s:Zbe h.length h h'):GH h' G N lk Z:=g.agree s.le fun j t cs ro hj=>s.eq j (Own.lt hj)
theorem GH.link (g:GH h G N lk Z) {a b:Nat} {x:Zcc} (ha:a∈N) {p:Pt} {c:Nat} {e:Bool} (hx:x=.cells Zcl [.str [G.hd a],.slice p (G.ps a).length c e,.ptr (some (b,0))] false)
  (hr:Row h.length h p (G.ps a).length ((G.ps a).map fun p=>Zas.ptr (some (p,0)))) (hd:∀ j o,(G.ps a).length≠0→p=some (j,o)→j ∉ N∧¬ Z j):GH (h.set a x) G N (lnk lk a b) Z:=by
 refine ⟨fun n hn=>?_⟩
 have row:∀ {q:Pt} {m:Nat} {cs:List Zas},Row h.length h q m cs→(∀ j o,m≠0→q=some (j,o)→j ∉ N∧¬ Z j)→Row (h.set a x).length (h.set a x) q m cs:=fun r hd=>
  r.to (by simp) fun j o h0 hq _=>Zbl fun e'=>(hd j o h0 hq).1 (e' ▸ ha)
 by_cases e':n=a
 ·subst e'
  refine ⟨p,c,e,?_,row hr hd,hd⟩
  rw [List.getElem?_set_self (g.lt hn),hx]
  simp [lnk]
 ·obtain ⟨q,c',e'',hi,hr',hd'⟩:=g.node n hn
  refine ⟨q,c',e'',?_,row hr' hd',hd'⟩
  rw [Zbl (fun h=>e' h.symm),hi]
  simp [lnk,e']
theorem Row.outN {a:Pt} {m:Nat} {cs:List Zas} (r:Row h.length h a m cs) (hd:∀ j o,m≠0→a=some (j,o)→j ∉ N∧¬ Z j) (o:Yfv N h h'):Row h'.length h' a m cs:=
 r.to o.1 fun j o' h0 ha hl=>o.2 j hl (hd j o' h0 ha).1
theorem Ybj {a:Pt} {l:List Nat} (r:Row h.length h a l.length (l.map fun p=>Zas.ptr (some (p,0)))) {k p:Nat} (hp:l[k]?=some p):∃ j o,a=some (j,o)∧Zai h (.ptr (some (j,o + k * 1)))=some (.ptr (some (p,0))):=by
 have hk:=(List.getElem?_eq_some_iff.1 hp).1
 obtain ⟨j,o,ha,hj,hc⟩:=r.at hk
 rw [List.getElem?_map,hp] at hc
 exact ⟨j,o,ha,by rw [Nat.mul_one]; exact hc⟩
theorem Ymn (g:GH h G N lk Z) (ok:GOk G N lk) {k n e:Nat} (hn:n∈N) (hp:Pth lk k n e) (he:lk e=none):Zah pg Zhj [.ptr (some (n,0))] h fun v h'=>v=.ptr (some (e,0))∧h'=h:=by
 apply Zhm.call
 refine Zhm.L1ind (J:=fun (i:Nat) a0 h'=>h'=h∧∃ m,a0=some (m,0)∧m∈N∧Pth lk i m e) (m:=fun i=>i) (hr:=?_) (g:=k) (hj:=⟨rfl,n,rfl,hn,hp⟩)
 rintro i a0 h' ⟨rfl,m,rfl,hm,hp⟩ R hR
 unfold Zhm.L1t
 obtain ⟨a,c,e',hnode,_⟩:=g.node m hm
 simp only [Zaw,Zak hnode,Nat.zero_add,List.getElem?_cons_succ,List.getElem?_cons_zero,Zdu]
 cases hp with
 | refl=>
  rw [he]
  simp only [Option.map_none,Option.isNone_none,Bool.not_true,Zbj]
  apply Zhm.A1x0i
  exact ⟨rfl,rfl⟩
 | step h1 h2=>
  rw [h1]
  simp only [Option.map_some,Option.isNone_some,Bool.not_false,Zby]
  exact hR _ _ _ (Nat.lt_succ_self _) ⟨rfl,_,rfl,ok.lkN _ _ hm h1,h2⟩
def Ysv (G:Gr) (N:List Nat) (lk:Nat→Option Nat) (Z:Nat→Prop) (a b:Nat) (h:Zaa) (v:Zas) (h':Zaa):Prop:=
 Yfv N h h'∧((v=.bool true∧∃ lk',Ybd G N lk a b lk'∧GH h' G N lk' Z) ∨ (v=.bool false∧UNo G N lk a b))
theorem Zlz (g:GH h G N lk Z) {n:Nat} (hn:n∈N):Zeg h n=true:=by
 obtain ⟨a,c,e,hi,_⟩:=g.node n hn
 simp [Zeg,hi]
theorem Yjc (x y:Nat):(Zfj [x] [y] || decide ([x]=[y]))=decide (x≤y):=by
 rw [Bool.eq_iff_iff]
 simp [Zfj]
 omega
theorem Yql:∀ (U:Nat) {h:Zaa} {lk:Nat→Option Nat} {a b:Nat},ub N lk≤U→GH h G N lk Z→GOk G N lk→a∈N→b∈N→Zah pg Zmz [.ptr (some (a,0)),.ptr (some (b,0))] h (Ysv G N lk Z a b h):=by
 intro U
 induction U using Nat.strongRecOn with
 | ind U ih=>
 intro h lk a b hU g ok ha hb
 obtain ⟨k1,x,hp1,hx0,hx⟩:=ok.ends ha
 obtain ⟨k2,y,hp2,hy0,hy⟩:=ok.ends hb
 -- one end is linked to the other
 have core:∀ (p q:Nat) (Q:QT),p∈N→q∈N→lk p=none→lk q=none→p≠q→(Zbd (G.hd q)=true→Zbd (G.hd p)=true)→(Zbd (G.hd p)=true→Zbd (G.hd q)=true→G.hd p≤G.hd q) →
   (∀ v h',Ysv G N lk Z p q h v h'→Q v h')→Zfz.J7 Q (some (p,0)) (some (q,0)) h:=by
  intro p q Q hp hq hp0 hq0 hne hvar hord hQ
  obtain ⟨pa,pc,pe,hpi,hpr,hpd⟩:=g.node p hp
  obtain ⟨qa,qc,qe,hqi,hqr,hqd⟩:=g.node q hq
  have lenEq:Zbd (G.hd p)=false→G.hd p=G.hd q→(G.ps p).length=(G.ps q).length:=fun _ e=>by
   have h1:=ok.ar p hp; have h2:=ok.ar q hq; rw [e] at h1; omega
  apply Zfz.J7i
  simp only [Zaw,Zak hpi,Nat.zero_add,List.getElem?_cons_succ,List.getElem?_cons_zero,Zam]
  refine (Ztr [G.hd p]).mono ?_
  rintro v h1 ⟨rfl,rfl⟩
  simp only [Zap,Zuk,Zak hpi,Zak hqi,List.getElem?_cons_zero,Zam,true_and]
  have j9:(Zbd (G.hd p)=false→G.hd p=G.hd q)→Zfz.J9 Q (some (p,0)) (some (q,0)) h1:=by
   intro hhd
   apply Zfz.J9i
   simp only [Zaw,Zak hpi,Nat.zero_add,List.getElem?_cons_succ,List.getElem?_cons_zero,Zaf]
   rw [Zba hpi (by simp)]
   simp only [Zat,putRow,List.take_succ_cons,List.take_zero,List.length_cons,List.length_nil,List.drop_succ_cons,List.drop_zero,List.drop_nil,List.cons_append,List.nil_append,List.append_nil,hp0,Option.map_none]
   have g1:=g.link (b:=q) hp rfl hpr hpd (c:=pc) (e:=pe)
   have o1:Yfv N h1 (h1.set p (.cells Zcl [.str [G.hd p],.slice pa (G.ps p).length pc pe,.ptr (some (q,0))] false)):=⟨by simp,fun j hj hn=>Zbl fun e=>hn (e ▸ hp)⟩
   generalize h1.set p (.cells Zcl [.str [G.hd p],.slice pa (G.ps p).length pc pe,.ptr (some (q,0))] false)=h2 at g1 o1 ⊢
   have hlt:=Yrj (b:=q) hp hp0
   refine Zfz.L12ind (J:=fun (i:Nat) x82 h'=>x82=(i:Int)∧i≤(G.ps p).length∧Yfv N h2 h'∧∃ lk',Ylk G N lk p q lk' i∧GH h' G N lk' Z) (m:=fun i=>(G.ps p).length - i) (hr:=?_) (g:=0)
    (hj:=⟨rfl,by omega,Yfv.refl _ _,_,Ylk.start ok hq hp0 hq0 hne,g1⟩)
   rintro i x82 h3 ⟨rfl,hi,o3,lk',u,g3⟩ R hR
   unfold Zfz.L12t
   have O3:=o1.trans o3
   refine Zav (fun hlt3=>?_) (fun hge=>?_)
   ·have hi':i < (G.ps p).length:=by omega
    have hpv:Zbd (G.hd p)=false:=by
     cases hv:Zbd (G.hd p) with
     | false=>rfl
     | true=>rw [ok.var_ps hp hv] at hi'; simp at hi'
    have hh:=hhd hpv
    have hl:=lenEq hpv hh
    have hpg:(G.ps p)[i]?=some (G.ps p)[i]:=List.getElem?_eq_getElem hi'
    have hqg:(G.ps q)[i]?=some ((G.ps q)[i]'(by omega)):=List.getElem?_eq_getElem (by omega)
    obtain ⟨ja,oa,rfl,hca⟩:=Ybj (hpr.outN hpd O3) hpg
    obtain ⟨ra,rc,re,hri,hrr,hrd⟩:=g3.node q hq
    obtain ⟨jb,ob,rfl,hcb⟩:=Ybj hrr hqg
    simp only [Zaw,Int.toNat_natCast,hca,Zdu,Zak hri,Nat.zero_add,List.getElem?_cons_succ,List.getElem?_cons_zero,Zaf,hcb]
    have hup:ub N lk' < ub N lk:=Nat.lt_of_le_of_lt (Ykj u.ext) hlt
    refine ⟨by omega,by omega,(ih (ub N lk') (by omega) (Nat.le_refl _) g3 u.gok (ok.par p hp _ (List.getElem_mem hi')) (ok.par q hq _ (List.getElem_mem _))).mono ?_⟩
    rintro v h4 ⟨o4,⟨rfl,lk'',y,g4⟩ | ⟨rfl,no⟩⟩
    ·simp only [Zap,Bool.not_true,Zbj]
     rw [Zbt (by have:=ok.ps_le hp; omega)]
     exact hR (i + 1) _ _ (by omega) ⟨rfl,by omega,o3.trans o4,lk'',u.step hpg hqg hpv hp hq hh y,g4⟩
    ·simp only [Zap,Bool.not_false,Zby]
     exact hQ _ _ ⟨O3.trans o4,.inr ⟨rfl,u.fail hpg hqg hpv hp hq hh no⟩⟩
   ·apply Zfz.A12x1i
    have:i=(G.ps p).length:=by omega
    subst this
    exact hQ _ _ ⟨O3,.inl ⟨rfl,lk',u.done hp0 (fun hv=>(hhd hv).symm) hord,g3⟩⟩
  refine Zcq (fun hv=>?_) (fun hv=>j9 fun h=>by rw [hv] at h; cases h)
  have hqv:Zbd (G.hd q)=false:=by
   cases hv':Zbd (G.hd q) with
   | false=>rfl
   | true=>rw [hvar hv'] at hv; cases hv
  refine Zrn (fun hne'=>?_) (fun he=>j9 fun _=>by simpa using he)
  exact hQ _ _ ⟨Yfv.refl _ _,.inr ⟨rfl,UNo.clash hp hq hv hqv fun e=>hne' (by rw [e])⟩⟩
 apply Zfz.call
 refine (Ymn g ok ha hp1 hx0).mono ?_
 rintro v h1 ⟨rfl,rfl⟩
 simp only [Zdu]
 refine (Ymn g ok hb hp2 hy0).mono ?_
 rintro v h2 ⟨rfl,rfl⟩
 simp only [Zdu]
 by_cases hxy:x=y
 ·subst hxy
  refine .inl ⟨rfl,?_⟩
  simp only [Zby]
  exact ⟨Yfv.refl _ _,.inl ⟨rfl,lk,Ybd.path ok ha hb hp1 hp2 (Ybd.same ok),g⟩⟩
 ·refine .inr ⟨hxy,Zlz g hx,Zlz g hy,?_⟩
  simp only [Zbj]
  obtain ⟨xa,xc,xe,hxi,_⟩:=g.node x hx
  obtain ⟨ya,yc,ye,hyi,_⟩:=g.node y hy
  have fwd:∀ v h',Ysv G N lk Z x y h2 v h'→Ysv G N lk Z a b h2 v h':=fun v h' ⟨o,r⟩=>⟨o,r.imp (fun ⟨e,lk',u,g'⟩=>⟨e,lk',Ybd.path ok ha hb hp1 hp2 u,g'⟩) fun ⟨e,u⟩=>⟨e,UNo.path ok ha hb hp1 hp2 u⟩⟩
  have bwd:∀ v h',Ysv G N lk Z y x h2 v h'→Ysv G N lk Z a b h2 v h':=fun v h' ⟨o,r⟩=>fwd v h' ⟨o,r.imp (fun ⟨e,lk',u,g'⟩=>⟨e,lk',u.symm,g'⟩) fun ⟨e,u⟩=>⟨e,u.symm⟩⟩
  have iv:∀ (c:Nat) (K:Zas→Zaa→Prop),K (.bool (Zbd c)) h2→Zah pg Zea [.str [c]] h2 K:=fun c K hK=>(Ztr [c]).mono fun v h' ⟨e1,e2⟩=>by rw [e1,e2]; exact hK
  simp only [Zaw,Zak hxi,Zak hyi,Nat.zero_add,List.getElem?_cons_succ,List.getElem?_cons_zero,Zam,true_and]
  refine iv _ _ ?_
  simp only [Zap,Zak hxi,Zak hyi,List.getElem?_cons_zero,Zam]
  refine Zdb (fun hvx=>?_) (fun hvx=>?_)
  ·refine iv _ _ ?_
   simp only [Zap,Zak hxi,Zak hyi,List.getElem?_cons_zero,Zam]
   refine Zdb (fun hvy=>?_) (fun hvy=>?_)
   ·simp only [Yjc]
    refine Zrn (fun hgt=>?_) (fun hle=>?_)
    ·rw [decide_eq_false hgt]
     exact core y x _ hy hx hy0 hx0 (fun e=>hxy e.symm) (fun _=>hvy) (fun _ _=>by omega) bwd
    ·refine iv _ _ ?_
     rw [hvx]
     simp only [Zap,Zak hxi,Zak hyi,List.getElem?_cons_zero,Zam,Bool.not_true,Zbj]
     exact core x y _ hx hy hx0 hy0 hxy (fun _=>hvx) (fun _ _=>hle) fwd
   ·refine iv _ _ ?_
    rw [hvx]
    simp only [Zap,Zak hxi,Zak hyi,List.getElem?_cons_zero,Zam,Bool.not_true,Zbj]
    exact core x y _ hx hy hx0 hy0 hxy (fun h=>hvx) (fun _ h=>by rw [hvy] at h; cases h) fwd
  ·refine iv _ _ ?_
   rw [hvx]
   simp only [Zap,Zak hxi,Zak hyi,List.getElem?_cons_zero,Zam,Bool.not_false,Zby]
   refine iv _ _ ?_
   simp only [Zap,Zak hxi,Zak hyi,List.getElem?_cons_zero,Zam]
   refine Zdb (fun hvy=>?_) (fun hvy=>?_)
   ·exact core y x _ hy hx hy0 hx0 (fun e=>hxy e.symm) (fun _=>hvy) (fun _ h=>by rw [hvx] at h; cases h) bwd
   ·exact core x y _ hx hy hx0 hy0 hxy (fun h=>by rw [hvy] at h; cases h) (fun h=>by rw [hvx] at h; cases h) fwd
end
end Go.Sim

set_option linter.unusedVariables false
set_option linter.unusedSimpArgs false
set_option maxRecDepth 20000
namespace Go.Sim
open Go Go.RowKit

def Zys (h:Zaa) (i:Nat) (A:List Nat):Prop:=∃ es clk,h[i]?=some (.map es clk)∧es.map (·.1)=A.map (fun n=>Zas.ptr (some (n,0)))∧es.map (·.2.1)=A.map (fun _=>Zas.bool true)
theorem Zwk {h:Zaa}:∀ {es:List ME} {A:List Nat} {n k:Nat},es.map (·.1)=A.map (fun n=>Zas.ptr (some (n,0)))→es.map (·.2.1)=A.map (fun _=>Zas.bool true)→(∀ x∈A,Zeg h x=true)→Zeg h n=true→n∈A →
  ∃ j b,Zmf h es (n,0) k=some (some (k + j,.bool true))∧A[j]?=some n∧(∀ i,i < j→A[i]?≠some n)∧es[j]?=some (.ptr (some (n,0)),.bool true,b)
 | _,[],n,k,_,_,_,_,h=>by cases h
 | [],x :: A,n,k,h,_,_,_,_=>by simp at h
 | (ek,ev,eb) :: es,x :: A,n,k,hk,hv,hA,hn,hm=>by
  simp only [List.map_cons,List.cons.injEq] at hk hv
  obtain ⟨rfl,hk⟩:=hk
  obtain ⟨rfl,hv⟩:=hv
  by_cases e:n=x
  ·subst e
   exact ⟨0,eb,by simp [Zmf],rfl,fun i hi=>by omega,rfl⟩
  ·obtain ⟨j,b,h1,h2,h3,h4⟩:=Zwk (k:=k + 1) hk hv (fun y hy=>hA y (List.mem_cons_of_mem _ hy)) hn ((List.mem_cons.1 hm).resolve_left e)
   have hne:¬ ((n,0):Nat × Nat)=(x,0):=fun h=>e (by simpa using h)
   refine ⟨j + 1,b,?_,h2,fun i hi=>?_,h4⟩
   ·unfold Zmf
    rw [if_neg hne,if_pos ⟨e,hn,hA x List.mem_cons_self⟩,h1,show k + 1 + j=k + (j + 1) by omega]
   ·match i with
    | 0=>simp; exact fun h=>e h.symm
    | i + 1=>simpa using h3 i (by omega)
theorem Zww {h:Zaa}:∀ {es:List ME} {A:List Nat} {n k:Nat},es.map (·.1)=A.map (fun n=>Zas.ptr (some (n,0)))→(∀ x∈A,Zeg h x=true)→Zeg h n=true→n ∉ A→Zmf h es (n,0) k=some none
 | [],[],n,k,_,_,_,_=>rfl
 | [],x :: A,n,k,h,_,_,_=>by simp at h
 | e :: es,[],n,k,h,_,_,_=>by simp at h
 | (ek,ev,eb) :: es,x :: A,n,k,hk,hA,hn,hm=>by
  simp only [List.map_cons,List.cons.injEq] at hk
  obtain ⟨rfl,hk⟩:=hk
  have e:n≠x:=fun e=>hm (by rw [e]; exact List.mem_cons_self)
  have hne:¬ ((n,0):Nat × Nat)=(x,0):=fun h=>e (by simpa using h)
  unfold Zmf
  rw [if_neg hne,if_pos ⟨e,hn,hA x List.mem_cons_self⟩]
  exact Zww hk (fun y hy=>hA y (List.mem_cons_of_mem _ hy)) hn fun h=>hm (List.mem_cons_of_mem _ h)
section
variable {h h':Zaa} {i n:Nat} {A:List Nat}
theorem Zys.get (r:Zys h i A) (he:h'[i]?=h[i]?):Zys h' i A:=by obtain ⟨es,k,h1,x⟩:=r; exact ⟨es,k,by rw [he]; exact h1,x⟩
theorem Zys.map (r:Zys h i A):∃ es k,h[i]?=some (.map es k):=by obtain ⟨es,k,h1,_⟩:=r; exact ⟨es,k,h1⟩
theorem Zys.look (r:Zys h i A) (hA:∀ x∈A,Zeg h x=true) (hn:Zeg h n=true) {K:Bool→Prop} (hK:K (decide (n∈A))) :
  Zdy h (some i) fun es _=>Zxa (Zmf h es (n,0) 0) fun r=>Zbr (some (Option.getD r (.bool false))) K:=by
 obtain ⟨es,k,h1,hk,hv⟩:=r
 simp only [Zdy,h1]
 by_cases hm:n∈A
 ·obtain ⟨j,b,hf,_⟩:=Zwk (k:=0) hk hv hA hn hm
  rw [hf]
  simp only [Zxa,Option.getD_some,Zap]
  rw [decide_eq_true hm] at hK; exact hK
 ·rw [Zww (k:=0) hk hA hn hm]
  simp only [Zxa,Option.getD_none,Zap]
  rw [decide_eq_false hm] at hK; exact hK
theorem Zys.put (r:Zys h i A) (hA:∀ x∈A,Zeg h x=true) (hn:Zeg h n=true):∃ es k es' k',h[i]?=some (.map es k)∧Zys (h.set i (.map es' k')) i (if n∈A then A else A ++ [n]) ∧
  ∀ K:List ME→Nat→Prop,K es' k'→Ypr (Zmf h es (n,0) 0) es k (n,0) (.bool true) K:=by
 obtain ⟨es,k,h1,hk,hv⟩:=r
 have hl:=Own.lt h1
 by_cases hm:n∈A
 ·obtain ⟨j,b,hf,_,_,hj⟩:=Zwk (k:=0) hk hv hA hn hm
  refine ⟨es,k,es,k,h1,?_,fun K hK=>?_⟩
  rotate_left
  ·rw [hf]
   simp only [Ypr,Nat.zero_add]
   rw [Zso hj rfl]
   exact hK
  ·rw [if_pos hm]
   exact ⟨es,k,List.getElem?_set_self hl,hk,hv⟩
 ·refine ⟨es,k,es ++ [(.ptr (some (n,0)),.bool true,k)],k + 1,h1,?_,fun K hK=>?_⟩
  rotate_left
  ·rw [Zww (k:=0) hk hA hn hm]
   exact hK
  ·rw [if_neg hm]
   exact ⟨_,_,List.getElem?_set_self hl,by simp [hk],by simp [hv]⟩
theorem Zys.del (r:Zys h i (A ++ [n])) (hA:∀ x∈A,Zeg h x=true) (hn:Zeg h n=true) (hm:n ∉ A):∃ es k es',h[i]?=some (.map es k)∧Zys (h.set i (.map es' k)) i A ∧
  ∀ K:List ME→Prop,K es'→Yqw (Zmf h es (n,0) 0) es K:=by
 obtain ⟨es,k,h1,hk,hv⟩:=r
 have hl:=Own.lt h1
 have hA':∀ x∈A ++ [n],Zeg h x=true:=fun x hx=>by
  rcases List.mem_append.1 hx with hx | hx
  ·exact hA x hx
  ·rw [List.mem_singleton.1 hx]; exact hn
 obtain ⟨j,b,hf,hj,hfirst,_⟩:=Zwk (k:=0) hk hv hA' hn (by simp)
 have hjA:j=A.length:=by
  have hjl:=(List.getElem?_eq_some_iff.1 hj).1
  simp at hjl
  by_cases h:j < A.length
  ·rw [List.getElem?_append_left h] at hj
   exact absurd (List.mem_of_getElem? hj) hm
  ·omega
 refine ⟨es,k,es.eraseIdx j,h1,⟨_,_,List.getElem?_set_self hl,?_,?_⟩,fun K hK=>?_⟩
 ·rw [← Zfm,hk,hjA,List.map_append,List.eraseIdx_append_of_length_le (by simp)]; simp
 ·rw [← Zfm,hv,hjA,List.map_append,List.eraseIdx_append_of_length_le (by simp)]; simp
 ·rw [hf]
  simp only [Yqw,Nat.zero_add]
  exact hK
end
def Zpe (i j:Nat) (h h':Zaa):Prop:=h.length≤h'.length∧∀ k,k < h.length→k≠i→k≠j→h'[k]?=h[k]?
theorem Zpe.refl (i j:Nat) (h:Zaa):Zpe i j h h:=⟨Nat.le_refl _,fun _ _ _ _=>rfl⟩
theorem Zpe.trans {i j:Nat} {h h1 h2:Zaa} (a:Zpe i j h h1) (b:Zpe i j h1 h2):Zpe i j h h2:=⟨Nat.le_trans a.1 b.1,fun k hk h1 h2=>by rw [b.2 k (by have:=a.1; omega) h1 h2]; exact a.2 k hk h1 h2⟩
theorem Zpe.set1 (i j:Nat) (h:Zaa) (x:Zcc):Zpe i j h (h.set i x):=⟨by simp,fun k _ h1 _=>Zbl fun e=>h1 e.symm⟩
theorem Zpe.set2 (i j:Nat) (h:Zaa) (x:Zcc):Zpe i j h (h.set j x):=⟨by simp,fun k _ _ h2=>Zbl fun e=>h2 e.symm⟩
section
variable {G:Gr} {N:List Nat} {lk:Nat→Option Nat} {Z:Nat→Prop}
theorem GH.keepM {h h':Zaa} {i j:Nat} (g:GH h G N lk Z) (k:Zpe i j h h') (hi:∃ es c,h[i]?=some (.map es c)) (hj:∃ es c,h[j]?=some (.map es c)):GH h' G N lk Z:=by
 obtain ⟨es,c,hi⟩:=hi
 obtain ⟨es',c',hj⟩:=hj
 exact g.agree k.1 fun q t cs ro hq=>k.2 q (Own.lt hq) (fun e=>by subst e; rw [hi] at hq; cases hq) (fun e=>by subst e; rw [hj] at hq; cases hq)
def Ywg (G:Gr) (N:List Nat) (lk:Nat→Option Nat) (n mA mD:Nat) (A:List Nat) (h:Zaa) (v:Zas) (h':Zaa):Prop:=
 Zpe mA mD h h'∧((v=.bool true∧∀ val,Str G N val→¬ Rsp N lk val) ∨ (v=.bool false∧(∀ nu,∃ T,VT G lk nu n T)∧Zys h' mA A∧∃ D,Zys h' mD D∧(∀ x∈D,x∈N)∧∀ d∈D,∀ nu,∃ T,VT G lk nu d T))
theorem Yuo {N A:List Nat} {e:Nat} (he:e∈N) (hA:e ∉ A):N.countP (fun x=>decide (x ∉ A ++ [e])) < N.countP (fun x=>decide (x ∉ A)):=by
 have key:∀ L:List Nat,e∈L→L.countP (fun x=>decide (x ∉ A ++ [e])) < L.countP (fun x=>decide (x ∉ A)):=by
  intro L hL
  induction L with
  | nil=>cases hL
  | cons n L ih=>
   have hm:L.countP (fun x=>decide (x ∉ A ++ [e]))≤L.countP (fun x=>decide (x ∉ A)):=List.countP_mono_left fun x _ h=>by
    simp only [decide_eq_true_eq,List.mem_append,not_or] at h ⊢; exact h.1
   rw [List.countP_cons,List.countP_cons]
   by_cases en:n=e
   ·subst en
    rw [if_neg (by simp),if_pos (by simpa using hA)]; omega
   ·have:=ih ((List.mem_cons.1 hL).resolve_left fun h=>en h.symm)
    by_cases hn:n∈A
    ·rw [if_neg (by simp [hn]),if_neg (by simp [hn])]; omega
    ·rw [if_pos (by simp [hn,en]),if_pos (by simp [hn])]; omega
 exact key N he
theorem Yii (ok:GOk G N lk):∀ (M:Nat) {h:Zaa} {n mA mD:Nat} {A D:List Nat},N.countP (fun x=>decide (x ∉ A))≤M→GH h G N lk Z→n∈N→Zys h mA A→Zys h mD D→mA≠mD→(∀ x∈A,x∈N)→(∀ x∈D,x∈N) →
  (∀ d∈D,∀ nu,∃ T,VT G lk nu d T)→(∀ val,Str G N val→Rsp N lk val→∀ x∈A,(val n).size < (val x).size) →
  Zah pg Zgp [.ptr (some (n,0)),.map (some mA),.map (some mD)] h (Ywg G N lk n mA mD A h):=by
 intro M
 induction M using Nat.strongRecOn with
 | ind M ih=>
 intro h n mA mD A D hM g hn rA rD hne hAN hDN hDV hlt
 obtain ⟨k,e,hp,he0,he⟩:=ok.ends hn
 have hoA:∀ x∈A,Zeg h x=true:=fun x hx=>Zlz g (hAN x hx)
 have hoD:∀ x∈D,Zeg h x=true:=fun x hx=>Zlz g (hDN x hx)
 have hoe:=Zlz g he
 apply Zfq.call
 refine (Ymn g ok hn hp he0).mono ?_
 rintro v h1 ⟨rfl,rfl⟩
 simp only [Zdu,Zaw]
 refine rA.look hoA hoe ?_
 refine Zav (fun hin=>?_) (fun hnA=>?_)
 ·refine ⟨Zpe.refl _ _ _,.inl ⟨rfl,fun val hs hr=>?_⟩⟩
  have:=hlt val hs hr e hin
  rw [hr.path ok hn hp] at this
  omega
 refine rD.look hoD hoe ?_
 refine Zav (fun hin=>?_) (fun hnD=>?_)
 ·exact ⟨Zpe.refl _ _ _,.inr ⟨rfl,fun nu=>(hDV e hin nu).imp fun T v=>v.of_path hp,rA,D,rD,hDN,hDV⟩⟩
 obtain ⟨esA,kA,esA',kA',hA0,rA1,hput⟩:=rA.put hoA hoe
 simp only [xMp,Zaw,Zax,Zdy,hA0]
 refine hput _ ?_
 rw [if_neg hnA] at rA1
 have K1:=Zpe.set1 mA mD h1 (.map esA' kA')
 have rD1:Zys (h1.set mA (.map esA' kA')) mD D:=rD.get (Zbl hne)
 have g1:=g.keepM K1 rA.map rD.map
 generalize h1.set mA (.map esA' kA')=h2 at rA1 rD1 g1 K1 ⊢
 obtain ⟨pa,pc,pe,hei,her,hed⟩:=g1.node e he
 simp only [Zak hei,Nat.zero_add,List.getElem?_cons_succ,List.getElem?_cons_zero,Zaf]
 have hAN':∀ x∈A ++ [e],x∈N:=fun x hx=>by
  rcases List.mem_append.1 hx with hx | hx
  ·exact hAN x hx
  ·rw [List.mem_singleton.1 hx]; exact he
 refine Zfq.L8ind (J:=fun (i:Nat) x24 h'=>x24=(i:Int)∧i≤(G.ps e).length∧Zpe mA mD h2 h'∧Zys h' mA (A ++ [e])∧(∃ D',Zys h' mD D'∧(∀ x∈D',x∈N)∧∀ d∈D',∀ nu,∃ T,VT G lk nu d T)∧∀ j p,j < i→(G.ps e)[j]?=some p→∀ nu,∃ T,VT G lk nu p T) (m:=fun i=>(G.ps e).length - i) (hr:=?_) (g:=0)
  (hj:=⟨rfl,by omega,Zpe.refl _ _ _,rA1,⟨D,rD1,hDN,hDV⟩,fun j p hj=>by omega⟩)
 rintro i x24 h3 ⟨rfl,hi,K3,rA3,⟨D3,rD3,hDN3,hDV3⟩,hdone⟩ R hR
 unfold Zfq.L8t
 have g3:=g1.keepM K3 rA1.map rD1.map
 have KK:=K1.trans K3
 refine Zav (fun hlt3=>?_) (fun hge=>?_)
 ·have hi':i < (G.ps e).length:=by omega
  have hpg:(G.ps e)[i]?=some (G.ps e)[i]:=List.getElem?_eq_getElem hi'
  have her3:Row h3.length h3 pa (G.ps e).length ((G.ps e).map fun p=>Zas.ptr (some (p,0))):=her.to K3.1 fun j o h0 ha hl=>by
   obtain ⟨t,all,ro,hj⟩:=her.cellsAt h0 ha
   obtain ⟨es1,c1,q1⟩:=rA1.map
   obtain ⟨es2,c2,q2⟩:=rD1.map
   exact K3.2 j hl (fun e'=>by subst e'; rw [q1] at hj; cases hj) (fun e'=>by subst e'; rw [q2] at hj; cases hj)
  obtain ⟨ja,oa,rfl,hca⟩:=Ybj her3 hpg
  simp only [Zaw,Int.toNat_natCast,hca,Zdu]
  have hpN:=ok.par e he _ (List.getElem_mem hi')
  refine ⟨by omega,(ih _ (Nat.lt_of_lt_of_le (Yuo he hnA) hM) (Nat.le_refl _) g3 hpN rA3 rD3 hne hAN' hDN3 hDV3 (fun val hs hr x hx=>?_)).mono ?_⟩
  ·have hpe:(val (G.ps e)[i]).size < (val e).size:=Ytx ok hs hr he (List.getElem_mem hi') .refl
   rcases List.mem_append.1 hx with hx | hx
   ·have:=hlt val hs hr x hx
    rw [hr.path ok hn hp] at this
    omega
   ·rw [List.mem_singleton.1 hx]; exact hpe
  ·rintro v h4 ⟨K4,⟨rfl,hno⟩ | ⟨rfl,hT,rA4,D4,rD4,hDN4,hDV4⟩⟩
   ·simp only [Zap,Zby]
    exact ⟨KK.trans K4,.inl ⟨rfl,hno⟩⟩
   ·simp only [Zap,Zbj]
    rw [Zbt (by have:=ok.ps_le he; omega)]
    refine hR (i + 1) _ _ (by omega) ⟨rfl,by omega,K3.trans K4,rA4,⟨D4,rD4,hDN4,hDV4⟩,fun j p hj hp'=>?_⟩
    by_cases hji:j=i
    ·subst hji; rw [hpg] at hp'; cases hp'; exact hT
    ·exact hdone j p (by omega) hp'
 ·apply Zfq.A8x0i
  have:i=(G.ps e).length:=by omega
  subst this
  have hVe:∀ nu,∃ T,VT G lk nu e T:=fun nu=>VT.make ok he he0 fun p hp'=>by
   obtain ⟨j,hj⟩:=List.getElem?_of_mem hp'
   exact hdone j p (List.getElem?_eq_some_iff.1 hj).1 hj nu
  obtain ⟨es3,k3,es3',hA3,rA4,hdel⟩:=rA3.del (fun x hx=>Zlz g3 (hAN x hx)) (Zlz g3 he) hnA
  simp only [xMp,Zaw,Zax,Zdy,hA3]
  refine hdel _ ?_
  have K4:=Zpe.set1 mA mD h3 (.map es3' k3)
  have rD4:Zys (h3.set mA (.map es3' k3)) mD D3:=rD3.get (Zbl hne)
  have g4:=g3.keepM K4 rA3.map rD3.map
  generalize h3.set mA (.map es3' k3)=h4 at rA4 rD4 g4 K4 ⊢
  obtain ⟨es4,k4,es4',k4',hD4,rD5,hput4⟩:=rD4.put (fun x hx=>Zlz g4 (hDN3 x hx)) (Zlz g4 he)
  simp only [hD4]
  refine hput4 _ ?_
  have rA5:Zys (h4.set mD (.map es4' k4')) mA A:=rA4.get (Zbl fun e=>hne e.symm)
  refine ⟨(KK.trans K4).trans (Zpe.set2 mA mD h4 _),.inr ⟨rfl,fun nu=>(hVe nu).imp fun T v=>v.of_path hp,rA5,_,rD5,fun x hx=>?_,fun d hd=>?_⟩⟩
  ·split at hx
   ·exact hDN3 x hx
   ·rcases List.mem_append.1 hx with hx | hx
    ·exact hDN3 x hx
    ·rw [List.mem_singleton.1 hx]; exact he
  ·split at hd
   ·exact hDV3 d hd
   ·rcases List.mem_append.1 hd with hd | hd
    ·exact hDV3 d hd
    ·rw [List.mem_singleton.1 hd]; exact hVe
theorem Ysb (ok:GOk G N lk) {h:Zaa} {n:Nat} (g:GH h G N lk Z) (hn:n∈N) :
  Zah pg Zlk [.ptr (some (n,0))] h fun v h'=>Zbe h.length h h'∧((v=.bool false∧∀ val,Str G N val→¬ Rsp N lk val) ∨ (v=.bool true∧∀ nu,∃ T,VT G lk nu n T)):=by
 apply Zpv.call
 simp only [Zax]
 generalize hh0:h ++ [Zcc.map [] 0]=h0
 have s0:Zbe h.length h h0:=by rw [← hh0]; exact Zao
 have m0:h0[h.length]?=some (.map [] 0):=by rw [← hh0]; simp
 have l0:h0.length=h.length + 1:=by rw [← hh0]; simp
 generalize hh1:h0 ++ [Zcc.map [] 0]=h1
 have s1:Zbe h0.length h0 h1:=by rw [← hh1]; exact Zao
 have m1:=s1.get m0 (Own.lt m0)
 have d1:h1[h0.length]?=some (.map [] 0):=by rw [← hh1]; simp
 have S1:=s0.cat s1
 refine (Yii ok _ (Nat.le_refl _) (g.same S1) hn (A:=[]) (D:=[]) ⟨[],0,m1,rfl,rfl⟩ ⟨[],0,d1,rfl,rfl⟩ (by omega) (by simp) (by simp) (by simp) (by simp)).mono ?_
 rintro v h2 ⟨K2,hr⟩
 have l1:=S1.le
 have S2:Zbe h.length h h2:=⟨by have:=K2.1; omega,fun j hj=>by rw [K2.2 j (by omega) (by omega) (by omega)]; exact S1.eq j hj⟩
 rcases hr with ⟨rfl,hno⟩ | ⟨rfl,hT,_⟩
 ·simp only [Zap]
  exact ⟨S2,.inl ⟨rfl,hno⟩⟩
 ·simp only [Zap]
  exact ⟨S2,.inr ⟨rfl,hT⟩⟩
end
end Go.Sim

set_option linter.unusedVariables false
set_option linter.unusedSimpArgs false
set_option maxRecDepth 20000
namespace Go.Sim
open Go Go.RowKit

section
variable {G:Gr} {N:List Nat} {lk:Nat→Option Nat} {Z:Nat→Prop}
end
end Go.Sim
