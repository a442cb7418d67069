/- A part of the proof of a statement of this seat: see the text that holds the theorem. No condition. -/
import Derived.Test.YtdglddliggejdaaGreatPTCGrow
import Derived.Test.YtdglddliggejdaaGreatPUnifT
import Derived.Test.YtdglddliggejdaaGreatNm
import Derived.Test.YtdglddliggejdaaGreatPTCOwn
import Derived.Test.YtdglddliggejdaaGreatCMatch2
import Derived.Test.YtdglddliggejdaaGreatPTCSUn5
set_option linter.unusedVariables false
set_option linter.unusedSimpArgs false
set_option linter.all false
set_option linter.unusedVariables false
set_option linter.unusedSimpArgs false
set_option maxRecDepth 20000
namespace Go.Sim
open Go Go.RowKit

theorem Zqb {t:Ty} (h:okL Zro t=true):t.hd∈[105,98,117,120,121,122,88,89,90,49,50,51,52,53,54,108,109,112]:=by
 cases t with
 | k c=>
  simp only [okL,Zro,Bool.or_eq_true,Zfi,Zkn,beq_iff_eq,Zta,decide_eq_true_eq] at h
  simp only [Ty.hd,List.mem_cons,List.not_mem_nil,or_false]
  omega
 | u c a=>
  simp only [okL,Bool.and_eq_true,Bool.or_eq_true,beq_iff_eq] at h
  simp only [Ty.hd,List.mem_cons,List.not_mem_nil,or_false]
  omega
 | w c a b=>
  simp only [okL,Bool.and_eq_true,beq_iff_eq] at h
  simp only [Ty.hd,List.mem_cons,List.not_mem_nil,or_false]
  omega
theorem Zno {t:Ty} (h:okL Zro t=true) (hv:V12 t.hd=true):t=.k t.hd:=by
 cases t with
 | k c=>rfl
 | u c a=>
  simp only [okL,Bool.and_eq_true,Bool.or_eq_true,beq_iff_eq] at h
  simp only [Ty.hd] at hv
  rcases h.1 with e | e <;> rw [e] at hv <;> exact absurd hv (by decide)
 | w c a b=>
  simp only [okL,Bool.and_eq_true,beq_iff_eq] at h
  simp only [Ty.hd] at hv
  rw [h.1.1] at hv; exact absurd hv (by decide)
theorem Znp {c:Nat} (h:V12 c=true):∃ k:Nat,k < 12∧Zfk[k]?=some c∧Zoq Zfk c=(k:Int):=by
 simp only [V12,Bool.or_eq_true,Zkn,Zta,decide_eq_true_eq] at h
 have:c=88 ∨ c=89 ∨ c=90 ∨ c=120 ∨ c=121 ∨ c=122 ∨ c=49 ∨ c=50 ∨ c=51 ∨ c=52 ∨ c=53 ∨ c=54:=by omega
 rcases this with rfl | rfl | rfl | rfl | rfl | rfl | rfl | rfl | rfl | rfl | rfl | rfl
 ·exact ⟨0,by omega,rfl,rfl⟩
 ·exact ⟨1,by omega,rfl,rfl⟩
 ·exact ⟨2,by omega,rfl,rfl⟩
 ·exact ⟨3,by omega,rfl,rfl⟩
 ·exact ⟨4,by omega,rfl,rfl⟩
 ·exact ⟨5,by omega,rfl,rfl⟩
 ·exact ⟨6,by omega,rfl,rfl⟩
 ·exact ⟨7,by omega,rfl,rfl⟩
 ·exact ⟨8,by omega,rfl,rfl⟩
 ·exact ⟨9,by omega,rfl,rfl⟩
 ·exact ⟨10,by omega,rfl,rfl⟩
 ·exact ⟨11,by omega,rfl,rfl⟩
theorem Zti {t:Ty} (h:okL Zro t=true) (hv:V12 t.hd=false):Zoq Zfk t.hd=-1:=by
 apply Zru
 have:=Zqb h
 simp only [List.mem_cons,List.not_mem_nil,or_false] at this
 rcases this with e | e | e | e | e | e | e | e | e | e | e | e | e | e | e | e | e | e <;> rw [e] at hv ⊢ <;> first | (exact absurd hv (by decide)) | decide
theorem Ynv {k v:Nat} (h:Zfk[k]?=some v):V12 v=true:=by
 have:=List.mem_of_getElem? h
 simp only [Zfk,List.mem_cons,List.not_mem_nil,or_false] at this
 rcases this with rfl | rfl | rfl | rfl | rfl | rfl | rfl | rfl | rfl | rfl | rfl | rfl <;> decide
theorem Zyo:Zfk.Nodup:=by decide
def Zqi (S:Nat→Prop) (h:Zaa) (i:Nat) (σ:Nat→Option Ty):Prop:=∃ rows:List (Zal × Zal),rows.length=12∧h[i]?=some (.cells Zct (Zeu eR rows) false) ∧
 ∀ (k:Nat) (x:Zal × Zal) (v:Nat),rows[k]?=some x→Zfk[k]?=some v→match σ v with | some t=>Zeg S h t (eR x) | none=>x=(.int .u8 0,.slice none 0 0 true)
section
variable {S:Nat→Prop} {h h':Zaa} {i:Nat} {σ:Nat→Option Ty} {F:Nat→Ty}
theorem Zqi.lt (r:Zqi S h i σ):i < h.length:=by obtain ⟨_,_,h2,_⟩:=r; exact Own.lt h2
theorem Zqi.keep (r:Zqi S h i σ) (hi:h'[i]?=h[i]?) (hh:∀ j,S j→j < h.length→h'[j]?=h[j]?):Zqi S h' i σ:=by
 obtain ⟨rows,h1,h2,h3⟩:=r
 refine ⟨rows,h1,by rw [hi]; exact h2,fun k x v hx hv=>?_⟩
 have:=h3 k x v hx hv
 split at this
 ·exact this.keep hh
 ·exact this
theorem Zqi.same (r:Zqi S h i σ) (s:Zaz h.length h h'):Zqi S h' i σ:=r.keep (s.eq i r.lt) fun j _ hj=>s.eq j hj
theorem Zqi.get (r:Zqi S h i σ) {k v:Nat} (hk:Zfk[k]?=some v):∃ x:Zal × Zal,Zad h (.ptr (some (i,0 + k * 2 + 0)))=some x.1∧Zbf h (.ptr (some (i,0 + k * 2))) 2=some [x.1,x.2] ∧
  match σ v with | some t=>Zeg S h t [x.1,x.2] | none=>x=(.int .u8 0,.slice none 0 0 true):=by
 obtain ⟨rows,h1,h2,h3⟩:=r
 have hk12:k < 12:=(List.getElem?_eq_some_iff.1 hk).1
 have hrow:Row h.length h (some (i,0)) (12 * 2) (Zeu eR rows):=⟨by rw [Zbm Zjz,h1],.inr ⟨i,0,_,_,_,rfl,Own.lt h2,h2,by rw [Zbm Zjz,h1]; simp,by rw [List.drop_zero,List.take_of_length_le (by rw [Zbm Zjz,h1]; simp)]⟩⟩
 obtain ⟨i',o',hk',he,_,hr,hc⟩:=Row.el Zjz hrow h1 hk12 (by omega)
 cases he
 exact ⟨rows[k],by have:=hc 0 (by omega); simpa [eR] using this,hr,h3 k _ v (List.getElem?_eq_getElem hk') hk⟩
theorem Zqi.nil (hi:h[i]?=some (.cells Zct (Zeu eR (List.replicate 12 (.int .u8 0,.slice none 0 0 true))) false)):Zqi S h i (fun _=>none):=by
 refine ⟨_,by simp,hi,fun k x v hx _=>?_⟩
 rw [List.getElem?_replicate] at hx
 split at hx
 ·cases hx; rfl
 ·cases hx
theorem Zqi.put (r:Zqi S h i σ) (hSi:∀ j,S j→j≠i) {k v:Nat} (hk:Zfk[k]?=some v) {t:Ty} {x y:Zal} (ht:Zeg S h t [x,y]) :
  ∃ h',Zbe h (.ptr (some (i,0 + k * 2))) [x,y]=some h'∧Zfv i h h'∧Zqi S h' i (upd σ v t):=by
 obtain ⟨rows,h1,h2,h3⟩:=r
 have hk12:k < 12:=(List.getElem?_eq_some_iff.1 hk).1
 have hput:putRow (Zeu eR rows) (k * 2) (eR (x,y))=Zeu eR (rows.set k (x,y)):=Zxk Zjz (by omega)
 refine ⟨h.set i (.cells Zct (Zeu eR (rows.set k (x,y))) false),?_,Zfv.set _ _ _,?_⟩
 ·rw [Nat.zero_add,Zbl h2 (by rw [Zbm Zjz,h1]; simp; omega),← hput]; rfl
 ·have hkeep:∀ j,S j→j < h.length→(h.set i (.cells Zct (Zeu eR (rows.set k (x,y))) false))[j]?=h[j]?:=fun j hj _=>Zbw (fun e=>hSi j hj e.symm)
  refine ⟨_,by simp [h1],Zck h2,fun k' x' v' hx' hv'=>?_⟩
  by_cases e:k=k'
  ·subst e
   rw [hk] at hv'
   cases hv'
   rw [List.getElem?_set_self (by omega)] at hx'
   cases hx'
   simp only [upd,if_true]
   exact ht.keep hkeep
  ·rw [List.getElem?_set_ne e] at hx'
   have:=h3 k' x' v' hx' hv'
   have hne:v'≠v:=fun e'=>by
    subst e'
    have h5:=List.getElem?_eq_some_iff.1 hk
    have h6:=List.getElem?_eq_some_iff.1 hv'
    exact e ((List.getElem_inj (h₀:=h5.1) (h₁:=h6.1) Zyo).1 (h5.2.trans h6.2.symm))
   rw [show upd σ v t v'=σ v' by simp [upd,hne]]
   split at this
   ·exact this.keep hkeep
   ·exact this
theorem Zrh (m:Zqi S h i σ) (hSi:∀ j,S j→j < h.length∧j≠i) (hdom:∀ c u,σ c=some u→V12 c=true∧okL Zro u=true) {n:Nat} {t t':Ty} (ht:okL Zro t=true) (hw:Wlk σ n t t') {vs:List Zal} (r:Zeg S h t vs) :
  Zae pg Zgs [.ptr (some (i,0)),.agg vs] h fun v h'=>Zaz h.length h h'∧∃ vs',v=.agg vs'∧Zeg S h' t' vs':=by
 obtain ⟨a,c,e,rfl⟩:=r.shape
 have hil:=m.lt
 apply Zfu.call
 simp only [Zaw]
 generalize hh0:h ++ [Zcj.cells Zab [.int .u8 (t.hd:Int),.slice a t.ps.length c e] false]=h0
 generalize hh1:h0 ++ [Zcj.cells Zab [.int .u8 0,.slice none 0 0 true] false]=h1
 have s0:Zaz h.length h h0:=by rw [← hh0]; exact Zaq
 have s1:Zaz h0.length h0 h1:=by rw [← hh1]; exact Zaq
 have o0:h0[h.length]?=some (.cells Zab [.int .u8 (t.hd:Int),.slice a t.ps.length c e] false):=by rw [← hh0]; simp
 have oa:=s1.get o0 (Own.lt o0)
 have oz:h1[h0.length]?=some (.cells Zab [.int .u8 0,.slice none 0 0 true] false):=by rw [← hh1]; simp
 have S1:=s0.cat s1
 have l0:h0.length=h.length + 1:=by rw [← hh0]; simp
 have l1:h1.length=h.length + 2:=by rw [← hh1]; simp [l0]
 simp only [Zak oa,Nat.zero_add,List.getElem?_cons_zero,Zam]
 refine (Zkm t.hd).mono ?_
 rintro v h2 ⟨rfl,rfl⟩
 simp only [Zam]
 refine Zfu.L2ind (J:=fun (g:Nat) x5 h'=>∃ (u:Ty) (us:List Zal),Wlk σ g u t'∧okL Zro u=true∧Zeg S h u us∧x5=Zoq Zfk u.hd∧Zaz h.length h h'∧h'[h.length]?=some (.cells Zab us false)∧h'[h0.length]?=some (.cells Zab [.int .u8 0,.slice none 0 0 true] false)∧h2.length≤h'.length) (m:=fun g=>g) (hr:=?_) (g:=n)
  (hj:=⟨t,_,hw,ht,r,rfl,S1,oa,oz,Nat.le_refl _⟩)
 rintro g x5 h3 ⟨u,us,hwu,hu,ru,rfl,S3,ou,oz3,l3⟩ R hR
 unfold Zfu.L2t
 obtain ⟨ua,uc,ue,rfl⟩:=ru.shape
 have stop:t'=u→Zfu.A2x0 (fun v h'=>Zaz h.length h h'∧∃ vs',v=.agg vs'∧Zeg S h' t' vs') h.length 0 h0.length 0 h3:=by
  rintro rfl
  apply Zfu.A2x0i
  rw [Zcg ou]
  simp only [Zas,Zai,Zar,Zam,Zag]
  rw [Zbl oz3 (by simp)]
  simp only [Zau,putRow,List.take_zero,List.length_cons,List.length_nil,List.drop_succ_cons,List.drop_zero,List.drop_nil,List.cons_append,List.nil_append,List.append_nil,Nat.zero_add]
  rw [Zcg (Zck oz3)]
  simp only [Zas,Zai,Zar,Zam,Zag]
  have S4:Zaz h.length h (h3.set h0.length (.cells Zab [.int .u8 (t'.hd:Int),.slice ua t'.ps.length uc ue] false)):=⟨by simp; exact S3.le,fun j hj=>by rw [Zbw (by omega)]; exact S3.eq j hj⟩
  exact ⟨S4,_,rfl,ru.same S4⟩
 have mm:=m.same S3
 cases hv:V12 u.hd with
 | false=>
  rw [Zti hu hv]
  refine Zan (fun h=>by omega) (fun _=>stop ?_)
  cases hwu with
  | stop _=>rfl
  | step h1 _=>have:=(hdom _ _ h1).1; simp only [Ty.hd] at hv; rw [this] at hv; cases hv
 | true=>
  obtain ⟨k,hk,hkv,hix⟩:=Znp hv
  have huk:=Zno hu hv
  rw [hix]
  refine Zan (fun _=>?_) (fun h=>by omega)
  obtain ⟨x,hx1,hx2,hx3⟩:=mm.get hkv
  simp only [Zat,Int.toNat_natCast,hx1]
  cases hs:σ u.hd with
  | none=>
   rw [hs] at hx3
   simp only at hx3
   subst hx3
   simp only [Zam,show ((0:Int) == 0)=true from rfl,Bool.not_true,Zax]
   refine ⟨by omega,stop ?_⟩
   rw [huk] at hwu ⊢
   cases hwu with
   | stop _=>rfl
   | step h1 _=>rw [hs] at h1; cases h1
  | some w=>
   rw [hs] at hx3
   simp only at hx3
   have hwok:=(hdom _ _ hs).2
   obtain ⟨wa,wc,we,hwx⟩:=hx3.shape
   simp only [List.cons.injEq,and_true] at hwx
   obtain ⟨hw1,hw2⟩:=hwx
   have hne:((w.hd:Int) == 0)=false:=by
    have:=Zqb hwok
    have hne:w.hd≠0:=fun e=>by rw [e] at this; simp at this
    simp; omega
   rw [hw1,hw2] at hx2 hx3
   rw [hw1]
   simp only [Zam,hne,Bool.not_false,Zbr]
   refine ⟨by omega,?_⟩
   apply Zfu.J4i
   simp only [Zat,Int.toNat_natCast,hx2,Zas,Zai,Zar,Zam,Zag]
   rw [Zbl ou (by simp)]
   simp only [Zau,putRow,List.take_zero,List.length_cons,List.length_nil,List.drop_succ_cons,List.drop_zero,List.drop_nil,List.cons_append,List.nil_append,List.append_nil,Nat.zero_add]
   have og:=Zck ou (x:=.cells Zab [.int .u8 (w.hd:Int),.slice wa w.ps.length wc we] false)
   simp only [Zak og,List.getElem?_cons_zero,Zam]
   refine ⟨by omega,(Zkm w.hd).mono ?_⟩
   rintro v h4 ⟨rfl,rfl⟩
   simp only [Zam]
   have S4:Zaz h.length h (h3.set h.length (.cells Zab [.int .u8 (w.hd:Int),.slice wa w.ps.length wc we] false)):=⟨by simp; exact S3.le,fun j hj=>by rw [Zbw (by omega)]; exact S3.eq j hj⟩
   rw [huk] at hwu
   cases hwu with
   | stop h1=>rw [h1 _ rfl] at hs; cases hs
   | step h1 h2=>
    rw [hs] at h1
    cases h1
    refine hR _ _ _ (Nat.lt_succ_self _) ⟨w,_,h2,hwok,hx3.agree (fun j hj=>(S3.eq j (hSi j hj).1).symm),rfl,S4,og,by rw [Zbw (by omega)]; exact oz3,by simpa using l3⟩
end
end Go.Sim

set_option linter.unusedVariables false
set_option linter.unusedSimpArgs false
set_option maxRecDepth 20000
namespace Go.Sim
open Go Go.RowKit

theorem Yod {h h':Zaa} {a:Pt} {m:Nat} {cs:List Zal} (r:Row h.length h a m cs) (hl:h.length≤h'.length) (hh:∀ j o,m≠0→a=some (j,o)→j < h.length→h'[j]?=h[j]?):Row h'.length h' a m cs:=by
 obtain ⟨hc,r⟩:=r
 by_cases h0:m=0
 ·exact ⟨hc,.inl h0⟩
 ·refine ⟨hc,r.imp id ?_⟩
  rintro ⟨i,o,t,all,ro,ha,hi,hg,x⟩
  exact ⟨i,o,t,all,ro,ha,by omega,by rw [hh i o h0 ha hi]; exact hg,x⟩
theorem Yik {f:Ty→Bool} {l:List Ty} {g:Nat} (hg:g < l.length):(l.take (g + 1)).any f=((l.take g).any f || f l[g]):=by
 rw [List.take_succ_eq_append_getElem hg,List.any_append]; simp
def Zqp (c:Nat):Nat:=(Zoq Zfk c).toNat
theorem Yny {a b:Ty} (ha:okL Zro a=true) (hb:okL Zro b=true) (h:a.hd=b.hd):a.ps.length=b.ps.length:=by
 have no:∀ c,Zro c=true→c≠108∧c≠109∧c≠112:=fun c hc=>⟨fun e=>by rw [e] at hc; exact absurd hc (by decide),fun e=>by rw [e] at hc; exact absurd hc (by decide),fun e=>by rw [e] at hc; exact absurd hc (by decide)⟩
 cases a with
 | k c=>
  have:=no c ha
  cases b with
  | k d=>rfl
  | u d y=>simp only [okL,Bool.and_eq_true,Bool.or_eq_true,beq_iff_eq,Ty.hd] at hb h; omega
  | w d y z=>simp only [okL,Bool.and_eq_true,beq_iff_eq,Ty.hd] at hb h; omega
 | u c x=>
  cases b with
  | k d=>have:=no d hb; simp only [okL,Bool.and_eq_true,Bool.or_eq_true,beq_iff_eq,Ty.hd] at ha h; omega
  | u d y=>rfl
  | w d y z=>simp only [okL,Bool.and_eq_true,Bool.or_eq_true,beq_iff_eq,Ty.hd] at ha hb h; omega
 | w c x y=>
  cases b with
  | k d=>have:=no d hb; simp only [okL,Bool.and_eq_true,beq_iff_eq,Ty.hd] at ha h; omega
  | u d y=>simp only [okL,Bool.and_eq_true,Bool.or_eq_true,beq_iff_eq,Ty.hd] at ha hb h; omega
  | w d y z=>rfl
section
variable {S:Nat→Prop} {i:Nat} {σ:Nat→Option Ty} {F:Nat→Ty}
theorem Ybw (rs:Rsv V12 σ F) (hdom:∀ c u,σ c=some u→V12 c=true∧okL Zro u=true) {v:Nat} (hv:V12 v=true) (hv0:σ v=none):∀ (M:Nat) {h:Zaa} {t:Ty} {vs:List Zal},(sb V12 F t).size≤M→Zqi S h i σ→(∀ j,S j→j < h.length∧j≠i)→okL Zro t=true→Zeg S h t vs →
  Zae pg Zcx [.ptr (some (i,0)),.int .u8 (v:Int),.agg vs] h fun x h'=>x=.bool (occ v (sb V12 F t))∧Zaz h.length h h':=by
 intro M
 induction M with
 | zero=>intro h t vs hM; have:=Zrq (sb V12 F t); omega
 | succ M ih=>
 intro h t vs hM m hSi ht r
 obtain ⟨a,c,e,rfl⟩:=r.shape
 obtain ⟨n,t',hw,ht',heq⟩:=rs.walked (fun t=>okL Zro t=true) (fun c t h=>(hdom c t h).2) ht
 have hend:=hw.end_
 have hil:=m.lt
 apply Zgq.call
 simp only [Zaw]
 generalize hh0:h ++ [Zcj.cells Zab [.int .u8 (t.hd:Int),.slice a t.ps.length c e] false]=h0
 have s0:Zaz h.length h h0:=by rw [← hh0]; exact Zaq
 have o0:h0[h.length]?=some (.cells Zab [.int .u8 (t.hd:Int),.slice a t.ps.length c e] false):=by rw [← hh0]; simp
 have l0:h0.length=h.length + 1:=by rw [← hh0]; simp
 rw [Zcg o0]
 simp only [Zas,Zai,Zar,Zam,Zag]
 refine (Zrh (m.same s0) (fun j hj=>⟨by have:=(hSi j hj).1; omega,(hSi j hj).2⟩) hdom ht hw (r.same s0)).mono ?_
 rintro v1 h1 ⟨s1,vs1,rfl,r1⟩
 obtain ⟨a1,c1,e1,vts,rfl,row1,hS1,hvl,hvp⟩:=r1.parts
 have o1:=s1.get o0 (Own.lt o0)
 have hl1:=s1.le
 simp only [Zdf,Zai,Zar,Zam,Zag]
 rw [Zbl o1 (by simp)]
 simp only [Zau,putRow,List.take_zero,List.length_cons,List.length_nil,List.drop_succ_cons,List.drop_zero,List.drop_nil,List.cons_append,List.nil_append,List.append_nil,Nat.zero_add]
 generalize hh2:h1.set h.length (.cells Zab [.int .u8 (t'.hd:Int),.slice a1 t'.ps.length c1 e1] false)=h2
 have o2:h2[h.length]?=some (.cells Zab [.int .u8 (t'.hd:Int),.slice a1 t'.ps.length c1 e1] false):=by rw [← hh2]; exact Zck o1
 have l2:h2.length=h1.length:=by rw [← hh2]; simp
 have k2:∀ j,j≠h.length→h2[j]?=h1[j]?:=fun j hj=>by rw [← hh2]; exact Zbw fun e=>hj e.symm
 have S2:Zaz h.length h h2:=⟨by omega,fun j hj=>by rw [k2 j (by omega),s1.eq j (by omega)]; exact s0.eq j hj⟩
 have row2:Row h2.length h2 a1 (t'.ps.length * 2) vts.flatten:=Yod row1 (by omega) fun j o h0 ha _=>k2 j (by have:=(hSi j (hS1 j o (by omega) ha)).1; omega)
 have hvp2:∀ (k:Nat) (w:List Zal) (x:Ty),vts[k]?=some w→t'.ps[k]?=some x→Zeg S h2 x w:=fun k w x h1' h2'=>(hvp k w x h1' h2').agree fun j hj=>k2 j (by have:=(hSi j hj).1; omega)
 simp only [Zak o2,List.getElem?_cons_zero,List.getElem?_cons_succ,Zam,Zag]
 rw [heq]
 refine Zej (fun he=>?_) (fun hne=>?_)
 ·have hh:t'.hd=v:=by omega
  have:=Zno ht' (by rw [hh]; exact hv)
  rw [hh] at this
  rw [this,rs.var hv0]
  exact ⟨by simp [occ],S2⟩
 ·have hne':t'.hd≠v:=fun e=>hne (by rw [e])
  have hany:occ v (sb V12 F t')=t'.ps.any fun p=>occ v (sb V12 F p):=by
   cases hv':V12 t'.hd with
   | false=>exact Ycj (.inr hv') hv F
   | true=>
    have hk:=Zno ht' hv'
    rw [hk]
    have hno:=hend t'.hd hk
    rw [rs.var hno]
    simp [occ,Ty.ps,hne']
  rw [hany]
  refine Zgq.L5ind (J:=fun (g:Nat) x19 h'=>x19=(g:Int)∧g≤t'.ps.length∧Zaz h2.length h2 h'∧(t'.ps.take g).any (fun p=>occ v (sb V12 F p))=false) (m:=fun g=>t'.ps.length - g) (hr:=?_) (g:=0) (hj:=⟨rfl,by omega,Zaz.refl _ _,by simp⟩)
  rintro g x19 h3 ⟨rfl,hg,S3,hk⟩ R hR
  unfold Zgq.L5t
  refine Zan (fun hlt=>?_) (fun hge=>?_)
  ·have hg':g < t'.ps.length:=by omega
   obtain ⟨j,o,a2,c2,e2,rfl,hr,hkr⟩:=Zeg.get (row2.same' S3) hvl (fun k w x h1 h2=>(hvp2 k w x h1 h2).same S3) hg'
   simp only [Zat,Int.toNat_natCast,hr,Zas,Zai,Zar,Zam,Zag,Zaw]
   rw [Zin]
   simp only [Zau]
   rw [Ygb]
   simp only [Zas,Zai,Zar,Zam,Zag]
   have hm:=List.getElem_mem hg'
   have hsz:=Zoe (V:=V12) hm F
   rw [heq] at hM
   have hps2:t'.ps.length≤2:=by cases t' <;> simp [Ty.ps]
   have s4:Zaz h3.length h3 (h3 ++ [.cells Zab [.int .u8 (t'.ps[g].hd:Int),.slice a2 t'.ps[g].ps.length c2 e2] false]):=Zaq
   have SS:=(S2.cat S3).cat s4
   refine ⟨by omega,(ih (by omega) (m.same SS) (fun j hj=>⟨by have:=(hSi j hj).1; have:=SS.le; omega,(hSi j hj).2⟩) (Yiy ht' _ hm) (hkr.same s4)).mono ?_⟩
   rintro x h5 ⟨rfl,s5⟩
   simp only [Zah]
   refine Zds (fun hb=>?_) (fun hb=>?_)
   ·refine ⟨?_,SS.cat s5⟩
    have:(t'.ps.any fun p=>occ v (sb V12 F p))=true:=List.any_eq_true.2 ⟨_,hm,hb⟩
    rw [this]
   ·rw [Zbn (by omega)]
    exact hR (g + 1) _ _ (by omega) ⟨rfl,by omega,(S3.cat s4).cat s5,by rw [Yik hg',hk,hb]; rfl⟩
  ·apply Zgq.A5x0i
   have:g=t'.ps.length:=by omega
   subst this
   rw [List.take_length] at hk
   exact ⟨by rw [hk],S2.cat S3⟩
def Zoa (S:Nat→Prop) (i:Nat) (P:Ty→Prop) (σ:Nat→Option Ty) (F:Nat→Ty) (a b:Ty) (h:Zaa) (v:Zal) (h':Zaa):Prop:=
 Zfv i h h'∧((v=.bool true∧∃ σ' F',Zqi S h' i σ'∧Rsv V12 σ' F'∧(∀ θ,Sol V12 σ' θ ↔ Sol V12 σ θ∧sb V12 θ a=sb V12 θ b)∧Inc Zqp V12 σ'∧(∀ c t,σ' c=some t→P (.k c)∧P t)∧((σ'=σ∧F'=F) ∨ unb Zfk σ' < unb Zfk σ)) ∨
  (v=.bool false∧∀ θ,Sol V12 σ θ→sb V12 θ a≠sb V12 θ b))
theorem Zoa.walk {P:Ty→Prop} (rs:Rsv V12 σ F) {a b a' b':Ty} {n n':Nat} (hw:Wlk σ n a a') (hw':Wlk σ n' b b') {h h':Zaa} {v:Zal} (u:Zoa S i P σ F a' b' h v h'):Zoa S i P σ F a b h v h':=by
 have key:∀ θ,Sol V12 σ θ→(sb V12 θ a=sb V12 θ b ↔ sb V12 θ a'=sb V12 θ b'):=fun θ hs=>by rw [hw.sbS rs hs,hw'.sbS rs hs]
 obtain ⟨K,u⟩:=u
 refine ⟨K,u.imp ?_ ?_⟩
 ·rintro ⟨e,σ',F',h1,h2,h3,h4⟩
  exact ⟨e,σ',F',h1,h2,fun θ=>(h3 θ).trans (and_congr_right fun hs=>(key θ hs).symm),h4⟩
 ·rintro ⟨e,h1⟩
  exact ⟨e,fun θ hs he=>h1 θ hs ((key θ hs).1 he)⟩
theorem Zoa.symm {P:Ty→Prop} {a b:Ty} {h h':Zaa} {v:Zal} (u:Zoa S i P σ F a b h v h'):Zoa S i P σ F b a h v h':=by
 obtain ⟨K,u⟩:=u
 refine ⟨K,u.imp ?_ ?_⟩
 ·rintro ⟨e,σ',F',h1,h2,h3,h4⟩
  exact ⟨e,σ',F',h1,h2,fun θ=>(h3 θ).trans (and_congr_right fun _=>eq_comm),h4⟩
 ·rintro ⟨e,h1⟩
  exact ⟨e,fun θ hs he=>h1 θ hs he.symm⟩
end
end Go.Sim

set_option linter.unusedVariables false
set_option linter.unusedSimpArgs false
set_option maxRecDepth 20000
namespace Go.Sim
open Go Go.RowKit

def Zrw (Q:QT) (a0:Pt) (l l0:Nat) (x_52 x_55:Int) (h_54:Zaa):Prop:=
 bcase (decide ((x_52:Int) ≥ 0)) (bcase ((x_52:Int) == x_55) (Q (.bool true) h_54) (bcase (decide ((x_52:Int) ≥ 0)) (bcase (decide ((x_55:Int) < 0)) (Zci .u8 (Zad h_54 (.ptr (some (l,0 + 0)))) fun x_56=>Zcs (Zbf h_54 (.ptr (some (l0,0))) 2) fun cs_57=>Zaj cs_57 fun c_58 r_59=>Zci .u8 (some c_58) fun x_60=>Zaj r_59 fun c_61 r_62=>xSl (some c_61) fun a_63 n_64 c_65 e_66=>Zcf r_62 (Zae pg Zcx [.ptr a0,.int .u8 x_56,.agg [.int .u8 x_60,.slice a_63 n_64 c_65 e_66]] h_54 fun v_67 h_68=>
 Zbp (some v_67) fun b_69=>bcase b_69 (Q (.bool false) h_68) (Zba a0 fun i_70 o_71=>Zcs (Zbf h_68 (.ptr (some (l0,0))) 2) fun cs_72=>Zaj cs_72 fun c_73 r_74=>Zci .u8 (some c_73) fun x_75=>Zaj r_74 fun c_76 r_77=>xSl (some c_76) fun a_78 n_79 c_80 e_81=>Zcf r_77 ((0≤(x_52:Int)∧(x_52:Int) < (12:Nat))∧(Zch (Zbe h_68 (.ptr (some (i_70,o_71 + (Int.toNat x_52) * 2))) [.int .u8 x_75,.slice a_78 n_79 c_80 e_81]) fun h_82=>Q (.bool true) h_82))))) (bcase (decide ((x_52:Int) < x_55)) (Zci .u8 (Zad h_54 (.ptr (some (l,0 + 0)))) fun x_83=>Zcs (Zbf h_54 (.ptr (some (l0,0))) 2) fun cs_84=>Zaj cs_84 fun c_85 r_86=>Zci .u8 (some c_85) fun x_87=>Zaj r_86 fun c_88 r_89=>xSl (some c_88) fun a_90 n_91 c_92 e_93=>Zcf r_89 (Zae pg Zcx [.ptr a0,.int .u8 x_83,.agg [.int .u8 x_87,.slice a_90 n_91 c_92 e_93]] h_54 fun v_94 h_95=>
 Zbp (some v_94) fun b_96=>bcase b_96 (Q (.bool false) h_95) (Zba a0 fun i_97 o_98=>Zcs (Zbf h_95 (.ptr (some (l0,0))) 2) fun cs_99=>Zaj cs_99 fun c_100 r_101=>Zci .u8 (some c_100) fun x_102=>Zaj r_101 fun c_103 r_104=>xSl (some c_103) fun a_105 n_106 c_107 e_108=>Zcf r_104 ((0≤(x_52:Int)∧(x_52:Int) < (12:Nat))∧(Zch (Zbe h_95 (.ptr (some (i_97,o_98 + (Int.toNat x_52) * 2))) [.int .u8 x_102,.slice a_105 n_106 c_107 e_108]) fun h_109=>Q (.bool true) h_109))))) (bcase (decide ((x_55:Int) ≥ 0)) (Zcs (Zbf h_54 (.ptr (some (l0,0))) 2) fun cs_110=>Zaj cs_110 fun c_111 r_112=>Zci .u8 (some c_111) fun x_113=>Zaj r_112 fun c_114 r_115=>xSl (some c_114) fun a_116 n_117 c_118 e_119=>Zcf r_115 (Zcs (Zbf h_54 (.ptr (some (l,0))) 2) fun cs_120=>Zaj cs_120 fun c_121 r_122=>Zci .u8 (some c_121) fun x_123=>Zaj r_122 fun c_124 r_125=>xSl (some c_124) fun a_126 n_127 c_128 e_129=>Zcf r_125 (Zae pg Zcr [.ptr a0,.agg [.int .u8 x_113,.slice a_116 n_117 c_118 e_119],.agg [.int .u8 x_123,.slice a_126 n_127 c_128 e_129]] h_54 fun v_130 h_131=>
 Zbp (some v_130) fun b_132=>Q (.bool b_132) h_131))) (Zci .u8 (Zad h_54 (.ptr (some (l,0 + 0)))) fun x_133=>Zci .u8 (Zad h_54 (.ptr (some (l0,0 + 0)))) fun x_134=>bcase (!((x_133:Int) == x_134)) (Q (.bool false) h_54) (Zdq.J15 Q l 0 a0 (l0) 0 h_54))))) (bcase (decide ((x_55:Int) ≥ 0)) (Zcs (Zbf h_54 (.ptr (some (l0,0))) 2) fun cs_135=>Zaj cs_135 fun c_136 r_137=>Zci .u8 (some c_136) fun x_138=>Zaj r_137 fun c_139 r_140=>xSl (some c_139) fun a_141 n_142 c_143 e_144=>Zcf r_140 (Zcs (Zbf h_54 (.ptr (some (l,0))) 2) fun cs_145=>Zaj cs_145 fun c_146 r_147=>Zci .u8 (some c_146) fun x_148=>Zaj r_147 fun c_149 r_150=>xSl (some c_149) fun a_151 n_152 c_153 e_154=>Zcf r_150 (Zae pg Zcr [.ptr a0,.agg [.int .u8 x_138,.slice a_141 n_142 c_143 e_144],.agg [.int .u8 x_148,.slice a_151 n_152 c_153 e_154]] h_54 fun v_155 h_156=>
 Zbp (some v_155) fun b_157=>Q (.bool b_157) h_156))) (Zci .u8 (Zad h_54 (.ptr (some (l,0 + 0)))) fun x_158=>Zci .u8 (Zad h_54 (.ptr (some (l0,0 + 0)))) fun x_159=>bcase (!((x_158:Int) == x_159)) (Q (.bool false) h_54) (Zdq.J15 Q l 0 a0 (l0) 0 h_54))))) (bcase (decide ((x_52:Int) ≥ 0)) (bcase (decide ((x_55:Int) < 0)) (Zci .u8 (Zad h_54 (.ptr (some (l,0 + 0)))) fun x_160=>Zcs (Zbf h_54 (.ptr (some (l0,0))) 2) fun cs_161=>Zaj cs_161 fun c_162 r_163=>Zci .u8 (some c_162) fun x_164=>Zaj r_163 fun c_165 r_166=>xSl (some c_165) fun a_167 n_168 c_169 e_170=>Zcf r_166 (Zae pg Zcx [.ptr a0,.int .u8 x_160,.agg [.int .u8 x_164,.slice a_167 n_168 c_169 e_170]] h_54 fun v_171 h_172=>
 Zbp (some v_171) fun b_173=>bcase b_173 (Q (.bool false) h_172) (Zba a0 fun i_174 o_175=>Zcs (Zbf h_172 (.ptr (some (l0,0))) 2) fun cs_176=>Zaj cs_176 fun c_177 r_178=>Zci .u8 (some c_177) fun x_179=>Zaj r_178 fun c_180 r_181=>xSl (some c_180) fun a_182 n_183 c_184 e_185=>Zcf r_181 ((0≤(x_52:Int)∧(x_52:Int) < (12:Nat))∧(Zch (Zbe h_172 (.ptr (some (i_174,o_175 + (Int.toNat x_52) * 2))) [.int .u8 x_179,.slice a_182 n_183 c_184 e_185]) fun h_186=>Q (.bool true) h_186))))) (bcase (decide ((x_52:Int) < x_55)) (Zci .u8 (Zad h_54 (.ptr (some (l,0 + 0)))) fun x_187=>Zcs (Zbf h_54 (.ptr (some (l0,0))) 2) fun cs_188=>Zaj cs_188 fun c_189 r_190=>Zci .u8 (some c_189) fun x_191=>Zaj r_190 fun c_192 r_193=>xSl (some c_192) fun a_194 n_195 c_196 e_197=>Zcf r_193 (Zae pg Zcx [.ptr a0,.int .u8 x_187,.agg [.int .u8 x_191,.slice a_194 n_195 c_196 e_197]] h_54 fun v_198 h_199=>
 Zbp (some v_198) fun b_200=>bcase b_200 (Q (.bool false) h_199) (Zba a0 fun i_201 o_202=>Zcs (Zbf h_199 (.ptr (some (l0,0))) 2) fun cs_203=>Zaj cs_203 fun c_204 r_205=>Zci .u8 (some c_204) fun x_206=>Zaj r_205 fun c_207 r_208=>xSl (some c_207) fun a_209 n_210 c_211 e_212=>Zcf r_208 ((0≤(x_52:Int)∧(x_52:Int) < (12:Nat))∧(Zch (Zbe h_199 (.ptr (some (i_201,o_202 + (Int.toNat x_52) * 2))) [.int .u8 x_206,.slice a_209 n_210 c_211 e_212]) fun h_213=>Q (.bool true) h_213))))) (bcase (decide ((x_55:Int) ≥ 0)) (Zcs (Zbf h_54 (.ptr (some (l0,0))) 2) fun cs_214=>Zaj cs_214 fun c_215 r_216=>Zci .u8 (some c_215) fun x_217=>Zaj r_216 fun c_218 r_219=>xSl (some c_218) fun a_220 n_221 c_222 e_223=>Zcf r_219 (Zcs (Zbf h_54 (.ptr (some (l,0))) 2) fun cs_224=>Zaj cs_224 fun c_225 r_226=>Zci .u8 (some c_225) fun x_227=>Zaj r_226 fun c_228 r_229=>xSl (some c_228) fun a_230 n_231 c_232 e_233=>Zcf r_229 (Zae pg Zcr [.ptr a0,.agg [.int .u8 x_217,.slice a_220 n_221 c_222 e_223],.agg [.int .u8 x_227,.slice a_230 n_231 c_232 e_233]] h_54 fun v_234 h_235=>
 Zbp (some v_234) fun b_236=>Q (.bool b_236) h_235))) (Zci .u8 (Zad h_54 (.ptr (some (l,0 + 0)))) fun x_237=>Zci .u8 (Zad h_54 (.ptr (some (l0,0 + 0)))) fun x_238=>bcase (!((x_237:Int) == x_238)) (Q (.bool false) h_54) (Zdq.J15 Q l 0 a0 (l0) 0 h_54))))) (bcase (decide ((x_55:Int) ≥ 0)) (Zcs (Zbf h_54 (.ptr (some (l0,0))) 2) fun cs_239=>Zaj cs_239 fun c_240 r_241=>Zci .u8 (some c_240) fun x_242=>Zaj r_241 fun c_243 r_244=>xSl (some c_243) fun a_245 n_246 c_247 e_248=>Zcf r_244 (Zcs (Zbf h_54 (.ptr (some (l,0))) 2) fun cs_249=>Zaj cs_249 fun c_250 r_251=>Zci .u8 (some c_250) fun x_252=>Zaj r_251 fun c_253 r_254=>xSl (some c_253) fun a_255 n_256 c_257 e_258=>Zcf r_254 (Zae pg Zcr [.ptr a0,.agg [.int .u8 x_242,.slice a_245 n_246 c_247 e_248],.agg [.int .u8 x_252,.slice a_255 n_256 c_257 e_258]] h_54 fun v_259 h_260=>
 Zbp (some v_259) fun b_261=>Q (.bool b_261) h_260))) (Zci .u8 (Zad h_54 (.ptr (some (l,0 + 0)))) fun x_262=>Zci .u8 (Zad h_54 (.ptr (some (l0,0 + 0)))) fun x_263=>bcase (!((x_262:Int) == x_263)) (Q (.bool false) h_54) (Zdq.J15 Q l 0 a0 (l0) 0 h_54))))
section
variable {S:Nat→Prop} {i:Nat} {σ:Nat→Option Ty} {F:Nat→Ty}
theorem Zri {Q:QT} (rs:Rsv V12 σ F) (hdom:∀ c u,σ c=some u→V12 c=true∧okL Zro u=true) {h:Zaa} {a b a' b':Ty} {n n':Nat} {va vb:List Zal} (m:Zqi S h i σ) (hSi:∀ j,S j→j < h.length∧j≠i) (hao:okL Zro a=true) (hbo:okL Zro b=true) (hw:Wlk σ n a a') (hw':Wlk σ n' b b') (ra:Zeg S h a va) (rb:Zeg S h b vb)
  (hK:∀ (hX:Zaa) (pa pb:Pt) (ca cb:Nat) (ea eb:Bool),Zaz h.length h hX→hX[h.length]?=some (.cells Zab [.int .u8 (a'.hd:Int),.slice pa a'.ps.length ca ea] false)→hX[h.length + 1]?=some (.cells Zab [.int .u8 (b'.hd:Int),.slice pb b'.ps.length cb eb] false) →
   Zeg S hX a' [.int .u8 (a'.hd:Int),.slice pa a'.ps.length ca ea]→Zeg S hX b' [.int .u8 (b'.hd:Int),.slice pb b'.ps.length cb eb]→Zqi S hX i σ→Zrw Q (some (i,0)) h.length (h.length + 1) (Zoq Zfk a'.hd) (Zoq Zfk b'.hd) hX) :
  Zae pg Zcr [.ptr (some (i,0)),.agg va,.agg vb] h Q:=by
 obtain ⟨aa,ca,ea,rfl⟩:=ra.shape
 obtain ⟨ab,cb,eb,rfl⟩:=rb.shape
 have hil:=m.lt
 apply Zdq.call
 simp only [Zaw]
 generalize hh0:h ++ [Zcj.cells Zab [.int .u8 (a.hd:Int),.slice aa a.ps.length ca ea] false]=h0
 generalize hh1:h0 ++ [Zcj.cells Zab [.int .u8 (b.hd:Int),.slice ab b.ps.length cb eb] false]=h1
 have s0:Zaz h.length h h0:=by rw [← hh0]; exact Zaq
 have s1:Zaz h0.length h0 h1:=by rw [← hh1]; exact Zaq
 have l0:h0.length=h.length + 1:=by rw [← hh0]; simp
 have l1:h1.length=h.length + 2:=by rw [← hh1]; simp [l0]
 have oa0:h0[h.length]?=some (.cells Zab [.int .u8 (a.hd:Int),.slice aa a.ps.length ca ea] false):=by rw [← hh0]; simp
 have oa:=s1.get oa0 (Own.lt oa0)
 have ob:h1[h0.length]?=some (.cells Zab [.int .u8 (b.hd:Int),.slice ab b.ps.length cb eb] false):=by rw [← hh1]; simp
 have S1:=s0.cat s1
 have hSi':∀ hX:Zaa,h.length≤hX.length→∀ j,S j→j < hX.length∧j≠i:=fun hX hl j hj=>⟨by have:=(hSi j hj).1; omega,(hSi j hj).2⟩
 rw [Zcg oa]
 simp only [Zas,Zai,Zar,Zam,Zag]
 refine (Zrh (m.same S1) (hSi' h1 (by omega)) hdom hao hw (ra.same S1)).mono ?_
 rintro v h2 ⟨s2,va',rfl,ra2⟩
 obtain ⟨pa,pca,pea,rfl⟩:=ra2.shape
 have oa2:=s2.get oa (Own.lt oa)
 have ob2:=s2.get ob (Own.lt ob)
 have l2:=s2.le
 simp only [Zdf,Zai,Zar,Zam,Zag]
 rw [Zbl oa2 (by simp)]
 simp only [Zau,putRow,List.take_zero,List.length_cons,List.length_nil,List.drop_succ_cons,List.drop_zero,List.drop_nil,List.cons_append,List.nil_append,List.append_nil,Nat.zero_add]
 generalize hh3:h2.set h.length (.cells Zab [.int .u8 (a'.hd:Int),.slice pa a'.ps.length pca pea] false)=h3
 have oa3:h3[h.length]?=some (.cells Zab [.int .u8 (a'.hd:Int),.slice pa a'.ps.length pca pea] false):=by rw [← hh3]; exact Zck oa2
 have l3:h3.length=h2.length:=by rw [← hh3]; simp
 have k3:∀ j,j≠h.length→h3[j]?=h2[j]?:=fun j hj=>by rw [← hh3]; exact Zbw fun e=>hj e.symm
 have ob3:h3[h0.length]?=some (.cells Zab [.int .u8 (b.hd:Int),.slice ab b.ps.length cb eb] false):=by rw [k3 _ (by omega)]; exact ob2
 have S3:Zaz h.length h h3:=⟨by omega,fun j hj=>by rw [k3 j (by omega),s2.eq j (by omega)]; exact S1.eq j hj⟩
 rw [Zcg ob3]
 simp only [Zas,Zai,Zar,Zam,Zag]
 refine (Zrh (m.same S3) (hSi' h3 (by omega)) hdom hbo hw' (rb.same S3)).mono ?_
 rintro v h4 ⟨s4,vb',rfl,rb4⟩
 obtain ⟨pb,pcb,peb,rfl⟩:=rb4.shape
 have oa4:=s4.get oa3 (Own.lt oa3)
 have ob4:=s4.get ob3 (Own.lt ob3)
 have l4:=s4.le
 simp only [Zdf,Zai,Zar,Zam,Zag]
 rw [Zbl ob4 (by simp)]
 simp only [Zau,putRow,List.take_zero,List.length_cons,List.length_nil,List.drop_succ_cons,List.drop_zero,List.drop_nil,List.cons_append,List.nil_append,List.append_nil,Nat.zero_add]
 generalize hh5:h4.set h0.length (.cells Zab [.int .u8 (b'.hd:Int),.slice pb b'.ps.length pcb peb] false)=h5
 have ob5:h5[h0.length]?=some (.cells Zab [.int .u8 (b'.hd:Int),.slice pb b'.ps.length pcb peb] false):=by rw [← hh5]; exact Zck ob4
 have l5:h5.length=h4.length:=by rw [← hh5]; simp
 have k5:∀ j,j≠h0.length→h5[j]?=h4[j]?:=fun j hj=>by rw [← hh5]; exact Zbw fun e=>hj e.symm
 have oa5:h5[h.length]?=some (.cells Zab [.int .u8 (a'.hd:Int),.slice pa a'.ps.length pca pea] false):=by rw [k5 _ (by omega)]; exact oa4
 have S5:Zaz h.length h h5:=⟨by omega,fun j hj=>by rw [k5 j (by omega),s4.eq j (by omega)]; exact S3.eq j hj⟩
 have ra5:Zeg S h5 a' [.int .u8 (a'.hd:Int),.slice pa a'.ps.length pca pea]:=ra2.agree fun j hj=>by
  have:=(hSi j hj).1
  rw [S5.eq j this,← S3.eq j this,k3 j (by omega)]
 have rb5:Zeg S h5 b' [.int .u8 (b'.hd:Int),.slice pb b'.ps.length pcb peb]:=rb4.agree fun j hj=>k5 j (by have:=(hSi j hj).1; omega)
 simp only [Zak oa5,Zak ob5,List.getElem?_cons_zero,Zam]
 refine (Zkm a'.hd).mono ?_
 rintro v h6 ⟨rfl,rfl⟩
 simp only [Zam]
 refine ⟨by rw [Zak ob5]; rfl,?_⟩
 refine (Zkm b'.hd).mono ?_
 rintro v h7 ⟨rfl,rfl⟩
 simp only [Zam]
 rw [l0] at ob5
 refine ⟨by trivial,?_⟩
 have key:=hK h7 pa pb pca pcb pea peb S5 oa5 ob5 ra5 rb5 (m.same S5)
 unfold Zrw at key
 rw [l0]
 simp only [Zak oa5,Zak ob5,Nat.zero_add,List.getElem?_cons_zero,Zam] at key ⊢
 exact key
theorem Zra {P:Ty→Prop} (rs:Rsv V12 σ F) (hi:Inc Zqp V12 σ) (hP:∀ t,P t→okL Zro t=true) (hσ:∀ c t,σ c=some t→P (.k c)∧P t) {h:Zaa} {a b b':Ty} {x n n':Nat} {va vb:List Zal} (m:Zqi S h i σ) (hSi:∀ j,S j→j < h.length∧j≠i)
  (ha:P a) (hb:P b) (hx:P (.k x)) (hb':P b') (hw:Wlk σ n a (.k x)) (hw':Wlk σ n' b b') (hxv:V12 x=true) (hle:V12 b'.hd=true→Zqp x < Zqp b'.hd) (ra:Zeg S h a va) (rb:Zeg S h b vb) :
  Zae pg Zcr [.ptr (some (i,0)),.agg va,.agg vb] h (Zoa S i P σ F a b h):=by
 have hdom:∀ c u,σ c=some u→V12 c=true∧okL Zro u=true:=fun c u h=>⟨rs.dom c u h,hP u (hσ c u h).2⟩
 have hx0:σ x=none:=hw.end_ x rfl
 have hbend:=hw'.end_
 have hbok:=hP b' hb'
 refine Zae.mono (Q:=Zoa S i P σ F (.k x) b' h) ?_ (fun v h' u=>u.walk rs hw hw')
 refine Zri rs hdom m hSi (hP a ha) (hP b hb) hw hw' ra rb fun hX pa pb ca cb ea eb S5 oa ob ra5 rb5 mX=>?_
 obtain ⟨k,hk,hkv,hix⟩:=Znp hxv
 have hrk:Zqp x=k:=by unfold Zqp; rw [hix]; rfl
 have hbc:∀ c,b'=.k c→σ c=none∧c≠x:=fun c e=>⟨hbend c e,fun e'=>by
  subst e'; subst e
  have:=hle (by simpa [Ty.hd] using hxv)
  simp [Ty.hd] at this⟩
 have hSX:∀ j,S j→j < hX.length∧j≠i:=fun j hj=>⟨by have:=(hSi j hj).1; have:=S5.le; omega,(hSi j hj).2⟩
 have hil:=m.lt
 have fin:∀ (Q:QT),(∀ v h',Zoa S i P σ F (.k x) b' h v h'→Q v h')→(Zci .u8 (Zad hX (.ptr (some (h.length,0 + 0)))) fun x_56=>Zcs (Zbf hX (.ptr (some (h.length + 1,0))) 2) fun cs_57=>Zaj cs_57 fun c_58 r_59=>Zci .u8 (some c_58) fun x_60=>Zaj r_59 fun c_61 r_62=>xSl (some c_61) fun a_63 n_64 c_65 e_66=>Zcf r_62 (Zae pg Zcx [.ptr (some (i,0)),.int .u8 x_56,.agg [.int .u8 x_60,.slice a_63 n_64 c_65 e_66]] hX fun v_67 h_68=>
   Zbp (some v_67) fun b_69=>bcase b_69 (Q (.bool false) h_68) (Zba (some (i,0)) fun i_70 o_71=>Zcs (Zbf h_68 (.ptr (some (h.length + 1,0))) 2) fun cs_72=>Zaj cs_72 fun c_73 r_74=>Zci .u8 (some c_73) fun x_75=>Zaj r_74 fun c_76 r_77=>xSl (some c_76) fun a_78 n_79 c_80 e_81=>Zcf r_77 ((0≤((k:Nat):Int)∧((k:Nat):Int) < (12:Nat))∧(Zch (Zbe h_68 (.ptr (some (i_70,o_71 + (Int.toNat (k:Int)) * 2))) [.int .u8 x_75,.slice a_78 n_79 c_80 e_81]) fun h_82=>Q (.bool true) h_82))))):=by
  intro Q hQ
  rw [Zcg ob]
  simp only [Zak oa,Nat.zero_add,List.getElem?_cons_zero,Zam,Zas,Zai,Zar,Zag]
  refine (Ybw rs hdom (v:=x) hxv hx0 _ (Nat.le_refl _) mX hSX hbok rb5).mono ?_
  rintro v h6 ⟨rfl,s6⟩
  have K6:Zfv i h h6:=⟨(S5.cat s6).le,fun j hj _=>(S5.cat s6).eq j hj⟩
  simp only [Zah]
  refine Zds (fun ho=>?_) (fun ho=>?_)
  ·refine hQ _ _ ⟨K6,.inr ⟨rfl,fun θ hs he=>Yjz rs hx0 hxv hbc ho θ ⟨hs,?_⟩⟩⟩
   rw [← he,sb,if_pos hxv]
  ·have ob6:=s6.get ob (Own.lt ob)
   rw [Zcg ob6]
   obtain ⟨h7,hst,K7,m7⟩:=(mX.same s6).put (fun j hj=>(hSi j hj).2) hkv (rb5.same s6)
   simp only [Zat,Zas,Zai,Zar,Zam,Zag,Int.toNat_natCast]
   rw [hst]
   simp only [Zau]
   obtain ⟨r2,hsol⟩:=rs.bind hx0 hxv hbc ho
   refine ⟨by omega,hQ _ _ ⟨K6.trans K7,.inl ⟨rfl,_,_,m7,r2,fun θ=>?_,hi.bind fun d hd hdv=>?_,fun c t hc=>?_,.inr (Ync hx0 (List.mem_of_getElem? hkv))⟩⟩⟩
   ·rw [hsol θ,sb,if_pos hxv]
   ·have:=hle (by rw [hd]; exact hdv)
    rw [hd] at this; exact this
   ·unfold upd at hc
    split at hc
    ·rename_i e; cases hc; rw [e]; exact ⟨hx,hb'⟩
    ·exact hσ c t hc
 unfold Zrw
 have hix':Zoq Zfk (Ty.k x).hd=(k:Int):=hix
 rw [hix']
 refine Zan (fun _=>?_) (fun h=>absurd (by omega:(k:Int) ≥ 0) h)
 cases hv:V12 b'.hd with
 | false=>
  rw [Zti hbok hv]
  refine Zej (fun h=>by omega) (fun _=>?_)
  refine Zan (fun _=>?_) (fun h=>absurd (by omega:(k:Int) ≥ 0) h)
  refine Zan (fun _=>fin _ fun v h' u=>u) (fun h=>absurd (by omega) h)
 | true=>
  obtain ⟨k',hk',hkv',hix2⟩:=Znp hv
  have hrk':Zqp b'.hd=k':=by unfold Zqp; rw [hix2]; rfl
  have hlt:=hle hv
  rw [hix2]
  refine Zej (fun h=>by omega) (fun _=>?_)
  refine Zan (fun _=>?_) (fun h=>absurd (by omega:(k:Int) ≥ 0) h)
  refine Zan (fun h=>by omega) (fun _=>?_)
  refine Zan (fun _=>fin _ fun v h' u=>u) (fun h=>absurd (by omega) h)
end
end Go.Sim

set_option linter.unusedVariables false
set_option linter.unusedSimpArgs false
set_option maxRecDepth 20000
namespace Go.Sim
open Go Go.RowKit

theorem Yfs {i:Nat} {h h':Zaa} (s:Zaz h.length h h'):Zfv i h h':=⟨s.le,fun j hj _=>s.eq j hj⟩
theorem Ylm {h h':Zaa} {i j:Nat} {x:Zcj} (K:Zfv i h h') (hj:h[j]?=some x) (hi:j≠i):h'[j]?=some x:=by rw [K.eq j (Own.lt hj) hi]; exact hj
section
variable {S:Nat→Prop} {i:Nat} {P:Ty→Prop}
theorem Zoa.base {σ:Nat→Option Ty} {F:Nat→Ty} {a b:Ty} {h hX h':Zaa} {v:Zal} (s:Zaz h.length h hX) (u:Zoa S i P σ F a b hX v h'):Zoa S i P σ F a b h v h':=⟨(Yfs s).trans u.1,u.2⟩
theorem Ygq (hP:∀ t,P t→okL Zro t=true) (hPs:∀ t,P t→∀ p∈t.ps,P p):∀ (U K:Nat) {σ:Nat→Option Ty} {F:Nat→Ty} {h:Zaa} {a b:Ty} {va vb:List Zal},unb Zfk σ≤U→(sb V12 F a).size≤K→Rsv V12 σ F→Inc Zqp V12 σ→(∀ c t,σ c=some t→P (.k c)∧P t) →
  Zqi S h i σ→(∀ j,S j→j < h.length∧j≠i)→P a→P b→Zeg S h a va→Zeg S h b vb→Zae pg Zcr [.ptr (some (i,0)),.agg va,.agg vb] h (Zoa S i P σ F a b h):=by
 intro U
 induction U using Nat.strongRecOn with
 | ind U ihU=>
 intro K
 induction K using Nat.strongRecOn with
 | ind K ihK=>
 intro σ F h a b va vb hU hK rs hi hσ m hSi ha hb ra rb
 have hdom:∀ c u,σ c=some u→V12 c=true∧okL Zro u=true:=fun c u h=>⟨rs.dom c u h,hP u (hσ c u h).2⟩
 obtain ⟨n,a',hw,ha',heqa⟩:=rs.walked P (fun c t h=>(hσ c t h).2) ha
 obtain ⟨n',b',hw',hb',heqb⟩:=rs.walked P (fun c t h=>(hσ c t h).2) hb
 have hao:=hP a' ha'
 have hbo:=hP b' hb'
 have haend:=hw.end_
 have hbend:=hw'.end_
 have hil:=m.lt
 cases hva:V12 a'.hd with
 | true=>
  have hak:=Zno hao hva
  obtain ⟨k,hk,hkv,hix⟩:=Znp hva
  have hrk:Zqp a'.hd=k:=by unfold Zqp; rw [hix]; rfl
  cases hvb:V12 b'.hd with
  | false=>
   rw [hak] at hw
   exact Zra rs hi hP hσ m hSi ha hb (by rw [← hak]; exact ha') hb' hw hw' hva (fun h=>by rw [hvb] at h; cases h) ra rb
  | true=>
   have hbk:=Zno hbo hvb
   obtain ⟨k',hk',hkv',hix'⟩:=Znp hvb
   have hrk':Zqp b'.hd=k':=by unfold Zqp; rw [hix']; rfl
   rcases Nat.lt_trichotomy k k' with hlt | heq | hgt
   ·rw [hak] at hw
    exact Zra rs hi hP hσ m hSi ha hb (by rw [← hak]; exact ha') hb' hw hw' hva (fun _=>by omega) ra rb
   ·have hab:a'=b':=by
     rw [heq,hkv'] at hkv
     rw [hak,hbk,Option.some.inj hkv]
    refine Zae.mono (Q:=Zoa S i P σ F a' b' h) ?_ (fun v h' u=>u.walk rs hw hw')
    refine Zri rs hdom m hSi (hP a ha) (hP b hb) hw hw' ra rb fun hX pa pb ca cb ea eb S5 oa ob ra5 rb5 mX=>?_
    unfold Zrw
    rw [hix,hix']
    refine Zan (fun _=>?_) (fun h=>absurd (by omega:(k:Int) ≥ 0) h)
    refine Zej (fun _=>?_) (fun h=>absurd (by omega) h)
    exact ⟨Yfs S5,.inl ⟨rfl,σ,F,mX,rs,fun θ=>⟨fun h=>⟨h,by rw [hab]⟩,And.left⟩,hi,hσ,.inl ⟨rfl,rfl⟩⟩⟩
   ·refine Zae.mono (Q:=Zoa S i P σ F a' b' h) ?_ (fun v h' u=>u.walk rs hw hw')
    refine Zri rs hdom m hSi (hP a ha) (hP b hb) hw hw' ra rb fun hX pa pb ca cb ea eb S5 oa ob ra5 rb5 mX=>?_
    unfold Zrw
    rw [hix,hix']
    refine Zan (fun _=>?_) (fun h=>absurd (by omega:(k:Int) ≥ 0) h)
    refine Zej (fun h=>by omega) (fun _=>?_)
    refine Zan (fun _=>?_) (fun h=>absurd (by omega:(k:Int) ≥ 0) h)
    refine Zan (fun h=>by omega) (fun _=>?_)
    refine Zan (fun h=>by omega) (fun _=>?_)
    refine Zan (fun _=>?_) (fun h=>absurd (by omega) h)
    rw [Zcg oa,Zcg ob]
    simp only [Zas,Zai,Zar,Zam,Zag]
    have hb2:=hb'
    rw [hbk] at hb2
    have wb:Wlk σ 0 b' (.k b'.hd):=by rw [← hbk]; exact .stop hbend
    refine (Zra (S:=S) (va:=[.int .u8 (b'.hd:Int),.slice pb b'.ps.length cb eb]) (vb:=[.int .u8 (a'.hd:Int),.slice pa a'.ps.length ca ea]) rs hi hP hσ mX (fun j hj=>⟨by have:=(hSi j hj).1; have:=S5.le; omega,(hSi j hj).2⟩) hb' ha' hb2 ha' wb (.stop haend) hvb (fun _=>by omega) rb5 ra5).mono ?_
    rintro v h6 u
    have hu:=u.symm.base S5
    obtain ⟨_,⟨rfl,_⟩ | ⟨rfl,_⟩⟩:=id u
    ·simp only [Zah]; exact hu
    ·simp only [Zah]; exact hu
 | false=>
  refine Zae.mono (Q:=Zoa S i P σ F a' b' h) ?_ (fun v h' u=>u.walk rs hw hw')
  refine Zri rs hdom m hSi (hP a ha) (hP b hb) hw hw' ra rb fun hX pa pb ca cb ea eb S5 oa ob ra5 rb5 mX=>?_
  have hSX:∀ j,S j→j < hX.length∧j≠i:=fun j hj=>⟨by have:=(hSi j hj).1; have:=S5.le; omega,(hSi j hj).2⟩
  unfold Zrw
  rw [Zti hao hva]
  refine Zan (fun h=>by omega) (fun _=>?_)
  refine Zan (fun h=>by omega) (fun _=>?_)
  cases hvb:V12 b'.hd with
  | true=>
   have hbk:=Zno hbo hvb
   obtain ⟨k',hk',hkv',hix'⟩:=Znp hvb
   rw [hix']
   refine Zan (fun _=>?_) (fun h=>absurd (by omega) h)
   rw [Zcg oa,Zcg ob]
   simp only [Zas,Zai,Zar,Zam,Zag]
   have hb2:=hb'
   rw [hbk] at hb2
   have wb:Wlk σ 0 b' (.k b'.hd):=by rw [← hbk]; exact .stop hbend
   refine (Zra (S:=S) (va:=[.int .u8 (b'.hd:Int),.slice pb b'.ps.length cb eb]) (vb:=[.int .u8 (a'.hd:Int),.slice pa a'.ps.length ca ea]) rs hi hP hσ mX hSX hb' ha' hb2 ha' wb (.stop haend) hvb (fun h=>by rw [hva] at h; cases h) rb5 ra5).mono ?_
   rintro v h6 u
   have hu:=u.symm.base S5
   obtain ⟨_,⟨rfl,_⟩ | ⟨rfl,_⟩⟩:=id u
   ·simp only [Zah]; exact hu
   ·simp only [Zah]; exact hu
  | false=>
   rw [Zti hbo hvb]
   refine Zan (fun h=>by omega) (fun _=>?_)
   simp only [Zak oa,Zak ob,Nat.zero_add,List.getElem?_cons_zero,Zam]
   refine Zgx (fun hne=>?_) (fun he=>?_)
   ·exact ⟨Yfs S5,.inr ⟨rfl,fun θ _=>Ylt (.inr hva) (.inr hvb) fun e=>hne (by rw [e])⟩⟩
   have hh:a'.hd=b'.hd:=by omega
   have hlen:=Yny hao hbo hh
   have hps2:a'.ps.length≤2:=by cases a' <;> simp [Ty.ps]
   obtain ⟨_,_,_,vas,heqv,rowa,hSa,hval,hvas⟩:=id ra5.parts
   simp only [List.cons.injEq,Zal.slice.injEq,true_and,and_true] at heqv
   obtain ⟨rfl,rfl,rfl⟩:=heqv
   obtain ⟨_,_,_,vbs,heqv,rowb,hSb,hvbl,hvbs⟩:=id rb5.parts
   simp only [List.cons.injEq,Zal.slice.injEq,true_and,and_true] at heqv
   obtain ⟨rfl,rfl,rfl⟩:=heqv
   have hparts:∀ θ:Nat→Ty,sb V12 θ a'=sb V12 θ b' ↔ ∀ (j:Nat) (p q:Ty),a'.ps[j]?=some p→b'.ps[j]?=some q→sb V12 θ p=sb V12 θ q:=fun θ=>Yld (.inr hva) (.inr hvb) hh hlen
   apply Zdq.J15i
   simp only [Zak oa,Nat.zero_add,List.getElem?_cons_succ,List.getElem?_cons_zero,Zag]
   refine Zdq.L16ind (J:=fun (g:Nat) x68 h'=>x68=(g:Int)∧g≤a'.ps.length∧Zfv i hX h'∧∃ σg Fg,Zqi S h' i σg∧Rsv V12 σg Fg∧(∀ θ,Sol V12 σg θ ↔ Sol V12 σ θ∧∀ (j:Nat) (p q:Ty),j < g→a'.ps[j]?=some p→b'.ps[j]?=some q→sb V12 θ p=sb V12 θ q)∧Inc Zqp V12 σg∧(∀ c t,σg c=some t→P (.k c)∧P t)∧((σg=σ∧Fg=F) ∨ unb Zfk σg < unb Zfk σ)) (m:=fun g=>a'.ps.length - g) (hr:=?_) (g:=0)
    (hj:=⟨rfl,by omega,Zfv.refl _ _,σ,F,mX,rs,fun θ=>⟨fun h=>⟨h,fun j p q hj=>by omega⟩,And.left⟩,hi,hσ,.inl ⟨rfl,rfl⟩⟩)
   rintro g x68 h3 ⟨rfl,hg,K3,σg,Fg,mg,rg,hsol,hig,hσg,hcase⟩ R hR
   unfold Zdq.L16t
   have hX5:=S5.le
   refine Zan (fun hlt=>?_) (fun hge=>?_)
   ·have hga:g < a'.ps.length:=by omega
    have hgb:g < b'.ps.length:=by omega
    have oa3:=Ylm K3 oa (by omega)
    have ob3:=Ylm K3 ob (by omega)
    obtain ⟨ja,ofa,a3,c3,e3,rfl,hra,hka⟩:=Zeg.get (rowa.keepAt (i:=i) (fun j o h0 e=>(hSi j (hSa j o (by omega) e)).2) K3) hval (fun k w x h1 h2=>(hvas k w x h1 h2).keep fun j hj hl=>K3.eq j hl (hSi j hj).2) hga
    obtain ⟨jb,ofb,a4,c4,e4,rfl,hrb,hkb⟩:=Zeg.get (rowb.keepAt (i:=i) (fun j o h0 e=>(hSi j (hSb j o (by omega) e)).2) K3) hvbl (fun k w x h1 h2=>(hvbs k w x h1 h2).keep fun j hj hl=>K3.eq j hl (hSi j hj).2) hgb
    simp only [Zak oa3,Zak ob3,Nat.zero_add,List.getElem?_cons_succ,List.getElem?_cons_zero,Zag,Zat,Int.toNat_natCast,hra,hrb,Zas,Zai,Zar,Zam,true_and]
    have hma:=List.getElem_mem hga
    have hmb:=List.getElem_mem hgb
    have hpg:a'.ps[g]?=some a'.ps[g]:=List.getElem?_eq_getElem hga
    have hqg:b'.ps[g]?=some b'.ps[g]:=List.getElem?_eq_getElem hgb
    have hS3:∀ j,S j→j < h3.length∧j≠i:=fun j hj=>⟨by have:=(hSX j hj).1; have:=K3.le; omega,(hSi j hj).2⟩
    have hrec:Zae pg Zcr [.ptr (some (i,0)),.agg [.int .u8 (a'.ps[g].hd:Int),.slice a3 a'.ps[g].ps.length c3 e3],.agg [.int .u8 (b'.ps[g].hd:Int),.slice a4 b'.ps[g].ps.length c4 e4]] h3 (Zoa S i P σg Fg a'.ps[g] b'.ps[g] h3):=by
     rcases hcase with ⟨rfl,rfl⟩ | hlt'
     ·have:=Zoe (V:=V12) hma Fg
      rw [heqa] at hK
      exact ihK _ (by omega) hU (Nat.le_refl _) rg hig hσg mg hS3 (hPs a' ha' _ hma) (hPs b' hb' _ hmb) hka hkb
     ·exact ihU (unb Zfk σg) (by omega) _ (Nat.le_refl _) (Nat.le_refl _) rg hig hσg mg hS3 (hPs a' ha' _ hma) (hPs b' hb' _ hmb) hka hkb
    refine ⟨by omega,by omega,hrec.mono ?_⟩
    rintro v h4 ⟨K4,⟨rfl,σ',F',m',r',hsol',hi',hσ',hc'⟩ | ⟨rfl,hno⟩⟩
    ·have oa4:=Ylm K4 oa3 (by omega)
     simp only [Zah,Bool.not_true,Zax,Zak oa4,List.getElem?_cons_succ,List.getElem?_cons_zero,true_and]
     rw [Zbn (by omega)]
     refine hR (g + 1) _ _ (by omega) ⟨rfl,by omega,K3.trans K4,σ',F',m',r',fun θ=>?_,hi',hσ',?_⟩
     ·rw [hsol' θ,hsol θ]
      constructor
      ·rintro ⟨⟨h1,h2⟩,h3⟩
       refine ⟨h1,fun j p q hj hp hq=>?_⟩
       by_cases e:j=g
       ·subst e; rw [hpg] at hp; rw [hqg] at hq; cases hp; cases hq; exact h3
       ·exact h2 j p q (by omega) hp hq
      ·rintro ⟨h1,h2⟩
       exact ⟨⟨h1,fun j p q hj=>h2 j p q (by omega)⟩,h2 g _ _ (by omega) hpg hqg⟩
     ·rcases hc' with ⟨rfl,rfl⟩ | hc'
      ·exact hcase
      ·rcases hcase with ⟨rfl,rfl⟩ | hcase
       ·exact .inr hc'
       ·exact .inr (by omega)
    ·have oa4:=Ylm K4 oa3 (by omega)
     simp only [Zah,Bool.not_false,Zbr,Zak oa4,List.getElem?_cons_succ,List.getElem?_cons_zero,true_and]
     refine ⟨(Yfs S5).trans (K3.trans K4),.inr ⟨rfl,fun θ hs he=>?_⟩⟩
     have hall:=(hparts θ).1 he
     exact hno θ ((hsol θ).2 ⟨hs,fun j p q _=>hall j p q⟩) (hall g _ _ hpg hqg)
   ·apply Zdq.A16x1i
    have:g=a'.ps.length:=by omega
    subst this
    refine ⟨(Yfs S5).trans K3,.inl ⟨rfl,σg,Fg,mg,rg,fun θ=>?_,hig,hσg,hcase⟩⟩
    rw [hsol θ,hparts θ]
    exact and_congr_right fun _=>⟨fun h j p q hp hq=>h j p q (List.getElem?_eq_some_iff.1 hp).1 hp hq,fun h j p q _=>h j p q⟩
end
end Go.Sim

set_option linter.unusedVariables false
set_option linter.unusedSimpArgs false
set_option maxRecDepth 20000
namespace Go.Sim
open Go Go.RowKit

end Go.Sim

set_option linter.unusedVariables false
set_option linter.unusedSimpArgs false
set_option maxRecDepth 20000
namespace Go.Sim
open Go Go.RowKit

theorem Zeg.below {S:Nat→Prop} {h:Zaa}:∀ {t:Ty} {v:List Zal},Zeg S h t v→Zeg (fun j=>S j∧j < h.length) h t v
 | .k d,_,h=>h
 | .u d x,_,⟨j,c,e,r,hv,sj,hj,hr⟩=>⟨j,c,e,r,hv,⟨sj,Own.lt hj⟩,hj,hr.below⟩
 | .w d x y,_,⟨j,c,e,r,r',hv,sj,hj,hr,hr'⟩=>⟨j,c,e,r,r',hv,⟨sj,Own.lt hj⟩,hj,hr.below,hr'.below⟩
theorem Zuj:pg.underlying Zgi=some (.slice Zab):=by kernel_rfl
theorem Yaq:pg.cellsOf Zab=2:=by kernel_rfl
theorem Zzu:pg.okElem Zab=true:=by kernel_rfl
theorem Yan:pg.bytesOf Zab≤127:=Nat.le_of_ble_eq_true (by kernel_rfl)
theorem Zsm {vs:List (List Zal)} (h:∀ v∈vs,v.length=2):vs.flatten.length=vs.length * 2:=by
 rw [List.length_flatten]
 induction vs with
 | nil=>rfl
 | cons v vs ih=>
  have h1:=h v (by simp)
  have h2:=ih (fun x hx=>h x (by simp [hx]))
  simp only [List.map_cons,List.sum_cons,List.length_cons]; omega
end Go.Sim

set_option linter.unusedVariables false
set_option linter.unusedSimpArgs false
set_option maxRecDepth 20000
namespace Go.Sim
open Go Go.RowKit

section
variable {S:Nat→Prop} {i:Nat} {σ:Nat→Option Ty} {F:Nat→Ty}
theorem Yjp (rs:Rsv V12 σ F) (hdom:∀ c u,σ c=some u→V12 c=true∧okL Zro u=true):∀ (N:Nat) {h:Zaa} {t:Ty} {vt:List Zal},(sb V12 F t).size≤N→Zqi S h i σ→(∀ j,S j→j < h.length∧j≠i)→okL Zro t=true→Zeg S h t vt →
  Zae pg Zkh [.ptr (some (i,0)),.agg vt] h fun x h'=>Zaz h.length h h'∧∃ vs,x=.agg vs∧Zeg (fun j=>h.length≤j) h' (sb V12 F t) vs:=by
 intro N
 induction N with
 | zero=>intro h t vt hN; have:=Zrq (sb V12 F t); omega
 | succ N ih=>
  intro h t vt hN m hSi ht r
  obtain ⟨a0,c0,e0,rfl⟩:=r.shape
  obtain ⟨n,u,hw,hu,heq⟩:=rs.walked (fun t=>okL Zro t=true) (fun c t h=>(hdom c t h).2) ht
  have hend:=hw.end_
  rw [heq] at hN ⊢
  obtain ⟨d,hd⟩:∃ d,d=u.hd:=⟨_,rfl⟩
  obtain ⟨T,hT⟩:∃ T,T=sb V12 F u:=⟨_,rfl⟩
  have hTT:T.hd=d∧T.ps=u.ps.map (sb V12 F):=by
   rw [hT,hd]
   cases hv:V12 u.hd with
   | false=>exact Yni (.inr hv)
   | true=>
    have hk:=Zno hu hv
    rw [hk,rs.var (hend _ hk)]
    exact ⟨rfl,rfl⟩
  obtain ⟨hTd,hTp⟩:=hTT
  rw [← hT]
  have hps2:u.ps.length≤2:=by cases u <;> simp [Ty.ps]
  have hil:=m.lt
  apply Zii.call
  simp only [Zaw]
  generalize hh0:h ++ [Zcj.cells Zab [.int .u8 (t.hd:Int),.slice a0 t.ps.length c0 e0] false]=h0
  generalize hh1:h0 ++ [Zcj.cells Zab [.int .u8 0,.slice none 0 0 true] false]=h1
  have s0:Zaz h.length h h0:=by rw [← hh0]; exact Zaq
  have s1:Zaz h0.length h0 h1:=by rw [← hh1]; exact Zaq
  have o0:h0[h.length]?=some (.cells Zab [.int .u8 (t.hd:Int),.slice a0 t.ps.length c0 e0] false):=by rw [← hh0]; simp
  have oa:=s1.get o0 (Own.lt o0)
  have oz:h1[h0.length]?=some (.cells Zab [.int .u8 0,.slice none 0 0 true] false):=by rw [← hh1]; simp
  have S1:=s0.cat s1
  have l0:h0.length=h.length + 1:=by rw [← hh0]; simp
  have l1:h1.length=h.length + 2:=by rw [← hh1]; simp [l0]
  rw [Zcg oa]
  simp only [Zas,Zai,Zar,Zam,Zag]
  refine (Zrh (m.same S1) (fun j hj=>⟨by have:=(hSi j hj).1; omega,(hSi j hj).2⟩) hdom ht hw (r.same S1)).mono ?_
  rintro v h2 ⟨s2,va,rfl,r2⟩
  obtain ⟨at',ct,et,vts,rfl,row2,hSt,hvtl,hvt2⟩:=r2.parts
  have oa2:=s2.get oa (Own.lt oa)
  have oz2:=s2.get oz (Own.lt oz)
  have l2:=s2.le
  simp only [Zdf,Zai,Zar,Zam,Zag]
  rw [Zbl oa2 (by simp)]
  simp only [Zau,putRow,List.take_zero,List.length_cons,List.length_nil,List.drop_succ_cons,List.drop_zero,List.drop_nil,List.cons_append,List.nil_append,List.append_nil,Nat.zero_add]
  generalize hh3:h2.set h.length (.cells Zab [.int .u8 (u.hd:Int),.slice at' u.ps.length ct et] false)=h3
  have oa3:h3[h.length]?=some (.cells Zab [.int .u8 (u.hd:Int),.slice at' u.ps.length ct et] false):=by rw [← hh3]; exact Zck oa2
  have l3:h3.length=h2.length:=by rw [← hh3]; simp
  have k3:∀ j,j≠h.length→h3[j]?=h2[j]?:=fun j hj=>by rw [← hh3]; exact Zbw fun e=>hj e.symm
  have oz3:h3[h0.length]?=some (.cells Zab [.int .u8 0,.slice none 0 0 true] false):=by rw [k3 _ (by omega)]; exact oz2
  have S3:Zaz h.length h h3:=⟨by omega,fun j hj=>by rw [k3 j (by omega),s2.eq j (by omega)]; exact S1.eq j hj⟩
  simp only [Zak oa3,List.getElem?_cons_succ,List.getElem?_cons_zero,Zam]
  generalize hh4:h3 ++ [Zcj.cells Zab [] false]=h4
  have s4:Zaz h3.length h3 h4:=by rw [← hh4]; exact Zaq
  have o4:h4[h3.length]?=some (.cells Zab [] false):=by rw [← hh4]; simp
  have l4:h4.length=h3.length + 1:=by rw [← hh4]; simp
  rw [Zin]
  rw [← hd] at oa3 ⊢
  generalize hhB:h4 ++ [Zcj.cells Zab [.int .u8 (d:Int),.slice (some (h3.length,0)) 0 0 true] false]=hB
  have sB:Zaz h4.length h4 hB:=by rw [← hhB]; exact Zaq
  obtain ⟨oi,hoi⟩:∃ oi,oi=h4.length:=⟨_,rfl⟩
  obtain ⟨rb,hrb⟩:∃ rb,rb=h3.length:=⟨_,rfl⟩
  have oB:hB[oi]?=some (.cells Zab [.int .u8 (d:Int),.slice (some (rb,0)) 0 0 true] false):=by rw [← hhB,hoi,hrb]; simp
  have lB:hB.length=h4.length + 1:=by rw [← hhB]; simp
  have rB:hB[rb]?=some (.cells Zab [] false):=by rw [hrb]; exact sB.get o4 (Own.lt o4)
  have zB:=sB.get (s4.get oz3 (Own.lt oz3)) (by have:=Own.lt oz3; omega)
  have oaB:=sB.get (s4.get oa3 (Own.lt oa3)) (by have:=Own.lt oa3; omega)
  have SB:=(S3.cat s4).cat sB
  rw [← hoi]
  simp only [Zau,Zak oaB,List.getElem?_cons_succ,List.getElem?_cons_zero,Zag]
  have holdS:∀ h':Zaa,Zaz h.length h h'→∀ j,S j→h'[j]?=h2[j]?:=fun h' hS j hj=>by
   have:=(hSi j hj).1
   rw [hS.eq j this,← S1.eq j this,← s2.eq j (by omega)]
  have hold:∀ h':Zaa,Zaz h.length h h'→∀ j o,u.ps.length * 2≠0→at'=some (j,o)→h'[j]?=h2[j]?:=fun h' hS j o h0 ha=>holdS h' hS j (hSt j o (by omega) ha)
  have rowB:=row2
  have hvt:=hvt2
  have hSQ:∀ h':Zaa,h.length≤h'.length→∀ j,S j→j < h'.length∧j≠i:=fun h' hl j hj=>⟨by have:=(hSi j hj).1; omega,(hSi j hj).2⟩
  refine Zii.L4ind (J:=fun (g:Nat) x18 h'=>x18=(g:Int)∧g≤u.ps.length∧Zaz h.length h h'∧hB.length≤h'.length∧h'[h0.length]?=some (.cells Zab [.int .u8 0,.slice none 0 0 true] false) ∧
   ∃ (a:Pt) (cp:Nat) (e:Bool) (vs:List (List Zal)),h'[oi]?=some (.cells Zab [.int .u8 (d:Int),.slice a g cp e] false)∧vs.length=g∧Vec Zab h' a g cp vs.flatten∧(∀ j,a=some (j,0)→j=rb ∨ hB.length≤j) ∧
    ∀ (k:Nat) (v:List Zal) (x:Ty),vs[k]?=some v→u.ps[k]?=some x→Zeg (fun j=>hB.length≤j∧∀ j0,a=some (j0,0)→j≠j0) h' (sb V12 F x) v) (m:=fun g=>u.ps.length - g) (hr:=?_) (g:=0)
   (hj:=⟨rfl,by omega,SB,Nat.le_refl _,zB,some (rb,0),0,true,[],oB,rfl,Vec.mk1 (by simpa using rB),fun j hj=>by cases hj; exact .inl rfl,by simp⟩)
  rintro g x18 h' ⟨rfl,hg,hS,hl4,hz,a,cp,e,vs,ho,hvl,hv,ha,hp⟩ R hR
  unfold Zii.L4t
  have hz2:∀ v∈vs,v.length=2:=fun v hv=>by
   obtain ⟨k,hk,rfl⟩:=List.mem_iff_getElem.1 hv
   exact (hp k vs[k] (u.ps[k]'(by omega)) (List.getElem?_eq_getElem hk) (List.getElem?_eq_getElem (by omega))).len
  refine Zan (fun hlt=>?_) (fun hge=>?_)
  ·have hgt:g < u.ps.length:=by omega
   obtain ⟨jt,oft,a4,c4,e4,rfl,hrt,hkt⟩:=Zeg.get (Yod rowB (by omega) fun j o h0 ha _=>hold h' hS j o h0 ha) hvtl (fun k w x h1 h2=>(hvt k w x h1 h2).agree fun j hj=>holdS h' hS j hj) hgt
   simp only [Zat,Int.toNat_natCast,hrt,Zas,Zai,Zar,Zam,Zag,Zaw]
   rw [Zin]
   generalize hq:h' ++ [Zcj.cells Zab [.int .u8 (u.ps[g].hd:Int),.slice a4 u.ps[g].ps.length c4 e4] false]=hq'
   have sq:Zaz h'.length h' hq':=by rw [← hq]; exact Zaq
   have oq:=sq.get ho (Own.lt ho)
   simp only [Zau,Zak oq,Nat.zero_add,List.getElem?_cons_succ,List.getElem?_cons_zero,Zag]
   rw [← hq,Ygb,hq]
   simp only [Zas,Zai,Zar,Zam,Zag,true_and]
   have hmt:=List.getElem_mem hgt
   have hlq:=sq.le
   have hSle:=hS.le
   have SQ:=hS.cat sq
   refine ⟨by omega,(ih (by have:=Zoe (V:=V12) hmt F; omega) (m.same SQ) (hSQ hq' SQ.le) (Yiy hu _ hmt) (hkt.same sq)).mono ?_⟩
   rintro v h5 ⟨s5,nv,rfl,hn5⟩
   obtain ⟨na,nc,ne,hnv⟩:=hn5.shape
   rw [hnv] at hn5
   have o5:=s5.get oq (Own.lt oq)
   simp only [hnv,Zdf,Zai,Zar,Zam,Zag,Zak o5,List.getElem?_cons_succ,List.getElem?_cons_zero,true_and]
   have hc6:Zad (h5 ++ [Zcj.cells Zab [.int .u8 ((sb V12 F u.ps[g]).hd:Int),.slice na (sb V12 F u.ps[g]).ps.length nc ne] false]) (.ptr (some (oi,1)))=some (.slice a g cp e):=by rw [Zak (Zly o5)]; rfl
   refine ⟨by rw [hc6],?_⟩
   have v5:=(hv.same sq).same s5
   have hl5:=s5.le
   refine v5.pushN Zuj Yaq Zzu Yan (by rw [Zsm hz2]; omega) rfl (by omega) rfl (by omega) (fun h7 hl7 hi7 hk7=>?_)
   simp only [Zag]
   have hz5:=s5.get (sq.get hz (Own.lt hz)) (by have:=Own.lt hz; omega)
   have o7:h7[oi]?=some (.cells Zab [.int .u8 (d:Int),.slice a g cp e] false):=by
    rw [hk7 _ (Own.lt o5) fun j hj=>by rcases ha j hj with hh | hh <;> omega]; exact o5
   rw [Zbl o7 (by simp)]
   simp only [Zau,putRow,List.take_succ_cons,List.take_zero,List.length_cons,List.length_nil,List.drop_succ_cons,List.drop_nil,List.cons_append,List.nil_append,List.append_nil]
   rw [Zbn (by omega)]
   have hS5:=SQ.cat s5
   have h7o:∀ j,j < h5.length→(∀ j0,a=some (j0,0)→j≠j0)→j≠oi→(h7.set oi (Zcj.cells Zab [.int .u8 (d:Int),.slice (some (h5.length + 1,0)) (g + 1) (g + 1) false] false))[j]?=h5[j]?:=fun j hj hne hne2=>by rw [Zbw (by omega),hk7 j hj hne]
   refine hR (g + 1) _ _ (by omega) ⟨rfl,by omega,⟨by simp; omega,fun j hj=>?_⟩,by simp; omega,?_,some (h5.length + 1,0),g + 1,false,vs ++ [[.int .u8 ((sb V12 F u.ps[g]).hd:Int),.slice na (sb V12 F u.ps[g]).ps.length nc ne]],Zck o7,by simp [hvl],Vec.mk1 ?_,fun j hj=>by cases hj; right; omega,?_⟩
   ·rw [h7o j (by omega) (fun j0 hj0=>by rcases ha j0 hj0 with hh | hh <;> omega) (by omega)]; exact hS5.eq j hj
   ·rw [h7o _ (Own.lt hz5) (fun j0 hj0=>by rcases ha j0 hj0 with hh | hh <;> omega) (by omega)]; exact hz5
   ·rw [Zbw (by omega),hi7]; simp
   ·intro k v x hv' hx
    have hkeep:∀ {t':Ty} {v':List Zal},Zeg (fun j=>hB.length≤j∧∀ j0,a=some (j0,0)→j≠j0) h5 t' v'→Zeg (fun j=>hB.length≤j∧∀ j0,(some (h5.length + 1,0):Pt)=some (j0,0)→j≠j0) (h7.set oi (Zcj.cells Zab [.int .u8 (d:Int),.slice (some (h5.length + 1,0)) (g + 1) (g + 1) false] false)) t' v':=by
     intro t' v' hr
     refine Zeg.mono (S:=fun j=>(hB.length≤j∧∀ j0,a=some (j0,0)→j≠j0)∧j < h5.length) (fun j hj=>⟨hj.1.1,fun j0 e0=>by cases e0; have:=hj.2; omega⟩) (hr.below.agree fun j hj=>?_)
     exact h7o j hj.2 hj.1.2 (by have:=hj.1.1; omega)
    by_cases hkl:k < vs.length
    ·rw [List.getElem?_append_left hkl] at hv'
     exact hkeep (((hp k v x hv' hx).same sq).same s5)
    ·rw [List.getElem?_append_right (by omega)] at hv'
     have hk0:k=vs.length:=by
      by_cases e:k - vs.length=0
      ·omega
      ·rw [List.getElem?_eq_none (by simp; omega)] at hv'; cases hv'
     subst hk0
     simp at hv'
     subst hv'
     rw [hvl,List.getElem?_eq_getElem hgt] at hx
     cases hx
     refine hkeep (Zeg.mono (S:=fun j=>hq'.length≤j) (fun j hj=>⟨by omega,fun j0 e0=>?_⟩) hn5)
     have hj0:=(hv.same sq).lt' e0
     omega
  ·apply Zii.A4x0i
   have:g=u.ps.length:=by omega
   subst this
   rw [Zer (o:=0) (n:=2) ho (by simp)]
   simp only [List.drop_zero,List.take_succ_cons,List.take_zero,Zas,Zai,Zar,Zam,Zag]
   rw [Zbl hz (by simp)]
   simp only [Zau]
   rw [Zer (Zck hz) (by simp [putRow])]
   simp only [putRow,List.take_zero,List.nil_append,List.length_cons,List.length_nil,List.cons_append,List.drop_succ_cons,List.drop_zero,List.drop_nil,List.append_nil,List.take_succ_cons,Zas,Zai,Zam,Zag,Zar]
   refine ⟨⟨by simp; exact hS.le,fun j hj=>by rw [Zbw (by omega)]; exact hS.eq j hj⟩,_,rfl,?_⟩
   have hget:∀ j,j≠h0.length→(h'.set h0.length (Zcj.cells Zab [.int .u8 (d:Int),.slice a u.ps.length cp e] false))[j]?=h'[j]?:=fun j hj=>Zbw (fun e=>hj e.symm)
   rw [← hTd]
   rcases hv with ⟨rfl,h0',_,hvs⟩ | ⟨j0,rfl,hj0⟩
   ·-- no parts
    have hps:T.ps=[]:=by rw [hTp,List.eq_nil_of_length_eq_zero h0']; rfl
    have hTk:=Yqn (t:=T) (by rw [hps]; rfl)
    rw [hTk,h0']
    exact ⟨_,_,_,rfl⟩
   ·have hj0n:j0≠h0.length:=by rcases ha j0 rfl with hh | hh <;> omega
    have hS4:=ha j0 rfl
    refine Zeg.make (S:=fun j=>h.length≤j) (t:=T) (j:=j0) (n:=u.ps.length) (c:=cp) (e:=e) (vs:=vs) (by rw [hTp,List.length_map]) (by rcases hS4 with hh | hh <;> omega) (by rw [hTd,hget j0 hj0n]; exact hj0) hvl (fun k w x hw hx=>?_)
    rw [hTp,List.getElem?_map] at hx
    obtain ⟨y,hy,rfl⟩:=Option.map_eq_some_iff.1 hx
    have hr:=hp k w y hw hy
    rw [hTd]
    refine Zeg.mono (S:=fun j=>hB.length≤j∧∀ j1,(some (j0,0):Pt)=some (j1,0)→j≠j1) (fun j hj=>by have:=hj.1; omega) (hr.agree fun j hj=>hget j (by have:=hj.1; omega))
end
theorem Yoc {k:Nat} (h:k < 12):IntKind.wrap .i64 ((k:Int) + 6)=((k + 6:Nat):Int):=by rw [IntWalk.i64_in _ (by omega)]; omega
theorem Ybt:∀ (N:Nat) {S:Nat→Prop} {h:Zaa} {u:Ty} {vt:List Zal},u.size≤N→(∀ j,S j→j < h.length)→u.ok=true→Zeg S h u vt →
  Zae pg Zif [.agg vt] h fun x h'=>Zaz h.length h h'∧∃ vs,x=.agg vs∧Zeg (fun j=>h.length≤j) h' (Zqh u) vs:=by
 intro N
 induction N with
 | zero=>intro S h t vt hN; have:=Zrq t; omega
 | succ N ih=>
  intro S h u vt hN hSi hu r
  obtain ⟨at',ct,et,vts,rfl,row2,hSt,hvtl,hvt2⟩:=r.parts
  obtain ⟨d,hd⟩:∃ d,d=(Zqh u).hd:=⟨_,rfl⟩
  obtain ⟨T,hT⟩:∃ T,T=Zqh u:=⟨_,rfl⟩
  have hTd:T.hd=d:=by rw [hT,hd]
  have hTp:T.ps=u.ps.map Zqh:=by rw [hT]; cases u <;> simp [Zqh,Ty.ps]
  have hdh:d=if Zbc u.hd then Yfu u.hd else u.hd:=by
   rw [hd]
   cases u with
   | k c=>rfl
   | u c x=>
    simp only [Ty.ok,Bool.and_eq_true,Bool.or_eq_true,beq_iff_eq] at hu
    rcases hu.1 with e | e <;> (subst e; rfl)
   | w c x y=>
    simp only [Ty.ok,Bool.and_eq_true,beq_iff_eq] at hu
    have:=hu.1.1
    subst this; rfl
  rw [← hT]
  have hps2:u.ps.length≤2:=by cases u <;> simp [Ty.ps]
  apply Zee.call
  simp only [Zaw]
  generalize hh0:h ++ [Zcj.cells Zab [.int .u8 (u.hd:Int),.slice at' u.ps.length ct et] false]=h0
  generalize hh1:h0 ++ [Zcj.cells Zab [.int .u8 0,.slice none 0 0 true] false]=h1
  have s0:Zaz h.length h h0:=by rw [← hh0]; exact Zaq
  have s1:Zaz h0.length h0 h1:=by rw [← hh1]; exact Zaq
  have o0:h0[h.length]?=some (.cells Zab [.int .u8 (u.hd:Int),.slice at' u.ps.length ct et] false):=by rw [← hh0]; simp
  have oa:=s1.get o0 (Own.lt o0)
  have oz:h1[h0.length]?=some (.cells Zab [.int .u8 0,.slice none 0 0 true] false):=by rw [← hh1]; simp
  have S1:=s0.cat s1
  have l0:h0.length=h.length + 1:=by rw [← hh0]; simp
  have l1:h1.length=h.length + 2:=by rw [← hh1]; simp [l0]
  simp only [Zak oa,Nat.zero_add,List.getElem?_cons_zero,Zam]
  generalize hh4:h1 ++ [Zcj.cells Zab [] false]=h4
  have s4:Zaz h1.length h1 h4:=by rw [← hh4]; exact Zaq
  have o4:h4[h1.length]?=some (.cells Zab [] false):=by rw [← hh4]; simp
  have l4:h4.length=h1.length + 1:=by rw [← hh4]; simp
  rw [Zin]
  generalize hhC:h4 ++ [Zcj.cells Zab [.int .u8 (u.hd:Int),.slice (some (h1.length,0)) 0 0 true] false]=hC
  have sC:Zaz h4.length h4 hC:=by rw [← hhC]; exact Zaq
  obtain ⟨oi,hoi⟩:∃ oi,oi=h4.length:=⟨_,rfl⟩
  obtain ⟨rb,hrb⟩:∃ rb,rb=h1.length:=⟨_,rfl⟩
  have oC:hC[oi]?=some (.cells Zab [.int .u8 (u.hd:Int),.slice (some (rb,0)) 0 0 true] false):=by rw [← hhC,hoi,hrb]; simp
  have lC:hC.length=h4.length + 1:=by rw [← hhC]; simp
  have rC:hC[rb]?=some (.cells Zab [] false):=by rw [hrb]; exact sC.get o4 (Own.lt o4)
  have zC:=sC.get (s4.get oz (Own.lt oz)) (by have:=Own.lt oz; omega)
  have oaC:=sC.get (s4.get oa (Own.lt oa)) (by have:=Own.lt oa; omega)
  have SC:=(S1.cat s4).cat sC
  rw [← hoi]
  simp only [Zau,Zak oaC,List.getElem?_cons_succ,List.getElem?_cons_zero,Zam]
  refine (Zkm u.hd).mono ?_
  rintro v h5 ⟨rfl,rfl⟩
  simp only [Zam]
  have holdS:∀ h':Zaa,Zaz h.length h h'→∀ j,S j→h'[j]?=h[j]?:=fun h' hS j hj=>hS.eq j (hSi j hj)
  have hold:∀ h':Zaa,Zaz h.length h h'→∀ j o,u.ps.length * 2≠0→at'=some (j,o)→h'[j]?=h[j]?:=fun h' hS j o h0 ha=>holdS h' hS j (hSt j o (by omega) ha)
  have rowB:=row2
  have hvt:=hvt2
  have main:∀ hB:Zaa,hB.length=h5.length→(∀ j,j≠oi→hB[j]?=h5[j]?)→hB[oi]?=some (.cells Zab [.int .u8 (d:Int),.slice (some (rb,0)) 0 0 true] false)→Zee.J5 (fun x h'=>Zaz h.length h h'∧∃ vs,x=.agg vs∧Zeg (fun j=>h.length≤j) h' T vs) h.length 0 h0.length 0 oi 0 hB:=by
   intro hB lB kB oB
   have rB:hB[rb]?=some (.cells Zab [] false):=by rw [kB _ (by omega)]; exact rC
   have zB:hB[h0.length]?=some (.cells Zab [.int .u8 0,.slice none 0 0 true] false):=by rw [kB _ (by omega)]; exact zC
   have oaB:hB[h.length]?=some (.cells Zab [.int .u8 (u.hd:Int),.slice at' u.ps.length ct et] false):=by rw [kB _ (by omega)]; exact oaC
   have SB:Zaz h.length h hB:=⟨by omega,fun j hj=>by rw [kB j (by omega)]; exact SC.eq j hj⟩
   apply Zee.J5i
   simp only [Zak oaB,Nat.zero_add,List.getElem?_cons_succ,List.getElem?_cons_zero,Zag]
   refine Zee.L6ind (J:=fun (g:Nat) x18 h'=>x18=(g:Int)∧g≤u.ps.length∧Zaz h.length h h'∧hB.length≤h'.length∧h'[h0.length]?=some (.cells Zab [.int .u8 0,.slice none 0 0 true] false) ∧
    ∃ (a:Pt) (cp:Nat) (e:Bool) (vs:List (List Zal)),h'[oi]?=some (.cells Zab [.int .u8 (d:Int),.slice a g cp e] false)∧vs.length=g∧Vec Zab h' a g cp vs.flatten∧(∀ j,a=some (j,0)→j=rb ∨ hB.length≤j) ∧
     ∀ (k:Nat) (v:List Zal) (x:Ty),vs[k]?=some v→u.ps[k]?=some x→Zeg (fun j=>hB.length≤j∧∀ j0,a=some (j0,0)→j≠j0) h' (Zqh x) v) (m:=fun g=>u.ps.length - g) (hr:=?_) (g:=0)
    (hj:=⟨rfl,by omega,SB,Nat.le_refl _,zB,some (rb,0),0,true,[],oB,rfl,Vec.mk1 (by simpa using rB),fun j hj=>by cases hj; exact .inl rfl,by simp⟩)
   rintro g x18 h' ⟨rfl,hg,hS,hl4,hz,a,cp,e,vs,ho,hvl,hv,ha,hp⟩ R hR
   unfold Zee.L6t
   have hz2:∀ v∈vs,v.length=2:=fun v hv=>by
    obtain ⟨k,hk,rfl⟩:=List.mem_iff_getElem.1 hv
    exact (hp k vs[k] (u.ps[k]'(by omega)) (List.getElem?_eq_getElem hk) (List.getElem?_eq_getElem (by omega))).len
   refine Zan (fun hlt=>?_) (fun hge=>?_)
   ·have hgt:g < u.ps.length:=by omega
    obtain ⟨jt,oft,a4,c4,e4,rfl,hrt,hkt⟩:=Zeg.get (Yod rowB (by omega) fun j o h0 ha _=>hold h' hS j o h0 ha) hvtl (fun k w x h1 h2=>(hvt k w x h1 h2).agree fun j hj=>holdS h' hS j hj) hgt
    simp only [Zat,Int.toNat_natCast,hrt,Zas,Zai,Zar,Zam,Zag,Zaw]
    rw [Zin]
    generalize hq:h' ++ [Zcj.cells Zab [.int .u8 (u.ps[g].hd:Int),.slice a4 u.ps[g].ps.length c4 e4] false]=hq'
    have sq:Zaz h'.length h' hq':=by rw [← hq]; exact Zaq
    have oq:=sq.get ho (Own.lt ho)
    simp only [Zau,Zak oq,Nat.zero_add,List.getElem?_cons_succ,List.getElem?_cons_zero,Zag]
    rw [← hq,Ygb,hq]
    simp only [Zas,Zai,Zar,Zam,Zag,true_and]
    have hmt:=List.getElem_mem hgt
    have hlq:=sq.le
    have hSle:=hS.le
    have SQ:=hS.cat sq
    refine ⟨by omega,(ih (S:=S) (by have:=Ty.size_part hmt; omega) (fun j hj=>by have:=hSi j hj; have:=SQ.le; omega) (Ty.ok_ps hu _ hmt) (hkt.same sq)).mono ?_⟩
    rintro v h5 ⟨s5,nv,rfl,hn5⟩
    obtain ⟨na,nc,ne,hnv⟩:=hn5.shape
    rw [hnv] at hn5
    have o5:=s5.get oq (Own.lt oq)
    simp only [hnv,Zdf,Zai,Zar,Zam,Zag,Zak o5,List.getElem?_cons_succ,List.getElem?_cons_zero,true_and]
    have hc6:Zad (h5 ++ [Zcj.cells Zab [.int .u8 ((Zqh u.ps[g]).hd:Int),.slice na (Zqh u.ps[g]).ps.length nc ne] false]) (.ptr (some (oi,1)))=some (.slice a g cp e):=by rw [Zak (Zly o5)]; rfl
    refine ⟨by rw [hc6],?_⟩
    have v5:=(hv.same sq).same s5
    have hl5:=s5.le
    refine v5.pushN Zuj Yaq Zzu Yan (by rw [Zsm hz2]; omega) rfl (by omega) rfl (by omega) (fun h7 hl7 hi7 hk7=>?_)
    simp only [Zag]
    have hz5:=s5.get (sq.get hz (Own.lt hz)) (by have:=Own.lt hz; omega)
    have o7:h7[oi]?=some (.cells Zab [.int .u8 (d:Int),.slice a g cp e] false):=by
     rw [hk7 _ (Own.lt o5) fun j hj=>by rcases ha j hj with hh | hh <;> omega]; exact o5
    rw [Zbl o7 (by simp)]
    simp only [Zau,putRow,List.take_succ_cons,List.take_zero,List.length_cons,List.length_nil,List.drop_succ_cons,List.drop_nil,List.cons_append,List.nil_append,List.append_nil]
    rw [Zbn (by omega)]
    have hS5:=SQ.cat s5
    have h7o:∀ j,j < h5.length→(∀ j0,a=some (j0,0)→j≠j0)→j≠oi→(h7.set oi (Zcj.cells Zab [.int .u8 (d:Int),.slice (some (h5.length + 1,0)) (g + 1) (g + 1) false] false))[j]?=h5[j]?:=fun j hj hne hne2=>by rw [Zbw (by omega),hk7 j hj hne]
    refine hR (g + 1) _ _ (by omega) ⟨rfl,by omega,⟨by simp; omega,fun j hj=>?_⟩,by simp; omega,?_,some (h5.length + 1,0),g + 1,false,vs ++ [[.int .u8 ((Zqh u.ps[g]).hd:Int),.slice na (Zqh u.ps[g]).ps.length nc ne]],Zck o7,by simp [hvl],Vec.mk1 ?_,fun j hj=>by cases hj; right; omega,?_⟩
    ·rw [h7o j (by omega) (fun j0 hj0=>by rcases ha j0 hj0 with hh | hh <;> omega) (by omega)]; exact hS5.eq j hj
    ·rw [h7o _ (Own.lt hz5) (fun j0 hj0=>by rcases ha j0 hj0 with hh | hh <;> omega) (by omega)]; exact hz5
    ·rw [Zbw (by omega),hi7]; simp
    ·intro k v x hv' hx
     have hkeep:∀ {t':Ty} {v':List Zal},Zeg (fun j=>hB.length≤j∧∀ j0,a=some (j0,0)→j≠j0) h5 t' v'→Zeg (fun j=>hB.length≤j∧∀ j0,(some (h5.length + 1,0):Pt)=some (j0,0)→j≠j0) (h7.set oi (Zcj.cells Zab [.int .u8 (d:Int),.slice (some (h5.length + 1,0)) (g + 1) (g + 1) false] false)) t' v':=by
      intro t' v' hr
      refine Zeg.mono (S:=fun j=>(hB.length≤j∧∀ j0,a=some (j0,0)→j≠j0)∧j < h5.length) (fun j hj=>⟨hj.1.1,fun j0 e0=>by cases e0; have:=hj.2; omega⟩) (hr.below.agree fun j hj=>?_)
      exact h7o j hj.2 hj.1.2 (by have:=hj.1.1; omega)
     by_cases hkl:k < vs.length
     ·rw [List.getElem?_append_left hkl] at hv'
      exact hkeep (((hp k v x hv' hx).same sq).same s5)
     ·rw [List.getElem?_append_right (by omega)] at hv'
      have hk0:k=vs.length:=by
       by_cases e:k - vs.length=0
       ·omega
       ·rw [List.getElem?_eq_none (by simp; omega)] at hv'; cases hv'
      subst hk0
      simp at hv'
      subst hv'
      rw [hvl,List.getElem?_eq_getElem hgt] at hx
      cases hx
      refine hkeep (Zeg.mono (S:=fun j=>hq'.length≤j) (fun j hj=>⟨by omega,fun j0 e0=>?_⟩) hn5)
      have hj0:=(hv.same sq).lt' e0
      omega
   ·apply Zee.A6x0i
    have:g=u.ps.length:=by omega
    subst this
    rw [Zer (o:=0) (n:=2) ho (by simp)]
    simp only [List.drop_zero,List.take_succ_cons,List.take_zero,Zas,Zai,Zar,Zam,Zag]
    rw [Zbl hz (by simp)]
    simp only [Zau]
    rw [Zer (Zck hz) (by simp [putRow])]
    simp only [putRow,List.take_zero,List.nil_append,List.length_cons,List.length_nil,List.cons_append,List.drop_succ_cons,List.drop_zero,List.drop_nil,List.append_nil,List.take_succ_cons,Zas,Zai,Zam,Zag,Zar]
    refine ⟨⟨by simp; exact hS.le,fun j hj=>by rw [Zbw (by omega)]; exact hS.eq j hj⟩,_,rfl,?_⟩
    have hget:∀ j,j≠h0.length→(h'.set h0.length (Zcj.cells Zab [.int .u8 (d:Int),.slice a u.ps.length cp e] false))[j]?=h'[j]?:=fun j hj=>Zbw (fun e=>hj e.symm)
    rw [← hTd]
    rcases hv with ⟨rfl,h0',_,hvs⟩ | ⟨j0,rfl,hj0⟩
    ·-- no parts
     have hps:T.ps=[]:=by rw [hTp,List.eq_nil_of_length_eq_zero h0']; rfl
     have hTk:=Yqn (t:=T) (by rw [hps]; rfl)
     rw [hTk,h0']
     exact ⟨_,_,_,rfl⟩
    ·have hj0n:j0≠h0.length:=by rcases ha j0 rfl with hh | hh <;> omega
     have hS4:=ha j0 rfl
     refine Zeg.make (S:=fun j=>h.length≤j) (t:=T) (j:=j0) (n:=u.ps.length) (c:=cp) (e:=e) (vs:=vs) (by rw [hTp,List.length_map]) (by rcases hS4 with hh | hh <;> omega) (by rw [hTd,hget j0 hj0n]; exact hj0) hvl (fun k w x hw hx=>?_)
     rw [hTp,List.getElem?_map] at hx
     obtain ⟨y,hy,rfl⟩:=Option.map_eq_some_iff.1 hx
     have hr:=hp k w y hw hy
     rw [hTd]
     refine Zeg.mono (S:=fun j=>hB.length≤j∧∀ j1,(some (j0,0):Pt)=some (j1,0)→j≠j1) (fun j hj=>by have:=hj.1; omega) (hr.agree fun j hj=>hget j (by have:=hj.1; omega))
  cases hv:Zbc u.hd with
  | true=>
   obtain ⟨k,hk6,hkv,hix⟩:=Zyy hv
   rw [hv,if_pos rfl] at hdh
   rw [hix]
   refine Zan (fun _=>?_) (fun h=>absurd (by omega) h)
   rw [Yoc (by omega)]
   unfold Zjy
   refine ⟨⟨by omega,by simp; omega⟩,?_⟩
   have hb:([88,89,90,120,121,122,49,50,51,52,53,54]:List Nat).getD (Int.toNat ((k + 6:Nat):Int)) 0=d:=by
    rw [Int.toNat_natCast,hdh]
    match k,hk6,hkv with
    | 0,_,e | 1,_,e | 2,_,e | 3,_,e | 4,_,e | 5,_,e=>simp [Zel] at e; rw [← e]; rfl
   rw [hb]
   show Zch (Zbe h5 (.ptr (some (oi,0))) [.int .u8 (d:Int)]) fun h_11=>Zee.J5 _ _ _ _ _ _ _ h_11
   rw [Zbl oC (by simp)]
   simp only [Zau,putRow,List.take_zero,List.length_cons,List.length_nil,List.drop_succ_cons,List.drop_zero,List.drop_nil,List.cons_append,List.nil_append,List.append_nil,Nat.zero_add]
   exact main _ (by simp) (fun j hj=>Zbw fun e=>hj e.symm) (Zck oC)
  | false=>
   rw [hv] at hdh
   simp only [Bool.false_eq_true,if_false] at hdh
   rw [Zyw hu hv]
   refine Zan (fun h=>absurd h (by decide)) (fun _=>?_)
   exact main _ rfl (fun _ _=>rfl) (by rw [hdh]; exact oC)
end Go.Sim
