/- A part of the proof of a statement of this seat: see the text that holds the theorem. No condition. -/
import Derived.Test.YtflfcofeedjblaaGreatDoorPTCSMatch
import Derived.Test.YtflfcofeedjblaaGreatDoorCApply
import Derived.Test.YtflfcofeedjblaaGreatDoorPTCSApply
import Derived.Test.YtflfcofeedjblaaGreatDoorPTCAll
import Derived.Test.YtflfcofeedjblaaGreatDoorNm
import Derived.Test.YtflfcofeedjblaaGreatDoorCWVar2
set_option linter.unusedVariables false
set_option linter.unusedSimpArgs false
set_option linter.all false
set_option linter.unusedVariables false
set_option linter.unusedSimpArgs false
set_option maxRecDepth 20000
namespace Go.Sim
open Go Go.RowKit

def Ymk:List Nat:=[88,89,90,120,121,122,49,50,51,52,53,54]
theorem Ybf {v:Nat} (hv:Zee v=true):∃ k:Nat,k < 6∧Zfh[k]?=some v∧Zxr Ymk v=(k:Int):=by
 have:=(Ztx v).2 hv
 simp only [Zfh,List.mem_cons,List.not_mem_nil,or_false] at this
 rcases this with rfl | rfl | rfl | rfl | rfl | rfl
 ·exact ⟨0,by omega,rfl,rfl⟩
 ·exact ⟨1,by omega,rfl,rfl⟩
 ·exact ⟨2,by omega,rfl,rfl⟩
 ·exact ⟨3,by omega,rfl,rfl⟩
 ·exact ⟨4,by omega,rfl,rfl⟩
 ·exact ⟨5,by omega,rfl,rfl⟩
theorem Zxl {t:Ty} (h:t.ok=true):t.hd∈[105,98,117,108,109,112,120,121,122,88,89,90]:=by
 have:=Ty.ok_ar h
 unfold arN Zoo Zee at this
 simp only [Bool.or_eq_true,beq_iff_eq] at this
 simp only [List.mem_cons,List.not_mem_nil,or_false]
 split at this
 ·omega
 ·split at this
  ·omega
  ·split at this
   ·omega
   ·omega
theorem Ygm {t:Ty} (h:t.ok=true) (hv:Zee t.hd=false):Zxr Ymk t.hd=-1:=by
 apply Ybx
 have:=Zxl h
 simp only [List.mem_cons,List.not_mem_nil,or_false] at this
 rcases this with e | e | e | e | e | e | e | e | e | e | e | e <;> rw [e] at hv ⊢ <;> first | (exact absurd hv (by decide)) | decide
theorem Zxv {h:Zaa} (c:Nat):Zak pg Zlc [.int .u8 (c:Int)] h fun v h'=>v=.int .i64 (Zxr Ymk c)∧h'=h:=by
 apply Zvh.call
 refine (Yaj Ymk c (by decide)).mono ?_
 rintro v h1 ⟨rfl,rfl⟩
 simp only [Zax]
 exact ⟨by trivial,by trivial⟩
def eR (x:Zay × Zay):List Zay:=[x.1,x.2]
theorem Zte (x:Zay × Zay):(eR x).length=2:=rfl
theorem Yez {α:Type} {enc:α→List Zay} {w:Nat} (hw:∀ x,(enc x).length=w):∀ {l:List α} {k:Nat} {x:α},k < l.length→putRow (Zdb enc l) (k * w) (enc x)=Zdb enc (l.set k x)
 | [],k,x,h=>by simp at h
 | y :: l,0,x,_=>by
  simp only [Nat.zero_mul,Znt,List.set_cons_zero,putRow,List.take_zero,List.nil_append,Nat.zero_add,hw]
  rw [← hw y,List.drop_left]
 | y :: l,k + 1,x,h=>by
  have ih:=Yez hw (l:=l) (k:=k) (x:=x) (by simpa using h)
  unfold putRow at ih ⊢
  simp only [Znt,List.set_cons_succ]
  rw [← ih,Nat.succ_mul,Nat.add_comm (k * w) w,← hw y,List.take_length_add_append,Nat.add_assoc,List.drop_length_add_append]; simp only [List.append_assoc]
def Zwh (S:Nat→Prop) (h:Zaa) (i:Nat) (m:Bd):Prop:=∃ rows:List (Zay × Zay),rows.length=12∧h[i]?=some (.cells Zdo (Zdb eR rows) false) ∧
 ∀ (k:Nat) (x:Zay × Zay),rows[k]?=some x→match (Zfh[k]?).bind (Zht m) with | some t=>Zji S h t (eR x) | none=>x=(.int .u8 0,.slice none 0 0 true)
theorem Zwh.keep {S:Nat→Prop} {h h':Zaa} {i:Nat} {m:Bd} (r:Zwh S h i m) (hi:h'[i]?=h[i]?) (hh:∀ j,S j→j < h.length→h'[j]?=h[j]?):Zwh S h' i m:=by
 obtain ⟨rows,h1,h2,h3⟩:=r
 refine ⟨rows,h1,by rw [hi]; exact h2,fun k x hx=>?_⟩
 have:=h3 k x hx
 split at this
 ·exact this.keep hh
 ·exact this
theorem Zwh.same {S:Nat→Prop} {h h':Zaa} {i:Nat} {m:Bd} (r:Zwh S h i m) (s:Zbc h.length h h'):Zwh S h' i m:=by
 have hl:i < h.length:=by obtain ⟨_,_,h2,_⟩:=r; exact Own.lt h2
 exact r.keep (s.eq i hl) fun j _ hj=>s.eq j hj
theorem Zwh.lt {S:Nat→Prop} {h:Zaa} {i:Nat} {m:Bd} (r:Zwh S h i m):i < h.length:=by obtain ⟨_,_,h2,_⟩:=r; exact Own.lt h2
theorem Zwh.nil {S:Nat→Prop} {h:Zaa} {i:Nat} (hi:h[i]?=some (.cells Zdo (Zdb eR (List.replicate 12 (.int .u8 0,.slice none 0 0 true))) false)):Zwh S h i []:=by
 refine ⟨_,by simp,hi,fun k x hx=>?_⟩
 have:(Zfh[k]?).bind (Zht [])=none:=by cases Zfh[k]? <;> rfl
 rw [this]
 rw [List.getElem?_replicate] at hx
 split at hx
 ·cases hx; rfl
 ·cases hx
theorem Zwh.get {S:Nat→Prop} {h:Zaa} {i:Nat} {m:Bd} (r:Zwh S h i m) {k:Nat} (hk:k < 12):∃ x:Zay × Zay,Zag h (.ptr (some (i,0 + k * 2 + 0)))=some x.1∧Zbe h (.ptr (some (i,0 + k * 2))) 2=some [x.1,x.2] ∧
  match (Zfh[k]?).bind (Zht m) with | some t=>Zji S h t [x.1,x.2] | none=>x=(.int .u8 0,.slice none 0 0 true):=by
 obtain ⟨rows,h1,h2,h3⟩:=r
 have hrow:Row h.length h (some (i,0)) (12 * 2) (Zdb eR rows):=⟨by rw [Zat Zte,h1],.inr ⟨i,0,_,_,_,rfl,Own.lt h2,h2,by rw [Zat Zte,h1]; simp,by rw [List.drop_zero,List.take_of_length_le (by rw [Zat Zte,h1]; simp)]⟩⟩
 obtain ⟨i',o',hk',he,_,hr,hc⟩:=Row.el Zte hrow h1 hk (by omega)
 cases he
 exact ⟨rows[k],by have:=hc 0 (by omega); simpa [eR] using this,hr,h3 k _ (List.getElem?_eq_getElem hk')⟩
def Ytw (S:Nat→Prop) (h:Zaa) (i:Nat) (m:Bd):Prop:=∃ rows:List (Zay × Zay),rows.length=12∧h[i]?=some (.cells Zdo (Zdb eR rows) false) ∧
 ∀ (k:Nat) (x:Zay × Zay),k < 6→rows[k]?=some x→match (Zfh[k]?).bind (Zht m) with | some t=>Zji S h t (eR x) | none=>x=(.int .u8 0,.slice none 0 0 true)
theorem Zwh.w {S:Nat→Prop} {h:Zaa} {i:Nat} {m:Bd} (r:Zwh S h i m):Ytw S h i m:=by
 obtain ⟨rows,h1,h2,h3⟩:=r
 exact ⟨rows,h1,h2,fun k x _ hx=>h3 k x hx⟩
theorem Ytw.lt {S:Nat→Prop} {h:Zaa} {i:Nat} {m:Bd} (r:Ytw S h i m):i < h.length:=by obtain ⟨_,_,h2,_⟩:=r; exact Own.lt h2
theorem Ytw.same {S:Nat→Prop} {h h':Zaa} {i:Nat} {m:Bd} (r:Ytw S h i m) (s:Zbc h.length h h'):Ytw S h' i m:=by
 obtain ⟨rows,h1,h2,h3⟩:=r
 refine ⟨rows,h1,by rw [s.eq i (Own.lt h2)]; exact h2,fun k x hk hx=>?_⟩
 have:=h3 k x hk hx
 split at this
 ·exact this.keep fun j _ hj=>s.eq j hj
 ·exact this
theorem Ytw.get {S:Nat→Prop} {h:Zaa} {i:Nat} {m:Bd} (r:Ytw S h i m) {k:Nat} (hk:k < 6):∃ x:Zay × Zay,Zag h (.ptr (some (i,0 + k * 2 + 0)))=some x.1∧Zbe h (.ptr (some (i,0 + k * 2))) 2=some [x.1,x.2] ∧
  match (Zfh[k]?).bind (Zht m) with | some t=>Zji S h t [x.1,x.2] | none=>x=(.int .u8 0,.slice none 0 0 true):=by
 obtain ⟨rows,h1,h2,h3⟩:=r
 have hrow:Row h.length h (some (i,0)) (12 * 2) (Zdb eR rows):=⟨by rw [Zat Zte,h1],.inr ⟨i,0,_,_,_,rfl,Own.lt h2,h2,by rw [Zat Zte,h1]; simp,by rw [List.drop_zero,List.take_of_length_le (by rw [Zat Zte,h1]; simp)]⟩⟩
 obtain ⟨i',o',hk',he,_,hr,hc⟩:=Row.el Zte hrow h1 (show k < 12 by omega) (by omega)
 cases he
 exact ⟨rows[k],by have:=hc 0 (by omega); simpa [eR] using this,hr,h3 k _ hk (List.getElem?_eq_getElem hk')⟩
theorem Zwh.put {S:Nat→Prop} {h:Zaa} {i:Nat} {m:Bd} (r:Zwh S h i m) (hSi:∀ j,S j→j≠i) {k v:Nat} (hk:Zfh[k]?=some v) (hg:Zht m v=none) {t:Ty} {x y:Zay} (ht:Zji S h t [x,y]) :
  ∃ h',Zbb h (.ptr (some (i,0 + k * 2))) [x,y]=some h'∧Zem i h h'∧Zwh S h' i (m ++ [(v,t)]):=by
 obtain ⟨rows,h1,h2,h3⟩:=r
 have hk6:k < 6:=(List.getElem?_eq_some_iff.1 hk).1
 have hput:putRow (Zdb eR rows) (k * 2) (eR (x,y))=Zdb eR (rows.set k (x,y)):=Yez Zte (by omega)
 refine ⟨h.set i (.cells Zdo (Zdb eR (rows.set k (x,y))) false),?_,Zem.set _ _ _,?_⟩
 ·rw [Nat.zero_add,Zbg h2 (by rw [Zat Zte,h1]; simp; omega),← hput]; rfl
 ·have hkeep:∀ j,S j→j < h.length→(h.set i (.cells Zdo (Zdb eR (rows.set k (x,y))) false))[j]?=h[j]?:=fun j hj _=>Zbw (fun e=>hSi j hj e.symm)
  refine ⟨_,by simp [h1],Zce h2,fun k' x' hx'=>?_⟩
  by_cases e:k=k'
  ·subst e
   rw [List.getElem?_set_self (by omega)] at hx'
   cases hx'
   rw [hk]
   simp only [Option.bind_some,Ymb,hg,if_true]
   exact ht.keep hkeep
  ·rw [List.getElem?_set_ne e] at hx'
   have:=h3 k' x' hx'
   have hb:(Zfh[k']?).bind (Zht (m ++ [(v,t)]))=(Zfh[k']?).bind (Zht m):=by
    cases hv':Zfh[k']? with
    | none=>rfl
    | some w=>
     simp only [Option.bind_some,Ymb]
     cases hb:Zht m w with
     | some u=>rfl
     | none=>
      have:¬ v=w:=fun e'=>by
       subst e'
       have h5:=List.getElem?_eq_some_iff.1 hk
       have h6:=List.getElem?_eq_some_iff.1 hv'
       exact e ((List.getElem_inj (h₀:=h5.1) (h₁:=h6.1) Zsi).1 (h5.2.trans h6.2.symm))
      simp [this]
   rw [hb]
   split at this
   ·exact this.keep hkeep
   ·exact this
def Xbl (S:Nat→Prop) (h:Zaa) (i:Nat) (r:Option Bd) (v:Zay) (h':Zaa):Prop:=Zem i h h'∧(match r with | some m'=>v=.bool true∧Zwh S h' i m' | none=>v=.bool false)
theorem Zem.of_same {i:Nat} {h h':Zaa} (s:Zbc h.length h h'):Zem i h h':=⟨s.le,fun j hj _=>s.eq j hj⟩
theorem Ydr:∀ (N:Nat) {a t:Ty} {S:Nat→Prop} {h:Zaa} {va vt:List Zay} {i n:Nat} {m:Bd},a.size≤N→a.ok=true→t.ok=true→n≤1048576→t.txt.length≤n→BOk n m→(∀ j,S j→j≠i)→Zji S h a va→Zji S h t vt→Zwh S h i m →
  Zak pg Znp [.ptr (some (i,0)),.agg va,.agg vt] h (Xbl S h i (matchT m a t))
 | 0,a,t,S,h,va,vt,i,n,m,hN,_,_,_,_,_,_,_,_,_=>by have:=a.size_ps; omega
 | N + 1,a,t,S,h,va,vt,i,n,m,hN,ha,ht,hB,hn,bo,hSi,ra,rt,rm=>by
  have hcase:=Ygy (m:=m) ha ht
  obtain ⟨aa,ca,ea,vas,rfl,rowa,hSa,hval,hva⟩:=id ra.parts
  obtain ⟨at',ct,et,vts,rfl,rowt,hSt,hvtl,hvt⟩:=id rt.parts
  have hps2:a.ps.length≤2:=by cases a <;> simp [Ty.ps]
  have hil:=rm.lt
  apply Zla.call
  simp only [Zaw]
  generalize hh0:h ++ [Zcb.cells Zap [.int .u8 (a.hd:Int),.slice aa a.ps.length ca ea] false]=h0
  generalize hh1:h0 ++ [Zcb.cells Zap [.int .u8 (t.hd:Int),.slice at' t.ps.length ct et] false]=h1
  have s0:Zbc h.length h h0:=by rw [← hh0]; exact Zal
  have s1:Zbc h0.length h0 h1:=by rw [← hh1]; exact Zal
  have o0:h0[h.length]?=some (.cells Zap [.int .u8 (a.hd:Int),.slice aa a.ps.length ca ea] false):=by rw [← hh0]; simp
  have oa:=s1.get o0 (Own.lt o0)
  have ot:h1[h0.length]?=some (.cells Zap [.int .u8 (t.hd:Int),.slice at' t.ps.length ct et] false):=by rw [← hh1]; simp
  have S1:=s0.cat s1
  have l0:h0.length=h.length + 1:=by rw [← hh0]; simp
  have l1:h1.length=h.length + 2:=by rw [← hh1]; simp [l0]
  simp only [Zan oa,Nat.zero_add,List.getElem?_cons_succ,List.getElem?_cons_zero,Zax]
  refine (Zxv a.hd).mono ?_
  rintro v h2 ⟨rfl,rfl⟩
  have rm1:=rm.same S1
  have K1:Zem i h h2:=Zem.of_same S1
  simp only [Zax,Zau]
  cases hv:Zee a.hd with
  | true=>
   rw [hv] at hcase
   simp only [if_true] at hcase
   obtain ⟨k,hk6,hkv,hix⟩:=Ybf hv
   rw [hix]
   obtain ⟨x,hx1,hx2,hx3⟩:=rm1.get (k:=k) (by omega)
   rw [hkv,Option.bind_some] at hx3
   have hge:decide ((k:Int) ≥ 0)=true:=by simp
   simp only [hge,Zcv,Int.toNat_natCast,hx1,hx2,Zew ot (show 0 + 2≤_ by simp),List.drop_zero,List.take_succ_cons,List.take_zero,Zao,Zae,Zam,Zax,Zaj]
   refine ⟨by omega,?_⟩
   cases hg:Zht m a.hd with
   | none=>
    rw [hg] at hx3
    simp only at hx3
    subst hx3
    have hbn:Zsa m a.hd t=some (m ++ [(a.hd,t)]):=by unfold Zsa; rw [hg]
    rw [hcase,hbn]
    simp only [Zax,show ((0:Int) == 0)=true from rfl,Zcv]
    obtain ⟨h',hst,hK,hr'⟩:=rm1.put hSi hkv hg (rt.same S1)
    rw [hst]
    simp only [Zas]
    exact ⟨by omega,K1.trans hK,rfl,hr'⟩
   | some u=>
    rw [hg] at hx3
    simp only at hx3
    have hu:=bo.var _ (Zus hg)
    obtain ⟨ux,uc,ue,hux⟩:=hx3.shape
    simp only [List.cons.injEq,and_true] at hux
    obtain ⟨hux1,hux2⟩:=hux
    rw [hux1,hux2] at hx2 hx3
    rw [hux1,hux2]
    simp only [Zax,Zaj]
    have hu0:(((u.hd:Nat):Int) == 0)=false:=by
     have:=Zxl hu.2.1
     have hne:u.hd≠0:=fun e=>by rw [e] at this; simp at this
     simp; omega
    simp only [hu0,Zca]
    have rt1:=rt.same S1
    refine ⟨by omega,(Zrv _ (Nat.le_refl _) (by omega) hu.2.1 hx3).mono ?_⟩
    rintro v h3 ⟨rfl,s3⟩
    have ot3:=s3.get ot (Own.lt ot)
    have rt3:=rt1.same s3
    simp only [Zah,Zew ot3 (show 0 + 2≤_ by simp),List.drop_zero,List.take_succ_cons,List.take_zero,true_and]
    refine (Zrv _ (Nat.le_refl _) (by omega) ht rt3).mono ?_
    rintro v h4 ⟨rfl,s4⟩
    simp only [Zah]
    have hri:∀ hx,Zbc h2.length h2 hx→Zbe hx (.ptr (some (i,0 + k * 2))) 2=Zbe h2 (.ptr (some (i,0 + k * 2))) 2:=fun hx sx=>by
     simp only [Zbe,sx.eq i (by omega)]
    rw [hri _ (s3.cat s4),hri _ s3]
    refine ⟨by trivial,?_⟩
    have K4:Zem i h h4:=K1.trans (Zem.of_same (s3.cat s4))
    by_cases he:u=t
    ·subst he
     have hbn:Zsa m a.hd u=some m:=by unfold Zsa; rw [hg]; simp
     rw [hcase,hbn]
     exact ⟨K4,by simp,(rm1.same (s3.cat s4))⟩
    ·have hne:¬ u.txt=t.txt:=fun e=>he (Ty.txt_inj' hu.2.1 ht e)
     have hbn:Zsa m a.hd t=none:=by unfold Zsa; rw [hg]; simp [he]
     rw [hcase,hbn]
     exact ⟨K4,by simp [hne]⟩
  | false=>
   rw [hv] at hcase
   simp only [Bool.false_eq_true,if_false] at hcase
   rw [Ygm ha hv]
   have hge:decide ((-1:Int) ≥ 0)=false:=by decide
   simp only [hge,Zca,Zan ot,Zan oa,List.getElem?_cons_succ,List.getElem?_cons_zero,Zax,Zaj]
   refine Ziy (fun hne=>?_) (fun he=>?_)
   ·rw [if_neg (fun e=>hne (by rw [e]))] at hcase
    rw [hcase]
    exact ⟨K1,rfl⟩
   ·have he':a.hd=t.hd:=by omega
    rw [if_pos he'] at hcase
    rw [hcase]
    have hlen:=Ymc ha ht he'
    refine Zla.L10ind _ _ _ _ _ _ _ (J:=fun (g:Nat) x43 h'=>x43=(g:Int)∧g≤a.ps.length∧Zem i h2 h'∧∃ m1,matchL m (a.ps.take g) (t.ps.take g)=some m1∧Zwh S h' i m1) (fun g=>a.ps.length - g) ?_ 0 _ _ ⟨rfl,by omega,Zem.refl _ _,m,by simp [matchL],rm1⟩
    rintro g x43 h' ⟨rfl,hg,hK,m1,hm1,rm1⟩ R hR
    unfold Zla.L10t
    have KK:=K1.trans hK
    refine Zar (fun hlt=>?_) (fun hge=>?_)
    ·have hga:g < a.ps.length:=by omega
     have hgt:g < t.ps.length:=by omega
     have oa1:h'[h.length]?=some (.cells Zap [.int .u8 (a.hd:Int),.slice aa a.ps.length ca ea] false):=by rw [hK.eq _ (Own.lt oa) (by omega)]; exact oa
     have ot1:h'[h0.length]?=some (.cells Zap [.int .u8 (t.hd:Int),.slice at' t.ps.length ct et] false):=by rw [hK.eq _ (Own.lt ot) (by omega)]; exact ot
     obtain ⟨ja,ofa,a3,c3,e3,rfl,hra,hka⟩:=Zji.get (rowa.keepAt (i:=i) (fun j o h0 e=>hSi j (hSa j o (by omega) e)) KK) hval (fun k w x h1 h2=>(hva k w x h1 h2).keep fun j hj hl=>KK.eq j hl (hSi j hj)) hga
     obtain ⟨jt,oft,a4,c4,e4,rfl,hrt,hkt⟩:=Zji.get (rowt.keepAt (i:=i) (fun j o h0 e=>hSi j (hSt j o (by omega) e)) KK) hvtl (fun k w x h1 h2=>(hvt k w x h1 h2).keep fun j hj hl=>KK.eq j hl (hSi j hj)) hgt
     simp only [Zau,Int.toNat_natCast,Zan oa1,Zan ot1,hra,hrt,Nat.zero_add,List.getElem?_cons_succ,List.getElem?_cons_zero,Zaj,Zao,Zae,Zam,Zax,true_and]
     have hma:=List.getElem_mem hga
     have hmt:=List.getElem_mem hgt
     have h1:=Ty.size_part hma
     have h2:=Ty.len_part hmt
     have bo1:BOk n m1:=BOk.matchL (fun x hx=>Ty.ok_ps ha x (List.mem_of_mem_take hx)) (fun x hx=>⟨Ty.ok_ps ht x (List.mem_of_mem_take hx),by have:=Ty.len_part (List.mem_of_mem_take hx); omega⟩) bo hm1
     have htk:=Zwe a.ps t.ps m g hga hgt
     rw [hm1] at htk
     simp only at htk
     refine ⟨by omega,by omega,(Ydr N (by omega) (Ty.ok_ps ha _ hma) (Ty.ok_ps ht _ hmt) hB (by omega) bo1 hSi hka hkt rm1).mono ?_⟩
     rintro v h3 ⟨K3,hres⟩
     have oa3:h3[h.length]?=some (.cells Zap [.int .u8 (a.hd:Int),.slice (some (ja,ofa)) a.ps.length ca ea] false):=by rw [K3.eq _ (Own.lt oa1) (by omega)]; exact oa1
     cases hmm:matchT m1 a.ps[g] t.ps[g] with
     | none=>
      rw [hmm] at hres htk
      subst hres
      simp only [Zaq,Bool.not_false,Zcv,Zan oa3,List.getElem?_cons_succ,List.getElem?_cons_zero,true_and]
      rw [Zwb a.ps t.ps m (g + 1) hlen htk]
      exact ⟨KK.trans K3,rfl⟩
     | some m2=>
      rw [hmm] at hres htk
      obtain ⟨rfl,rm2⟩:=hres
      simp only [Zaq,Bool.not_true,Zca,Zan oa3,List.getElem?_cons_succ,List.getElem?_cons_zero,true_and]
      rw [Zbm (by omega)]
      exact hR (g + 1) _ _ (by omega) ⟨rfl,by omega,hK.trans K3,m2,htk,rm2⟩
    ·apply Zla.A10x0i
     have:g=a.ps.length:=by omega
     subst this
     rw [List.take_length,hlen,List.take_length] at hm1
     rw [hm1]
     exact ⟨KK,rfl,rm1⟩
end Go.Sim

set_option linter.unusedVariables false
set_option linter.unusedSimpArgs false
set_option maxRecDepth 20000
namespace Go.Sim
open Go Go.RowKit

theorem Zsl:∀ (N:Nat) {S:Nat→Prop} {h:Zaa} {t:Ty} {v:List Zay},t.size≤N→t.txt.length≤1048576→Zji S h t v→Zak pg Zih [.agg v] h fun x h'=>x=.int .i64 (t.txt.length:Nat)∧Zbc h.length h h'
 | 0,S,h,t,v,hN,_,_=>by have:=t.size_ps; omega
 | N + 1,S,h,t,v,hN,hB,r=>by
  obtain ⟨a,c,e,vs,rfl,hrow,hS,hvl,hp⟩:=r.parts
  have hps2:t.ps.length≤2:=by cases t <;> simp [Ty.ps]
  have htx:=t.txt_mids
  have hln:=congrArg List.length htx
  rw [List.length_append,List.length_cons] at hln
  apply Zhh.call
  simp only [Zaw,Zgm,Nat.zero_add,List.getElem?_cons_succ,List.getElem?_cons_zero,Zaj]
  generalize hh0:h ++ [Zcb.cells Zap [.int .u8 (t.hd:Int),.slice a t.ps.length c e] false]=h0
  have s0:Zbc h.length h h0:=by rw [← hh0]; exact Zal
  have o0:h0[h.length]?=some (.cells Zap [.int .u8 (t.hd:Int),.slice a t.ps.length c e] false):=by rw [← hh0]; simp
  refine Zhh.L3ind _ _ _ _ _ _ _ _ (J:=fun (g:Nat) x3 x9 h'=>x9=(g:Int)∧g≤t.ps.length∧Zbc h.length h h'∧Zbc h0.length h0 h'∧x3=((1 + (Zrf 0 (t.ps.take g)).length:Nat):Int)) (fun g=>t.ps.length - g) ?_ 0 _ _ _ ⟨rfl,by omega,s0,Zbc.refl _ _,by simp [Zrf]⟩
  rintro g x3 x9 h' ⟨rfl,hg,hSm,hS1,rfl⟩ R hR
  unfold Zhh.L3t
  have o2:=hS1.get o0 (Own.lt o0)
  refine Zar (fun hlt=>?_) (fun hge=>?_)
  ·have hg':g < t.ps.length:=by omega
   obtain ⟨i,o,a2,c2,e2,rfl,hr,hk⟩:=Zji.get (hrow.same' hSm) hvl (fun k w x h1 h2=>(hp k w x h1 h2).same hSm) hg'
   simp only [Zau,Int.toNat_natCast,hr,Zao,Zae,Zam,Zax,Zaj,Zaw]
   rw [Zfb]
   simp only [Zas]
   rw [Zzn]
   simp only [Zao,Zae,Zam,Zax,Zaj]
   have hm:=List.getElem_mem hg'
   have h1:=Ty.size_part hm
   have h2:=Ty.len_part hm
   have hmt:=Zxs t.ps 0 g hg'
   have hml:(Zrf 0 (t.ps.take (g + 1))).length≤(Zrf 0 t.ps).length:=Yci _ _ _
   have hmtl:=congrArg List.length hmt
   simp only [List.length_append,List.length_cons,Nat.zero_add] at hmtl
   have s2:Zbc h'.length h' (h' ++ [.cells Zap [.int .u8 (t.ps[g].hd:Int),.slice a2 t.ps[g].ps.length c2 e2] false]):=Zal
   refine ⟨by omega,(Zsl N (by omega) (by omega) (hk.same s2)).mono ?_⟩
   rintro x h3 ⟨rfl,s3⟩
   simp only [Zax]
   rw [Zbm (by omega),Zbm (by omega),IntWalk.i64_in _ (by omega)]
   exact hR (g + 1) _ _ _ (by omega) ⟨rfl,by omega,(hSm.cat s2).cat s3,(hS1.cat s2).cat s3,by omega⟩
  ·apply Zhh.A3x0i
   have:g=t.ps.length:=by omega
   subst this
   simp only [Zan o2,Nat.zero_add,List.getElem?_cons_succ,List.getElem?_cons_zero,Zaj]
   rw [List.take_length]
   refine Zar (fun hpos=>?_) (fun hneg=>?_)
   ·have hne:t.ps≠[]:=fun e=>by rw [e] at hpos; simp at hpos
    rw [if_neg hne] at hln
    apply Zhh.J9i
    simp only [List.length_cons,List.length_nil] at hln
    rw [Zbm (by omega)]
    exact ⟨by congr 1; omega,hSm⟩
   ·have hne:t.ps=[]:=List.eq_nil_of_length_eq_zero (by omega)
    rw [if_pos hne] at hln
    simp only [List.length_nil] at hln
    apply Zhh.J9i
    exact ⟨by congr 1; omega,hSm⟩
def Yiu (m:Bd) (g:Nat):List Nd:=(Zfh.take g).filterMap fun v=>(Zht m v).map fun t=>([v],t.txt)
theorem Yrn (m:Bd) (g:Nat):Yiu m (g + 1)=Yiu m g ++ (match Zfh[g]? with | some v=>(match Zht m v with | some t=>[([v],t.txt)] | none=>[]) | none=>[]):=by
 unfold Yiu
 rw [List.take_succ,List.filterMap_append]
 cases Zfh[g]? with
 | none=>simp
 | some v=>cases hb:Zht m v <;> simp [hb]
theorem Yvt (m:Bd) (g:Nat):(Yiu m g).length≤6:=by
 unfold Yiu
 refine Nat.le_trans (List.length_filterMap_le _ _) ?_
 rw [List.length_take]; exact Nat.le_trans (Nat.min_le_right _ _) (by decide)
theorem Ywl {g v:Nat} (hv:Zfh[g]?=some v):sub [88,89,90,120,121,122,49,50,51,52,53,54] (g:Int) ((g:Int) + 1)=[v]:=by
 have hg:g < 6:=(List.getElem?_eq_some_iff.1 hv).1
 match g,hg with
 | 0,_ | 1,_ | 2,_ | 3,_ | 4,_ | 5,_=>simp [Zfh] at hv; subst hv; rfl
theorem Ytn {S:Nat→Prop} {h:Zaa} {i:Nat} {m:Bd} (rm:Zwh S h i m) (bo:BOk 60 m) :
  Zak pg Zsn [.ptr (some (i,0))] h fun v h'=>Zbc h.length h h'∧∃ a n c e,v=.tup [.slice a n c e,.bool true]∧n≤c∧Zds Zbv eP h.length h' a n (bdL m):=by
 apply Zhc.call
 simp only [Zaw,Zau]
 generalize hh0:h ++ [Zcb.cells Zbv [] false]=h0
 have s0:Zbc h.length h h0:=by rw [← hh0]; exact Zal
 have l0:h0.length=h.length + 1:=by rw [← hh0]; simp
 have o0:h0[h.length]?=some (.cells Zbv [] false):=by rw [← hh0]; simp
 refine Zhc.L3ind _ _ (J:=fun (g:Nat) a4 n4 c4 e4 x10 h'=>x10=(g:Int)∧g≤12∧Zbc h.length h h'∧n4=(Yiu m g).length∧n4≤c4∧Vec Zbv h' a4 n4 c4 (Zdb eP (Yiu m g))∧(∀ i,a4=some (i,0)→h.length≤i)) (fun g=>12 - g) ?_ 0 _ _ _ _ _ _
  ⟨rfl,by omega,s0,by simp [Yiu],Nat.le_refl _,Vec.mk1 (by simpa [Yiu] using o0),fun i hi=>by cases hi; omega⟩
 rintro g a4 n4 c4 e4 x10 h' ⟨rfl,hg,hSm,rfl,hnc,hv,ha⟩ R hR
 unfold Zhc.L3t
 have hbl:=Yvt m g
 refine Zar (fun hlt=>?_) (fun hge=>?_)
 ·have hg':g < 12:=by omega
  obtain ⟨x,hx1,hx2,hx3⟩:=(rm.same hSm).get hg'
  have il:=(rm.same hSm).lt
  have hx:∃ (d:Nat) (a:Pt) (n c:Nat) (e:Bool),x=(.int .u8 (d:Int),.slice a n c e)∧(match (Zfh[g]?).bind (Zht m) with | some t=>d=t.hd | none=>d=0):=by
   split at hx3
   ·rename_i t ht
    obtain ⟨ua,uc,ue,hu⟩:=hx3.shape
    simp only [List.cons.injEq,and_true] at hu
    exact ⟨t.hd,ua,t.ps.length,uc,ue,by rw [← hu.1,← hu.2],by first | rfl | rw [ht]⟩
   ·rename_i hn; exact ⟨0,none,0,0,true,hx3,by first | rfl | rw [hn]⟩
  obtain ⟨d,ua,un,uc,ue,rfl,hd⟩:=hx
  simp only [Int.toNat_natCast,hx2,Zau,Zao,Zae,Zam,Zax,Zaj,Zaw]
  generalize hq:h' ++ [Zcb.cells Zap [.int .u8 0,.slice none 0 0 true] false]=hq'
  have sq:Zbc h'.length h' hq':=by rw [← hq]; exact Zal
  have hrq:Zbe hq' (.ptr (some (i,0 + g * 2))) 2=some [.int .u8 (d:Int),.slice ua un uc ue]:=by
   rw [← hx2]; simp only [Zbe,sq.eq i il]
  rw [hrq,← hq,Zfb]
  generalize hw:h' ++ [Zcb.cells Zap [.int .u8 (d:Int),.slice ua un uc ue] false]=hw'
  have sw:Zbc h'.length h' hw':=by rw [← hw]; exact Zal
  have ow:hw'[h'.length]?=some (.cells Zap [.int .u8 (d:Int),.slice ua un uc ue] false):=by rw [← hw]; simp
  simp only [Zas,Zan ow,Nat.zero_add,List.getElem?_cons_zero,Zax,true_and]
  have SW:=hSm.cat sw
  have hsuc:=Yrn m g
  have skip:(Zfh[g]?).bind (Zht m)=none→Zhc.J9 (fun v h'=>Zbc h.length h h'∧∃ a n c e,v=.tup [.slice a n c e,.bool true]∧n≤c∧Zds Zbv eP h.length h' a n (bdL m)) R (g:Int) (some (i,0)) a4 (Yiu m g).length c4 e4 hw':=by
   intro hn
   have hsame:Yiu m (g + 1)=Yiu m g:=by
    rw [hsuc]
    cases hvg:Zfh[g]? with
    | none=>simp
    | some v=>rw [hvg,Option.bind_some] at hn; simp [hn]
   apply Zhc.J9i
   rw [Zbm (by omega)]
   exact hR (g + 1) _ _ _ _ _ _ (by omega) ⟨rfl,by omega,SW,by rw [hsame],hnc,by rw [hsame]; exact hv.same sw,ha⟩
  refine ⟨by omega,?_⟩
  cases hb:(Zfh[g]?).bind (Zht m) with
  | none=>
   rw [hb] at hd
   simp only at hd
   subst hd
   simp only [show (((0:Nat):Int) == 0)=true from rfl,Zcv]
   exact skip hb
  | some t=>
   rw [hb] at hd hx3
   simp only at hd hx3
   obtain ⟨v,hvg,hbv⟩:=Option.bind_eq_some_iff.1 hb
   have hu:=bo.var _ (Zus hbv)
   have hg6:g < 6:=(List.getElem?_eq_some_iff.1 hvg).1
   have hd0:((d:Int) == 0)=false:=by
    have:=Zxl hu.2.1
    have hne:t.hd≠0:=fun e=>by rw [e] at this; simp at this
    simp; omega
   rw [show decide ((g:Int) ≥ 6)=false by simp; omega]
   simp only [hd0,Zca]
   apply Zhc.J6i
   rw [← hw,Zzn,hw]
   simp only [Zao,Zae,Zam,Zax,Zaj]
   have hu2:t.txt.length≤60:=hu.2.2
   refine (Zsl _ (Nat.le_refl _) (by omega) (hx3.same sw)).mono ?_
   rintro v' h3 ⟨rfl,s3⟩
   have o3:=s3.get ow (Own.lt ow)
   simp only [Zax]
   rw [show decide (((t.txt.length:Nat):Int) > 60)=false by simp; omega]
   simp only [Zca,Zew o3 (show 0 + 2≤_ by simp),List.drop_zero,List.take_succ_cons,List.take_zero,Zao,Zae,Zam,Zax,Zaj]
   rw [Zbm (by omega),show (((g + 1:Nat):Int))=(g:Int) + 1 by omega,Ywl hvg]
   refine ⟨⟨by omega,by omega,by simp; omega⟩,(Zrv _ (Nat.le_refl _) (by omega) hu.2.1 ((hx3.same sw).same s3)).mono ?_⟩
   rintro v' h4 ⟨rfl,s4⟩
   simp only [Zah,Zaw]
   have S4:=(SW.cat s3).cat s4
   refine (((hv.same sw).same s3).same s4).pushN Yah Yhh Ygd Ygx (by rw [Zat Zcr]) rfl (by omega) rfl (by omega) (fun h6 hl6 hi6 hk6=>?_)
   simp only [Zaj]
   apply Zhc.J9i
   rw [Zbm (by omega)]
   have hle:=S4.le
   have hs':Yiu m (g + 1)=Yiu m g ++ [([v],t.txt)]:=by rw [hsuc,hvg]; simp [hbv]
   refine hR (g + 1) _ _ _ _ _ _ (by omega) ⟨rfl,by omega,⟨by omega,fun j hj=>?_⟩,by rw [hs']; simp,Nat.le_refl _,Vec.mk1 ?_,fun i hi=>by cases hi; omega⟩
   ·rw [hk6 j (by omega) fun i hi=>by have:=ha i hi; omega]; exact S4.eq j hj
   ·rw [hi6,hs',Zgw]; rfl
 ·apply Zhc.A3x0i
  have:g=12:=by omega
  subst this
  have hb12:Yiu m 12=bdL m:=by unfold Yiu bdL; rw [List.take_of_length_le (by decide)]
  rw [hb12] at hv hnc ⊢
  exact ⟨hSm,_,_,_,_,rfl,hnc,hv.fresh (b:=h.length) rfl fun i hi=>ha i hi⟩
theorem Yqr:Zdb eR (List.replicate 12 (Zay.int .u8 0,Zay.slice none 0 0 true))=[.int .u8 0,.slice none 0 0 true,.int .u8 0,.slice none 0 0 true,.int .u8 0,.slice none 0 0 true,.int .u8 0,.slice none 0 0 true,.int .u8 0,.slice none 0 0 true,.int .u8 0,.slice none 0 0 true,.int .u8 0,.slice none 0 0 true,.int .u8 0,.slice none 0 0 true,.int .u8 0,.slice none 0 0 true,.int .u8 0,.slice none 0 0 true,.int .u8 0,.slice none 0 0 true,.int .u8 0,.slice none 0 0 true]:=rfl
theorem Zum {h h':Zaa} {s:List Nat} {vs:List Zay} (hm:match Zkt s with | some t=>Zji (Btw h.length h'.length) h' t vs | none=>vs=[.int .u8 0,.slice none 0 0 true]):∃ (d:Int) (a:Pt) (n c:Nat) (e:Bool),vs=[.int .u8 d,.slice a n c e]:=by
 split at hm
 ·obtain ⟨a,c,e,rfl⟩:=hm.shape; exact ⟨_,_,_,_,_,rfl⟩
 ·exact ⟨_,_,_,_,_,hm⟩
theorem Zwq (p s:List Nat) (hp0:p.length≤1048576) (hs0:s.length≤1048576) (h:Zaa):Zak pg Zlm [.str p,.str s] h (Ylg p s h):=by
 apply Zoh.call
 refine (Zqg p (by omega) h).mono ?_
 rintro v h1 ⟨s1,vs1,rfl,r1⟩
 obtain ⟨d1,a1,n1,c1,e1,rfl⟩:=Zum r1
 simp only [Zco,Zae,Zdt,Zax,Zaj,Zam,Zaq,Zaw]
 rw [Zfb]
 generalize hh2:h1 ++ [Zcb.cells Zap [.int .u8 d1,.slice a1 n1 c1 e1] false]=h2
 have s2:Zbc h1.length h1 h2:=by rw [← hh2]; exact Zal
 have o2:h2[h1.length]?=some (.cells Zap [.int .u8 d1,.slice a1 n1 c1 e1] false):=by rw [← hh2]; simp
 simp only [Zas]
 refine (Zqg s (by omega) h2).mono ?_
 rintro v h3 ⟨s3,vs3,rfl,r3⟩
 obtain ⟨d3,a3,n3,c3,e3,rfl⟩:=Zum r3
 simp only [Zco,Zae,Zdt,Zax,Zaj,Zam,Zaq]
 rw [Zfb]
 generalize hh4:h3 ++ [Zcb.cells Zap [.int .u8 d3,.slice a3 n3 c3 e3] false]=h4
 have s4:Zbc h3.length h3 h4:=by rw [← hh4]; exact Zal
 have o4:h4[h3.length]?=some (.cells Zap [.int .u8 d3,.slice a3 n3 c3 e3] false):=by rw [← hh4]; simp
 simp only [Zas]
 rw [← Yqr]
 generalize hh5:h4 ++ [Zcb.cells Zdo (Zdb eR (List.replicate 12 (Zay.int .u8 0,Zay.slice none 0 0 true))) false]=h5
 have s5:Zbc h4.length h4 h5:=by rw [← hh5]; exact Zal
 have o5:h5[h4.length]?=some (.cells Zdo (Zdb eR (List.replicate 12 (Zay.int .u8 0,Zay.slice none 0 0 true))) false):=by rw [← hh5]; simp
 have x2:h5[h1.length]?=some (.cells Zap [.int .u8 d1,.slice a1 n1 c1 e1] false):=s5.get (s4.get (s3.get o2 (Own.lt o2)) (by have:=Own.lt o2; have:=s3.le; omega)) (by have:=Own.lt o2; have:=s3.le; have:=s4.le; omega)
 have x4:=s5.get o4 (Own.lt o4)
 have S2:=s1.cat s2
 have S5:=(((S2.cat s3).cat s4).cat s5)
 have no:Zmq p s=none→∀ hz,Zbc h.length h hz→Ylg p s h (.tup [.slice (some (hz.length,0)) 0 0 true,.bool false]) (hz ++ [Zcb.cells Zbv [] false]):=fun hn hz sz=>
  ⟨sz.cat Zal,_,0,0,true,by unfold Zti; rw [hn]; rfl,Nat.le_refl _,by unfold Zmu; rw [hn]; exact ⟨rfl,.inl rfl⟩⟩
 cases hp:Zkt p with
 | none=>
  have:Zoq p=false:=by unfold Zoq; rw [hp]; rfl
  rw [this]
  simp only [Bool.not_false,Zcv]
  exact no (by unfold Zmq; rw [hp]) _ S5
 | some a=>
  rw [Ypl hp]
  simp only [Bool.not_true,Zca]
  cases ht:Zkt s with
  | none=>
   have:Zoq s=false:=by unfold Zoq; rw [ht]; rfl
   rw [this]
   simp only [Bool.not_false,Zcv]
   exact no (by unfold Zmq; rw [hp,ht]) _ S5
  | some t=>
   rw [Ypl ht]
   rw [hp] at r1
   rw [ht] at r3
   simp only at r1 r3
   simp only [Bool.not_true,Zca,Zew x2 (show 0 + 2≤_ by simp),Zew x4 (show 0 + 2≤_ by simp),List.drop_zero,List.take_succ_cons,List.take_zero,Zao,Zae,Zam,Zax,Zaj]
   obtain ⟨ha1,ha2,ha3⟩:=Zgu.1 hp
   obtain ⟨ht1,ht2,ht3⟩:=Zgu.1 ht
   have hms:Zmq p s=matchT [] a t:=by unfold Zmq; rw [hp,ht]
   have l3:=s3.le; have l4:=s4.le; have l2:=s2.le
   have R1:=((((r1.same s2).same s3).same s4).same s5).mono (S':=fun j=>j≠h4.length) (fun j hj=>by have:=hj.2; omega)
   have R3:=((r3.same s4).same s5).mono (S':=fun j=>j≠h4.length) (fun j hj=>by have:=hj.2; omega)
   refine (Ydr _ (Nat.le_refl _) ha1 ht1 (n:=60) (by omega) (by rw [← ht2]; exact ht3) BOk.nil (fun j hj=>hj) R1 R3 (Zwh.nil o5)).mono ?_
   rintro v h6 ⟨K6,hres⟩
   have l5:=S5.le
   have lh4:h.length≤h4.length:=(((S2.cat s3).cat s4)).le
   have S6:Zbc h.length h h6:=⟨by have:=K6.le; omega,fun j hj=>by rw [K6.eq j (by omega) (by omega)]; exact S5.eq j hj⟩
   cases hm:matchT [] a t with
   | none=>
    rw [hm] at hres hms
    subst hres
    simp only [Zaq,Bool.not_false,Zcv]
    exact no hms _ S6
   | some m=>
    rw [hm] at hres hms
    obtain ⟨rfl,rm6⟩:=hres
    simp only [Zaq,Bool.not_true,Zca]
    apply Zoh.J6i
    refine (Ytn rm6 (Ycl hms)).mono ?_
    rintro v h7 ⟨s7,a7,n7,c7,e7,rfl,hc7,f7⟩
    simp only [Zco,Zae,Zaj,Zaq,Zam]
    refine ⟨S6.cat s7,a7,n7,c7,e7,by unfold Zti; rw [hms]; rfl,hc7,?_⟩
    unfold Zmu; rw [hms]
    exact ⟨f7.1,f7.2.imp id fun ⟨i,ha,hb,hi⟩=>⟨i,ha,by have:=S6.le; omega,hi⟩⟩
theorem Zvm (p s:List Nat) (hp0:p.length≤1048576) (hs0:s.length≤1048576) (h:Zaa):Zak pg Zke [.str p,.str s] h fun v h'=>v=.bool (Zti p s)∧Zbc h.length h h':=by
 apply Zrq.call
 refine (Zwq p s hp0 hs0 h).mono ?_
 rintro v h1 ⟨s1,a,n,c,e,rfl,_⟩
 simp only [Zco,Zae,Zaj,Zaq,Zam]
 exact ⟨by trivial,s1⟩
end Go.Sim

set_option linter.unusedVariables false
set_option linter.unusedSimpArgs false
set_option maxRecDepth 20000
namespace Go.Sim
open Go Go.RowKit

theorem Ynt {s:List Nat} (h:((s.length:Nat):Int)≠1):Zmi s=false:=by
 match s,h with
 | [],_=>rfl
 | [x],h=>exact absurd rfl h
 | _ :: _ :: _,_=>rfl
theorem Xad {s:List Nat} (h:((s.length:Nat):Int)=1):∃ v,s=[v]:=by
 match s,h with
 | [],h=>simp at h
 | [x],_=>exact ⟨x,rfl⟩
 | _ :: _ :: _,h=>simp at h; omega
theorem Zxt {h:Zaa} {a:Pt} {n c:Nat} {e:Bool} {l:List Nd} (r:Row h.length h a (n * 2) (Zdb eP l)) (hn:n≤1048576) (hb:∀ p∈l,p.2.length≤1048576) (hb1:∀ p∈l,∀ x∈p.1,x < 256) :
  Zak pg Zkl [.slice a n c e] h fun v h'=>v=.bool (Zjx l)∧Zbc h.length h h':=by
 have hl:l.length=n:=by have:=r.1; rw [Zat Zcr] at this; omega
 apply Zfe.call
 refine Zfe.L2ind _ _ _ _ _ _ _ _ _ _ (J:=fun (g:Nat) x7 h'=>x7=(g:Int)∧g≤n∧Zbc h.length h h'∧(List.range g).all (Ztj l)=true) (fun g=>n - g) ?_ 0 _ _ ⟨rfl,by omega,Zbc.refl _ _,rfl⟩
 rintro g x7 h' ⟨rfl,hg,hS,hk⟩ R hR
 unfold Zfe.L2t
 refine Zar (fun hlt=>?_) (fun hge=>?_)
 ·obtain ⟨i,o,hgl,rfl,hi,hr,_,_⟩:=(r.same hS).pr (k:=g) (by omega)
  have hat:Ztj l g=(Zmi l[g].1 && Zoq l[g].2 && (g == 0 || Zfo (l.getD (g - 1) ([],[])).1 l[g].1)):=by unfold Ztj; rw [Zgh hgl]
  have no:Ztj l g=false→Zjx l=false:=fun hno=>Zmd hgl hno
  have hbg:=hb _ (List.getElem_mem hgl)
  have hbg1:=hb1 _ (List.getElem_mem hgl)
  simp only [Zau,Int.toNat_natCast,hr,Zao,Zae,Zam,Zah,Zaw]
  rw [Zfb]
  generalize hq:h' ++ [Zcb.cells Zbv [.str l[g].1,.str l[g].2] false]=hq'
  have sq:Zbc h'.length h' hq':=by rw [← hq]; exact Zal
  have oq:hq'[h'.length]?=some (.cells Zbv [.str l[g].1,.str l[g].2] false):=by rw [← hq]; simp
  have Sq:=hS.cat sq
  simp only [Zas,Zan oq,Nat.zero_add,List.getElem?_cons_succ,List.getElem?_cons_zero,Zah,true_and]
  refine ⟨by omega,Ziy (fun b0=>⟨by rw [no (by rw [hat,Ynt b0]; rfl)],Sq⟩) (fun b0=>?_)⟩
  obtain ⟨v,hv⟩:=Xad b0
  rw [hv] at hbg1
  have hvl:=hbg1 v (by simp)
  rw [hv]
  refine ⟨by simp,?_⟩
  simp only [Int.toNat_zero,List.getD_cons_zero]
  refine (Zsu v).mono ?_
  rintro v' h2 ⟨rfl,rfl⟩
  simp only [Zaq]
  have hiv:Zmi l[g].1=Zee v:=by rw [hv]; rfl
  refine Zbs (fun b1=>⟨by rw [no (by rw [hat,hiv,b1]; rfl)],Sq⟩) (fun b1=>?_)
  simp only [Zan oq,List.getElem?_cons_succ,List.getElem?_cons_zero,Zah]
  refine (Zkc l[g].2 (by omega) h2).mono ?_
  rintro v' h3 ⟨rfl,s3⟩
  simp only [Zaq]
  have S3:=Sq.cat s3
  refine Zbs (fun b2=>⟨by rw [no (by rw [hat,b2]; simp)],S3⟩) (fun b2=>?_)
  have go:(g=0 ∨ Zfo (l.getD (g - 1) ([],[])).1 l[g].1=true)→Zfe.J6 (fun v h'=>v=.bool (Zjx l)∧Zbc h.length h h') R (g:Int) (((n:Nat):Int)) (some (i,o)) n c e (some (i,o)) n c e h3:=by
   intro hz
   apply Zfe.J6i
   rw [Zbm (by omega)]
   refine hR (g + 1) _ _ (by omega) ⟨rfl,by omega,S3,Ziz hk ?_⟩
   rw [hat,hiv,b1,b2]
   rcases hz with rfl | hz
   ·rfl
   ·rw [hz]; simp
  refine Zar (fun hpos=>?_) (fun hz=>go (.inl (by omega)))
  have hg0:0 < g:=by omega
  obtain ⟨i',o',hgl',he,_,_,hc',_⟩:=(r.same S3).pr (k:=g - 1) (by omega)
  cases he
  rw [Ydo hg0 (by omega)]
  simp only [Zau,Int.toNat_natCast,Nat.add_zero,hc',Zan (s3.get oq (Own.lt oq)),List.getElem?_cons_zero,Zah,true_and]
  have hgd:l.getD (g - 1) ([],[])=l[g - 1]:=Zgh hgl'
  refine ⟨by omega,Zbs (fun b3=>⟨by rw [no (by rw [hat,hiv,b1,b2,hgd,b3]; simp; omega)],S3⟩) (fun b3=>go (.inr (by rw [hgd]; exact b3)))⟩
 ·apply Zfe.A2x0i
  have:g=n:=by omega
  subst this
  exact ⟨by unfold Zjx; rw [hl,hk],hS⟩
theorem Zji.below {S:Nat→Prop} {h:Zaa}:∀ {t:Ty} {v:List Zay},Zji S h t v→Zji (fun j=>S j∧j < h.length) h t v
 | .k d,_,h=>h
 | .u d x,_,⟨j,c,e,r,hv,sj,hj,hr⟩=>⟨j,c,e,r,hv,⟨sj,Own.lt hj⟩,hj,hr.below⟩
 | .w d x y,_,⟨j,c,e,r,r',hv,sj,hj,hr,hr'⟩=>⟨j,c,e,r,r',hv,⟨sj,Own.lt hj⟩,hj,hr.below,hr'.below⟩
theorem Yus {f:Nat→Option Ty} {t:Ty} (h:f t.hd=none ∨ t.ps≠[]):(subst f t).hd=t.hd∧(subst f t).ps=t.ps.map (subst f):=by
 cases t with
 | k c=>
  have:f c=none:=by rcases h with h | h; exact h; exact absurd rfl h
  simp [subst,this,Ty.hd,Ty.ps]
 | u c a=>simp [subst,Ty.hd,Ty.ps]
 | w c a b=>simp [subst,Ty.hd,Ty.ps]
theorem Yjj:pg.underlying Zmg=some (.slice Zap):=by kernel_rfl
theorem Ypk:pg.cellsOf Zap=2:=by kernel_rfl
theorem Yqw:pg.okElem Zap=true:=by kernel_rfl
theorem Ysa:pg.bytesOf Zap≤127:=Nat.le_of_ble_eq_true (by kernel_rfl)
theorem Yir {vs:List (List Zay)} (h:∀ v∈vs,v.length=2):vs.flatten.length=vs.length * 2:=by
 rw [List.length_flatten]
 induction vs with
 | nil=>rfl
 | cons v vs ih=>
  have h1:=h v (by simp)
  have h2:=ih (fun x hx=>h x (by simp [hx]))
  simp only [List.map_cons,List.sum_cons,List.length_cons]; omega
theorem Yeo:∀ (N:Nat) {t:Ty} {S:Nat→Prop} {h:Zaa} {vt:List Zay} {i:Nat} {m:Bd},t.size≤N→t.ok=true→(∀ j,S j→j < h.length∧j≠i)→Zji S h t vt→Ytw S h i m→(∀ v u,Zht m v=some u→u.ok=true)→(∀ v,Zee v=false→Zht m v=none) →
  Zak pg Znv [.ptr (some (i,0)),.agg vt] h fun x h'=>Zbc h.length h h'∧∃ vs,x=.agg vs∧Zji (fun j=>S j ∨ h.length≤j) h' (subst (Zht m) t) vs
 | 0,t,S,h,vt,i,m,hN,_,_,_,_,_,_=>by have:=t.size_ps; omega
 | N + 1,t,S,h,vt,i,m,hN,ht,hSi,rt,rm,hmo,hmn=>by
  obtain ⟨at',ct,et,vts,rfl,rowt,hSt,hvtl,hvt⟩:=id rt.parts
  have hps2:t.ps.length≤2:=by cases t <;> simp [Ty.ps]
  have hil:=rm.lt
  apply Zjn.call
  simp only [Zaw]
  generalize hh0:h ++ [Zcb.cells Zap [.int .u8 (t.hd:Int),.slice at' t.ps.length ct et] false]=h0
  generalize hh1:h0 ++ [Zcb.cells Zap [.int .u8 0,.slice none 0 0 true] false]=h1
  have s0:Zbc h.length h h0:=by rw [← hh0]; exact Zal
  have s1:Zbc h0.length h0 h1:=by rw [← hh1]; exact Zal
  have o0:h0[h.length]?=some (.cells Zap [.int .u8 (t.hd:Int),.slice at' t.ps.length ct et] false):=by rw [← hh0]; simp
  have oa:=s1.get o0 (Own.lt o0)
  have oz:h1[h0.length]?=some (.cells Zap [.int .u8 0,.slice none 0 0 true] false):=by rw [← hh1]; simp
  have S1:=s0.cat s1
  have l0:h0.length=h.length + 1:=by rw [← hh0]; simp
  have l1:h1.length=h.length + 2:=by rw [← hh1]; simp [l0]
  simp only [Zan oa,Nat.zero_add,List.getElem?_cons_succ,List.getElem?_cons_zero,Zax]
  refine (Zxv t.hd).mono ?_
  rintro v h2 ⟨rfl,rfl⟩
  have rm1:=rm.same S1
  simp only [Zax,Zau]
  -- nothing stands for the letter
  have main:Zht m t.hd=none→Zjn.J4 (fun x h'=>Zbc h.length h h'∧∃ vs,x=.agg vs∧Zji (fun j=>S j ∨ h.length≤j) h' (subst (Zht m) t) vs) h.length 0 (some (i,0)) h0.length 0 h2:=by
   intro hno
   obtain ⟨hsh,hsp⟩:=Yus (f:=Zht m) (t:=t) (.inl hno)
   apply Zjn.J4i
   simp only [Zan oa,Nat.zero_add,List.getElem?_cons_succ,List.getElem?_cons_zero,Zax,Zaw]
   generalize hh3:h2 ++ [Zcb.cells Zap [] false]=h3
   have s3:Zbc h2.length h2 h3:=by rw [← hh3]; exact Zal
   have o3:h3[h2.length]?=some (.cells Zap [] false):=by rw [← hh3]; simp
   have l3:h3.length=h2.length + 1:=by rw [← hh3]; simp
   rw [Zfb]
   generalize hh4:h3 ++ [Zcb.cells Zap [.int .u8 (t.hd:Int),.slice (some (h2.length,0)) 0 0 true] false]=h4
   have s4:Zbc h3.length h3 h4:=by rw [← hh4]; exact Zal
   have o4:h4[h3.length]?=some (.cells Zap [.int .u8 (t.hd:Int),.slice (some (h2.length,0)) 0 0 true] false):=by rw [← hh4]; simp
   have l4:h4.length=h3.length + 1:=by rw [← hh4]; simp
   have oa4:=s4.get (s3.get oa (Own.lt oa)) (by have:=Own.lt oa; omega)
   have oz4:=s4.get (s3.get oz (Own.lt oz)) (by have:=Own.lt oz; omega)
   have o34:=s4.get o3 (Own.lt o3)
   have S4:=(S1.cat s3).cat s4
   simp only [Zas,Zan oa4,List.getElem?_cons_succ,List.getElem?_cons_zero,Zaj]
   refine Zjn.L6ind _ _ _ _ _ _ _ _ _ _ _ (J:=fun (g:Nat) x35 h'=>x35=(g:Int)∧g≤t.ps.length∧Zbc h.length h h'∧h4.length≤h'.length∧h'[h0.length]?=some (.cells Zap [.int .u8 0,.slice none 0 0 true] false) ∧
    ∃ (a:Pt) (cp:Nat) (e:Bool) (vs:List (List Zay)),h'[h3.length]?=some (.cells Zap [.int .u8 (t.hd:Int),.slice a g cp e] false)∧vs.length=g∧Vec Zap h' a g cp vs.flatten∧(∀ j,a=some (j,0)→j=h2.length ∨ h4.length≤j) ∧
     ∀ (k:Nat) (v:List Zay) (x:Ty),vs[k]?=some v→t.ps[k]?=some x→Zji (fun j=>(S j ∨ h4.length≤j)∧∀ j0,a=some (j0,0)→j≠j0) h' (subst (Zht m) x) v)
    (fun g=>t.ps.length - g) ?_ 0 _ _ ⟨rfl,by omega,S4,Nat.le_refl _,oz4,some (h2.length,0),0,true,[],o4,rfl,Vec.mk1 (by simpa using o34),fun j hj=>by cases hj; exact .inl rfl,by simp⟩
   rintro g x35 h' ⟨rfl,hg,hS,hl4,hz,a,cp,e,vs,ho,hvl,hv,ha,hp⟩ R hR
   unfold Zjn.L6t
   have hz2:∀ v∈vs,v.length=2:=fun v hv=>by
    obtain ⟨k,hk,rfl⟩:=List.mem_iff_getElem.1 hv
    exact (hp k vs[k] (t.ps[k]'(by omega)) (List.getElem?_eq_getElem hk) (List.getElem?_eq_getElem (by omega))).len
   refine Zar (fun hlt=>?_) (fun hge=>?_)
   ·have hgt:g < t.ps.length:=by omega
    obtain ⟨jt,oft,a4,c4,e4,rfl,hrt,hkt⟩:=Zji.get (rowt.same' hS) hvtl (fun k w x h1 h2=>(hvt k w x h1 h2).same hS) hgt
    simp only [Zau,Int.toNat_natCast,hrt,Zao,Zae,Zam,Zax,Zaj,Zaw]
    rw [Zfb]
    generalize hq:h' ++ [Zcb.cells Zap [.int .u8 (t.ps[g].hd:Int),.slice a4 t.ps[g].ps.length c4 e4] false]=hq'
    have sq:Zbc h'.length h' hq':=by rw [← hq]; exact Zal
    have oq:=sq.get ho (Own.lt ho)
    simp only [Zas,Zan oq,Nat.zero_add,List.getElem?_cons_succ,List.getElem?_cons_zero,Zaj]
    rw [← hq,Zzn,hq]
    simp only [Zao,Zae,Zam,Zax,Zaj,true_and]
    have hmt:=List.getElem_mem hgt
    have h1:=Ty.size_part hmt
    have hlq:=sq.le
    have hSle:=hS.le
    refine ⟨by omega,(Yeo N (by omega) (Ty.ok_ps ht _ hmt) (S:=S) (fun j hj=>⟨by have:=(hSi j hj).1; omega,(hSi j hj).2⟩) (hkt.same sq) (rm.same (hS.cat sq)) hmo hmn).mono ?_⟩
    rintro v h5 ⟨s5,nv,rfl,hn5⟩
    obtain ⟨na,nc,ne,hnv⟩:=hn5.shape
    rw [hnv] at hn5
    have o5:=s5.get oq (Own.lt oq)
    simp only [hnv,Zdt,Zae,Zam,Zax,Zaj,Zan o5,List.getElem?_cons_succ,List.getElem?_cons_zero,true_and]
    have hc6:Zag (h5 ++ [Zcb.cells Zap [.int .u8 ((subst (Zht m) t.ps[g]).hd:Int),.slice na (subst (Zht m) t.ps[g]).ps.length nc ne] false]) (.ptr (some (h3.length,1)))=some (.slice a g cp e):=by rw [Zan (Zib o5)]; rfl
    refine ⟨by rw [hc6],?_⟩
    have v5:=(hv.same sq).same s5
    have hl5:=s5.le
    refine v5.pushN Yjj Ypk Yqw Ysa (by rw [Yir hz2]; omega) rfl (by omega) rfl (by omega) (fun h7 hl7 hi7 hk7=>?_)
    simp only [Zaj]
    have hz5:=s5.get (sq.get hz (Own.lt hz)) (by have:=Own.lt hz; omega)
    have ha5:∀ j,a=some (j,0)→j=h2.length ∨ h4.length≤j:=ha
    have o7:h7[h3.length]?=some (.cells Zap [.int .u8 (t.hd:Int),.slice a g cp e] false):=by
     rw [hk7 _ (Own.lt o5) fun j hj=>by rcases ha j hj with hh | hh <;> omega]; exact o5
    rw [Zbg o7 (by simp)]
    simp only [Zas,putRow,List.take_succ_cons,List.take_zero,List.length_cons,List.length_nil,List.drop_succ_cons,List.drop_nil,List.cons_append,List.nil_append,List.append_nil]
    rw [Zbm (by omega)]
    have hS5:=(hS.cat sq).cat s5
    have h7o:∀ j,j < h5.length→(∀ j0,a=some (j0,0)→j≠j0)→j≠h3.length→(h7.set h3.length (Zcb.cells Zap [.int .u8 (t.hd:Int),.slice (some (h5.length + 1,0)) (g + 1) (g + 1) false] false))[j]?=h5[j]?:=fun j hj hne hne2=>by rw [Zbw (by omega),hk7 j hj hne]
    refine hR (g + 1) _ _ (by omega) ⟨rfl,by omega,⟨by simp; omega,fun j hj=>?_⟩,by simp; omega,?_,some (h5.length + 1,0),g + 1,false,vs ++ [[.int .u8 ((subst (Zht m) t.ps[g]).hd:Int),.slice na (subst (Zht m) t.ps[g]).ps.length nc ne]],Zce o7,by simp [hvl],Vec.mk1 ?_,fun j hj=>by cases hj; right; omega,?_⟩
    ·rw [h7o j (by omega) (fun j0 hj0=>by rcases ha j0 hj0 with hh | hh <;> omega) (by omega)]; exact hS5.eq j hj
    ·rw [h7o _ (Own.lt hz5) (fun j0 hj0=>by rcases ha j0 hj0 with hh | hh <;> omega) (by omega)]; exact hz5
    ·rw [Zbw (by omega),hi7]; simp
    ·intro k v x hv' hx
     have hkeep:∀ {t':Ty} {v':List Zay},Zji (fun j=>(S j ∨ h4.length≤j)∧∀ j0,a=some (j0,0)→j≠j0) h5 t' v'→Zji (fun j=>(S j ∨ h4.length≤j)∧∀ j0,(some (h5.length + 1,0):Pt)=some (j0,0)→j≠j0) (h7.set h3.length (Zcb.cells Zap [.int .u8 (t.hd:Int),.slice (some (h5.length + 1,0)) (g + 1) (g + 1) false] false)) t' v':=by
      intro t' v' hr
      have hr2:=hr.below
      refine Zji.mono (S:=fun j=>((S j ∨ h4.length≤j)∧∀ j0,a=some (j0,0)→j≠j0)∧j < h5.length) (fun j hj=>⟨hj.1.1,fun j0 e0=>by cases e0; have:=hj.2; omega⟩) (hr2.agree fun j hj=>?_)
      refine h7o j hj.2 hj.1.2 ?_
      rcases hj.1.1 with h8 | h8
      ·have:=(hSi j h8).1; omega
      ·omega
     by_cases hkl:k < vs.length
     ·rw [List.getElem?_append_left hkl] at hv'
      exact hkeep (((hp k v x hv' hx).same sq).same s5)
     ·rw [List.getElem?_append_right (by omega)] at hv'
      have hk0:k=vs.length:=by
       by_cases e:k - vs.length=0
       ·omega
       ·rw [List.getElem?_eq_none (by simp; omega)] at hv'; cases hv'
      subst hk0
      simp at hv'
      subst hv'
      rw [hvl,List.getElem?_eq_getElem hgt] at hx
      cases hx
      refine hkeep (Zji.mono (S:=fun j=>S j ∨ hq'.length≤j) (fun j hj=>⟨?_,fun j0 e0=>?_⟩) hn5)
      ·rcases hj with h8 | h8
       ·exact .inl h8
       ·exact .inr (by omega)
      ·have hj0:=(hv.same sq).lt' e0
       rcases hj with h8 | h8
       ·have:=(hSi j h8).1
        rcases ha j0 e0 with hh | hh <;> omega
       ·omega
   ·apply Zjn.A6x0i
    have:g=t.ps.length:=by omega
    subst this
    have hrow:=Zew (o:=0) (n:=2) ho (by simp)
    rw [hrow]
    simp only [List.drop_zero,List.take_succ_cons,List.take_zero,Zao,Zae,Zam,Zax,Zaj]
    rw [Zbg hz (by simp)]
    simp only [Zas]
    rw [Zew (Zce hz) (by simp [putRow])]
    simp only [putRow,List.take_zero,List.nil_append,List.length_cons,List.length_nil,List.cons_append,List.drop_succ_cons,List.drop_zero,List.drop_nil,List.append_nil,List.take_succ_cons,Zao,Zae,Zax,Zaj,Zam]
    refine ⟨⟨by simp; exact hS.le,fun j hj=>by rw [Zbw (by omega)]; exact hS.eq j hj⟩,_,rfl,?_⟩
    have hget:∀ j,j≠h0.length→(h'.set h0.length (Zcb.cells Zap [.int .u8 (t.hd:Int),.slice a t.ps.length cp e] false))[j]?=h'[j]?:=fun j hj=>Zbw (fun e=>hj e.symm)
    rcases hv with ⟨rfl,h0',_,hvs⟩ | ⟨j0,rfl,hj0⟩
    ·-- no parts
     have hps:t.ps=[]:=List.eq_nil_of_length_eq_zero h0'
     cases t with
     | k d=>
      simp only [subst,show Zht m d=none from hno,Option.getD_none]
      exact ⟨_,_,_,rfl⟩
     | u d x=>simp [Ty.ps] at hps
     | w d x y=>simp [Ty.ps] at hps
    ·have hj0n:j0≠h0.length:=by rcases ha j0 rfl with hh | hh <;> omega
     have hS4:=ha j0 rfl
     have:=Zji.make (S:=fun j=>S j ∨ h.length≤j) (h:=h'.set h0.length (Zcb.cells Zap [.int .u8 (t.hd:Int),.slice (some (j0,0)) t.ps.length cp e] false)) (t:=subst (Zht m) t) (j:=j0) (n:=t.ps.length) (c:=cp) (e:=e) (vs:=vs)
      (by rw [hsp,List.length_map]) (.inr (by rcases hS4 with hh | hh <;> omega)) (by rw [hget j0 hj0n]; exact hj0) hvl (fun k w x hw hx=>by
       rw [hsp,List.getElem?_map] at hx
       obtain ⟨y,hy,rfl⟩:=Option.map_eq_some_iff.1 hx
       have hr:=hp k w y hw hy
       refine Zji.mono (S:=fun j=>(S j ∨ h4.length≤j)∧∀ j1,(some (j0,0):Pt)=some (j1,0)→j≠j1) (fun j hj=>hj.1.imp id (fun h=>by omega)) (hr.agree fun j hj=>hget j ?_)
       rcases hj.1 with h8 | h8
       ·have:=(hSi j h8).1; omega
       ·omega)
     rw [hsh] at this
     exact this
  cases hv:Zee t.hd with
  | true=>
   obtain ⟨k,hk6,hkv,hix⟩:=Ybf hv
   rw [hix]
   obtain ⟨x,hx1,hx2,hx3⟩:=rm1.get (k:=k) hk6
   rw [hkv,Option.bind_some] at hx3
   have hge:decide ((k:Int) ≥ 0)=true:=by simp
   simp only [hge,Zcv,Int.toNat_natCast,hx1,hx2,Zao,Zae,Zam]
   refine ⟨by omega,?_⟩
   cases hg:Zht m t.hd with
   | none=>
    rw [hg] at hx3
    simp only at hx3
    subst hx3
    simp only [Zax,show ((0:Int) == 0)=true from rfl,Bool.not_true,Zca]
    exact main hg
   | some u=>
    rw [hg] at hx3
    simp only at hx3
    have hu:=hmo _ _ hg
    obtain ⟨ux,uc,ue,hux⟩:=hx3.shape
    simp only [List.cons.injEq,and_true] at hux
    obtain ⟨hux1,hux2⟩:=hux
    rw [hux1,hux2] at hx3
    rw [hux1,hux2]
    have hu0:(((u.hd:Nat):Int) == 0)=false:=by
     have:=Zxl hu
     have hne:u.hd≠0:=fun e=>by rw [e] at this; simp at this
     simp; omega
    simp only [Zax,Zaj,hu0,Bool.not_false,Zcv]
    rw [Zbg oz (by simp)]
    simp only [Zas]
    rw [Zew (Zce oz) (by simp [putRow])]
    simp only [putRow,List.take_zero,List.nil_append,List.length_cons,List.length_nil,List.cons_append,List.drop_succ_cons,List.drop_zero,List.drop_nil,List.append_nil,List.take_succ_cons,Zao,Zae,Zax,Zaj,Zam]
    refine ⟨by omega,⟨by simp; omega,fun j hj=>by rw [Zbw (by omega)]; exact S1.eq j hj⟩,_,rfl,?_⟩
    have hsub:subst (Zht m) t=u:=by rw [Zto ht hv]; simp [subst,hg]
    rw [hsub]
    refine Zji.mono (S:=S) (fun j hj=>.inl hj) (hx3.agree fun j hj=>Zbw (by have:=(hSi j hj).1; omega))
  | false=>
   rw [Ygm ht hv]
   have hge:decide ((-1:Int) ≥ 0)=false:=by decide
   simp only [hge,Zca]
   exact main (hmn _ hv)
end Go.Sim

set_option linter.unusedVariables false
set_option linter.unusedSimpArgs false
set_option maxRecDepth 20000
namespace Go.Sim
open Go Go.RowKit

end Go.Sim

set_option linter.unusedSimpArgs false
set_option linter.unusedVariables false
namespace Go.Sim

def Yvw:Ty→List Nat
 | .k c=>if Zee c then [c] else []
 | .u c a=>Yvw a
 | .w c a b=>Yvw a ++ Yvw b
structure Xcc (m m':Bd) (a t:Ty):Prop where
 keep:∀ v u,Zht m v=some u→Zht m' v=some u
 sub:subst (Zht m') a=t
 vars:∀ v,(Zht m' v).isSome=true ↔ ((Zht m v).isSome=true ∨ v∈Yvw a)
end Go.Sim

set_option linter.unusedSimpArgs false
set_option linter.unusedVariables false
namespace Go.Sim

structure Xbm (f:Nat→Option Ty):Prop where
 nv:∀ v,Zee v=false→f v=none
 ok:∀ v t,f v=some t→t.ok=true
theorem Zzu {f:Nat→Option Ty} (hf:Xbm f):∀ {a:Ty},a.ok=true→(subst f a).ok=true
 | .k c,h=>by
  simp only [subst]
  cases hb:f c with
  | none=>exact h
  | some t=>exact hf.ok c t hb
 | .u c a,h=>by
  simp only [Ty.ok,Bool.and_eq_true] at h
  simp only [subst,Ty.ok,Bool.and_eq_true]; exact ⟨h.1,Zzu hf h.2⟩
 | .w c a b,h=>by
  simp only [Ty.ok,Bool.and_eq_true] at h
  simp only [subst,Ty.ok,Bool.and_eq_true]; exact ⟨⟨h.1.1,Zzu hf h.1.2⟩,Zzu hf h.2⟩
noncomputable def after (f g:Nat→Option Ty) (v:Nat):Option Ty:=if Zee v then some (subst g ((f v).getD (.k v))) else none
noncomputable def Zvb (a b:Ins):Bool:=decide (a.1.1=b.1.1) && Zti b.1.2 a.1.2
end Go.Sim

set_option linter.unusedVariables false
set_option linter.unusedSimpArgs false
set_option maxRecDepth 20000
namespace Go.Sim
open Go Go.RowKit

noncomputable def Yws (w:Wd) (x:Int):Bool:=decide (x ≥ 0) && decide (x < (w.is.length:Nat))
noncomputable def Yht (w:Wd) (x y:Int):Bool:=Zcz w && Yws w x && Yws w y && Zvb (w.is.getD x.toNat (([],[]),[])) (w.is.getD y.toNat (([],[]),[]))
theorem Yfs {w:Wd} {k:Nat} (h:k < w.is.length):Yws w (k:Int)=true:=by unfold Yws; simp; omega
theorem Ymg {w:Wd} {x:Int} (h:Yws w x=true):∃ k:Nat,x=k∧k < w.is.length:=by
 unfold Yws at h; simp at h; exact ⟨x.toNat,by omega,by omega⟩
theorem Yoy {h:Zaa} {a a':Pt} {n c n' c':Nat} {e e':Bool} {i k:Ins} :
  Zak pg Zrb [.agg [.str i.1.1,.str i.1.2,.slice a n c e],.agg [.str k.1.1,.str k.1.2,.slice a' n' c' e']] h fun v h'=>v=.bool (Zvb i k)∧Zbc h.length h h':=by
 apply Zvo.call
 simp only [Zaw]
 generalize hh0:h ++ [Zcb.cells Zad [.str i.1.1,.str i.1.2,.slice a n c e] false]=h0
 generalize hh1:h0 ++ [Zcb.cells Zad [.str k.1.1,.str k.1.2,.slice a' n' c' e'] false]=h1
 have s0:Zbc h.length h h0:=by rw [← hh0]; exact Zal
 have s1:Zbc h0.length h0 h1:=by rw [← hh1]; exact Zal
 have o0:h0[h.length]?=some (.cells Zad [.str i.1.1,.str i.1.2,.slice a n c e] false):=by rw [← hh0]; simp
 have o1:=s1.get o0 (Own.lt o0)
 have k1:h1[h0.length]?=some (.cells Zad [.str k.1.1,.str k.1.2,.slice a' n' c' e'] false):=by rw [← hh1]; simp
 have S1:=s0.cat s1
 simp only [Zan o1,Zan k1,Nat.zero_add,List.getElem?_cons_succ,List.getElem?_cons_zero,Zah]
 refine Zar (fun he=>?_) (fun he=>⟨by unfold Zvb; simp [he],S1⟩)
 refine (Zxb k.1.2 i.1.2 h1).mono ?_
 rintro v h2 ⟨rfl,s2⟩
 simp only [Zaq]
 exact ⟨by unfold Zvb; simp [he],S1.cat s2⟩
theorem Zul {h:Zaa} {a0 a1:Pt} {n0 c0 n1 c1:Nat} {w:Wd} (r:Zkr h a0 n0 c0 a1 n1 c1 w) {k:Nat} (hk:k < w.is.length) :
  ∃ i o a n cp e,a1=some (i,o)∧i < h.length∧Zbe h (.ptr (some (i,o + k * 3))) 3=some [.str w.is[k].1.1,.str w.is[k].1.2,.slice a n cp e]∧Zag h (.ptr (some (i,o + k * 3)))=some (.str w.is[k].1.1)∧Zag h (.ptr (some (i,o + k * 3 + 1)))=some (.str w.is[k].1.2)∧Row h.length h a (n * 2) (Zdb eP w.is[k].2)∧w.is[k].2.length=n:=by
 have hl:=r.len1
 obtain ⟨i,o,hk',a,n,cp,e,h1,h2,h3,h4,h5,h6,h7,h8⟩:=r.inst (k:=k) (by omega)
 exact ⟨i,o,a,n,cp,e,h1,h2,h3,h4,h5,h7,h8⟩
theorem Yfw {h:Zaa} {a0 a1:Pt} {n0 c0 n1 c1:Nat} {e0 e1:Bool} {w:Wd} {x y:Int} (r:Zkr h a0 n0 c0 a1 n1 c1 w) (b:WB w) :
  Zak pg Zom [.agg [.slice a0 n0 c0 e0,.slice a1 n1 c1 e1],.int .i64 x,.int .i64 y] h fun v h'=>v=.bool (Yht w x y)∧Zbc h.length h h':=by
 have hl1:=r.len1
 have hli:=b.li
 apply Zol.call
 simp only [Zaw]
 generalize hh0:h ++ [Zcb.cells Zac [.slice a0 n0 c0 e0,.slice a1 n1 c1 e1] false]=h0
 have s0:Zbc h.length h h0:=by rw [← hh0]; exact Zal
 have w0:h0[h.length]?=some (Zlu a0 n0 c0 e0 a1 n1 c1 e1):=by rw [← hh0]; simp [Zlu]
 rw [Zth w0]
 simp only [Zao,Zae,Zam,Zaj]
 refine (Zkw (r.same s0) b).mono ?_
 rintro v h2 ⟨rfl,s2⟩
 have S2:=s0.cat s2
 have w2:=s2.get w0 (Own.lt w0)
 simp only [Zaq]
 refine Zbs (fun b1=>⟨by unfold Yht; rw [b1]; rfl,S2⟩) (fun b1=>?_)
 simp only [Zra w2,Nat.zero_add,List.getElem?_cons_succ,List.getElem?_cons_zero,Zaj]
 rw [IntWalk.i64_in _ (by omega)]
 have hin:∀ z:Int,decide (0≤z∧z≤((n1:Nat):Int) - 1)=Yws w z:=fun z=>by
  unfold Yws; rw [hl1,Bool.eq_iff_iff]; simp; omega
 refine Yfi.mono ?_
 rintro v h3 ⟨rfl,rfl⟩
 simp only [Zaq,hin]
 refine Zbs (fun b2=>⟨by unfold Yht; rw [b2]; simp,S2⟩) (fun b2=>?_)
 simp only [Zra w2,List.getElem?_cons_succ,List.getElem?_cons_zero,Zaj]
 rw [IntWalk.i64_in _ (by omega)]
 refine Yfi.mono ?_
 rintro v h3 ⟨rfl,rfl⟩
 simp only [Zaq,hin]
 refine Zbs (fun b3=>⟨by unfold Yht; rw [b3]; simp,S2⟩) (fun b3=>?_)
 obtain ⟨k,rfl,hk⟩:=Ymg b2
 obtain ⟨l,rfl,hl⟩:=Ymg b3
 apply Zol.J3i
 obtain ⟨i,o,ka,kn,kc,ke,rfl,hi,_,hc1,hd1,_⟩:=Zul (r.same S2) hk
 obtain ⟨i',o',la,ln,lc,le,he,hi',_,hc2,hd2,_⟩:=Zul (r.same S2) hl
 cases he
 simp only [Zra w2,Nat.zero_add,Nat.add_zero,List.getElem?_cons_succ,List.getElem?_cons_zero,Zaj,Zau,Int.toNat_natCast,hc1,hc2,hd1,hd2,Zah,true_and]
 have hval:Yht w (k:Int) (l:Int)=Zvb w.is[k] w.is[l]:=by
  unfold Yht
  rw [b1,Yfs hk,Yfs hl,Int.toNat_natCast,Int.toNat_natCast,Zgh hk,Zgh hl]; rfl
 refine ⟨by omega,by omega,Zar (fun he=>?_) (fun he=>⟨by rw [hval]; unfold Zvb; simp [he],S2⟩)⟩
 have hbk:=b.is _ (List.getElem_mem hk)
 have hbl:=b.is _ (List.getElem_mem hl)
 refine ⟨by omega,by omega,(Zvm _ _ hbl.2.1 hbk.2.1 _).mono ?_⟩
 rintro v h4 ⟨rfl,s4⟩
 have hce:∀ z,Zag h4 (.ptr (some (i,z)))=Zag h3 (.ptr (some (i,z))):=fun z=>by simp only [Zag,s4.eq i hi]
 simp only [Zaq,Zra (s4.get w2 (Own.lt w2)),hce,hc1,List.getElem?_cons_succ,List.getElem?_cons_zero,true_and]
 exact ⟨by rw [hval]; unfold Zvb; simp [he],S2.cat s4⟩
end Go.Sim

set_option linter.unusedVariables false
set_option linter.unusedSimpArgs false
set_option maxRecDepth 20000
namespace Go.Sim
open Go Go.RowKit

theorem Yrw:pg.underlying Ykq=some (.slice Zky):=by kernel_rfl
theorem Xan:pg.cellsOf Zky=1:=by kernel_rfl
theorem Xal:pg.okElem Zky=true:=by kernel_rfl
theorem Xam:pg.bytesOf Zky≤127:=Nat.le_of_ble_eq_true (by kernel_rfl)
def ixs {α:Type} (f:α→Bool) (l:List α):List Int:=(l.zipIdx.filter fun p=>f p.1).map fun p=>(p.2:Int)
theorem Ymt {α:Type} (f:α→Bool) {l:List α} {g:Nat} (h:g < l.length):ixs f (l.take (g + 1))=ixs f (l.take g) ++ if f l[g] then [(g:Int)] else []:=by
 unfold ixs
 rw [List.take_succ_eq_append_getElem h,List.zipIdx_append,List.filter_append,List.map_append]
 congr 1
 simp only [List.length_take,Nat.min_eq_left (by omega:g≤l.length),Nat.zero_add,List.zipIdx_singleton,List.filter_cons,List.filter_nil]
 split <;> simp
theorem Yfl {α:Type} (f:α→Bool) (l:List α):(ixs f l).length≤l.length:=by
 unfold ixs; rw [List.length_map]; exact Nat.le_trans (List.length_filter_le _ _) (by simp)
theorem fa1 {j o:Nat} {K:Zay→Prop}:Zja pg Zab (.ptr (some (j,o))) 1 K=K (.ptr (some (j,o + 1))):=by kernel_rfl
end Go.Sim

set_option linter.unusedVariables false
set_option linter.unusedSimpArgs false
set_option maxRecDepth 20000
namespace Go.Sim
open Go Go.RowKit

noncomputable def Zpa (n:Nd) (i:Ins):Bool:=decide (i.1.1=n.1) && Zti i.1.2 n.2
noncomputable def Zjl (w:Wd) (n:Nd):List Int:=ixs (Zpa n) w.is
noncomputable def Zyb (w:Wd) (n:Nd):List Int:=if Zcz w && Zdq w n then Zjl w n else []
theorem Yji {α:Type} {f:α→Bool} {l:List α} {x:Int} (h:x∈ixs f l):∃ k:Nat,∃ hk:k < l.length,x=k∧f l[k]=true:=by
 unfold ixs at h
 obtain ⟨p,hp,rfl⟩:=List.mem_map.1 h
 obtain ⟨h1,h2⟩:=List.mem_filter.1 hp
 obtain ⟨a,k⟩:=p
 have h3:=List.mem_zipIdx h1
 simp only [Nat.zero_add,Nat.zero_le,Nat.sub_zero,true_and] at h3
 exact ⟨k,h3.1,rfl,by simp only at h2; rw [← h3.2]; exact h2⟩
theorem Yfd {h:Zaa} {a0 a1:Pt} {n0 c0 n1 c1:Nat} {e0 e1:Bool} {w:Wd} {ct tt:List Nat} (r:Zkr h a0 n0 c0 a1 n1 c1 w) (b:WB w) :
  Zak pg Zod [.agg [.slice a0 n0 c0 e0,.slice a1 n1 c1 e1],.agg [.str ct,.str tt]] h fun v h'=>v=.bool (Zcz w && Zdq w (ct,tt))∧Zbc h.length h h':=by
 apply Ztg.call
 simp only [Zaw]
 generalize hh0:h ++ [Zcb.cells Zac [.slice a0 n0 c0 e0,.slice a1 n1 c1 e1] false]=h0
 generalize hh1:h0 ++ [Zcb.cells Zab [.str ct,.str tt] false]=h1
 have s0:Zbc h.length h h0:=by rw [← hh0]; exact Zal
 have s1:Zbc h0.length h0 h1:=by rw [← hh1]; exact Zal
 have w0:h0[h.length]?=some (Zlu a0 n0 c0 e0 a1 n1 c1 e1):=by rw [← hh0]; simp [Zlu]
 have w1:=s1.get w0 (Own.lt w0)
 have i1:h1[h0.length]?=some (.cells Zab [.str ct,.str tt] false):=by rw [← hh1]; simp
 rw [Zth w1]
 simp only [Zao,Zae,Zam,Zaj]
 refine (Zsk (r.same (s0.cat s1)) b).mono ?_
 rintro v h2 ⟨rfl,s2⟩
 simp only [Zaq]
 have i2:=s2.get i1 (Own.lt i1)
 have w2:=s2.get w1 (Own.lt w1)
 refine Zdj (fun b1=>?_) (fun b1=>⟨by rw [b1]; rfl,(s0.cat s1).cat s2⟩)
 rw [Zth w2,Zew i2 (by simp)]
 simp only [List.drop_zero,List.take_succ_cons,List.take_zero,Zao,Zae,Zam,Zaj,Zah]
 refine (Yak (r.same ((s0.cat s1).cat s2)) b).mono ?_
 rintro v h3 ⟨rfl,s3⟩
 simp only [Zaq]
 exact ⟨by rw [b1]; rfl,((s0.cat s1).cat s2).cat s3⟩
theorem Ynm {h:Zaa} {a:Pt} {n c j:Nat} {e:Bool} {ct tt nc nt:List Nat} (hj:h[j]?=some (.cells Zab [.str nc,.str nt] false)) :
  Zak pg Zcx [.agg [.str ct,.str tt,.slice a n c e],.ptr (some (j,0))] h fun v h'=>v=.bool (Zti tt nt)∧Zbc h.length h h':=by
 apply Znf.call
 have s1:Zbc h.length h (h ++ [.cells Zad [.str ct,.str tt,.slice a n c e] false]):=Zal
 simp only [Zaw,Zgm,Nat.zero_add,List.getElem?_cons_succ,List.getElem?_cons_zero,Zah,fa1,Zan (s1.get hj (Own.lt hj))]
 refine (Zxb tt nt _).mono ?_
 rintro v h2 ⟨rfl,s2⟩
 simp only [Zaq]
 exact ⟨by trivial,s1.cat s2⟩
theorem Yql {h:Zaa} {t:TypeId} {x y z a b c:Zay}:Zbb (h ++ [.cells t [x,y,z] false]) (.ptr (some (h.length,0))) [a,b,c]=some (h ++ [.cells t [a,b,c] false]):=Zur rfl
theorem Yoj {h:Zaa} {a0 a1:Pt} {n0 c0 n1 c1 j:Nat} {e0 e1:Bool} {w:Wd} {nd:Nd} (r:Zkr h a0 n0 c0 a1 n1 c1 w) (b:WB w) (hj:h[j]?=some (.cells Zab [.str nd.1,.str nd.2] false)) :
  Zak pg Ztm [.agg [.slice a0 n0 c0 e0,.slice a1 n1 c1 e1],.str nd.1,.fn Zcx [.ptr (some (j,0))]] h fun v h'=>Zbc h.length h h'∧∃ a n c e,v=.slice a n c e∧Zds Zky eI h.length h' a n (Zjl w nd):=by
 have hl1:=r.len1
 have hli:=b.li
 apply Zcn.call
 simp only [Zaw]
 generalize hh0:h ++ [Zcb.cells Zac [.slice a0 n0 c0 e0,.slice a1 n1 c1 e1] false]=h0
 generalize hh1:h0 ++ [Zcb.cells Zky [] false]=h1
 have s0:Zbc h.length h h0:=by rw [← hh0]; exact Zal
 have s1:Zbc h0.length h0 h1:=by rw [← hh1]; exact Zal
 have w0:h0[h.length]?=some (Zlu a0 n0 c0 e0 a1 n1 c1 e1):=by rw [← hh0]; simp [Zlu]
 have w1:=s1.get w0 (Own.lt w0)
 have o1:h1[h0.length]?=some (.cells Zky [] false):=by rw [← hh1]; simp
 have l0:h0.length=h.length + 1:=by rw [← hh0]; simp
 have S1:=s0.cat s1
 simp only [Zra w1,Nat.zero_add,List.getElem?_cons_succ,List.getElem?_cons_zero,Zaj]
 refine Zcn.L3ind _ _ _ _ _ _ _ _ (J:=fun (g:Nat) a4 n4 c4 e4 x14 h'=>x14=(g:Int)∧g≤n1∧Zbc h.length h h'∧n4=(ixs (Zpa nd) (w.is.take g)).length∧Vec Zky h' a4 n4 c4 (Zdb eI (ixs (Zpa nd) (w.is.take g)))∧(∀ i,a4=some (i,0)→h.length≤i)) (fun g=>n1 - g) ?_ 0 _ _ _ _ _ _
  ⟨rfl,by omega,S1,rfl,Vec.mk1 (by simpa [ixs] using o1),fun i hi=>by cases hi; omega⟩
 rintro g a4 n4 c4 e4 x14 h' ⟨rfl,hg,hS,rfl,hv,ha⟩ R hR
 unfold Zcn.L3t
 refine Zar (fun hlt=>?_) (fun hge=>?_)
 ·have hgl:g < w.is.length:=by omega
  obtain ⟨i,o,a2,n2,c2,e2,rfl,_,hr,_,_,hrow,hn⟩:=Zul (r.same hS) hgl
  simp only [Zau,Int.toNat_natCast,hr,Zao,Zae,Zam,Zah,Zaj,Zaw]
  rw [Yql]
  simp only [Zas,Zgm,Nat.zero_add,List.getElem?_cons_succ,List.getElem?_cons_zero,Zah]
  have hil:=Yfl (Zpa nd) (w.is.take g)
  rw [List.length_take] at hil
  have htk:=Ymt (Zpa nd) hgl
  generalize hq:h' ++ [Zcb.cells Zad [.str w.is[g].1.1,.str w.is[g].1.2,.slice a2 n2 c2 e2] false]=hq'
  have sq:Zbc h'.length h' hq':=by rw [← hq]; exact Zal
  have skip:∀ hz,Zbc hq'.length hq' hz→Zpa nd w.is[g]=false→Zcn.J7 (fun v h'=>Zbc h.length h h'∧∃ a n c e,v=.slice a n c e∧Zds Zky eI h.length h' a n (Zjl w nd)) R (g:Int) (((n1:Nat):Int)) (some (i,o)) n1 c1 e1 nd.1 (.ptr (some (j,0))) a4 (ixs (Zpa nd) (w.is.take g)).length c4 e4 hz:=by
   intro hz sz hno
   apply Zcn.J7i
   rw [hno] at htk
   simp only [Bool.false_eq_true,if_false,List.append_nil] at htk
   rw [Zbm (by omega)]
   exact hR (g + 1) _ _ _ _ _ _ (by omega) ⟨rfl,by omega,(hS.cat sq).cat sz,by rw [htk],by rw [htk]; exact (hv.same sq).same sz,ha⟩
  refine ⟨by omega,Zar (fun hc=>?_) (fun hc=>skip _ (Zbc.refl _ _) (by unfold Zpa; simp [hc]))⟩
  rw [← hq,Yxw,hq]
  simp only [Zao,Zae,Zam,Zah,Zaj]
  refine (Ynm (sq.get (hS.get hj (Own.lt hj)) (by have:=Own.lt hj; have:=hS.le; omega))).mono ?_
  rintro v h3 ⟨rfl,s3⟩
  simp only [Zaq]
  refine Zdj (fun hi=>?_) (fun hi=>skip _ s3 (by unfold Zpa; simp [hi]))
  have hyes:Zpa nd w.is[g]=true:=by unfold Zpa; simp [hc,hi]
  rw [hyes,if_pos rfl] at htk
  have S3:=(hS.cat sq).cat s3
  refine ((hv.same sq).same s3).push Yrw Xan Xal Xam (by rw [Zat Zre]; omega) rfl (by omega) (fun h6 hl6 hi6 hk6=>?_)
  simp only [Zaj]
  apply Zcn.J7i
  rw [Zbm (by omega)]
  have hle:=S3.le
  refine hR (g + 1) _ _ _ _ _ _ (by omega) ⟨rfl,by omega,⟨by omega,fun j hj=>?_⟩,by rw [htk]; simp,Vec.mk1 ?_,fun i hi=>by cases hi; omega⟩
  ·rw [hk6 j (by omega) fun i hi=>by have:=ha i hi; omega]; exact S3.eq j hj
  ·rw [hi6,htk,Zgw]; rfl
 ·apply Zcn.A3x0i
  have:g=n1:=by omega
  subst this
  rw [List.take_of_length_le (by omega)] at hv ⊢
  exact ⟨hS,_,_,_,_,rfl,hv.fresh (b:=h.length) rfl fun i hi=>ha i hi⟩
def Yxy (w:Wd) (n:Nd) (h:Zaa) (v:Zay) (h':Zaa):Prop:=Zbc h.length h h'∧∃ a m c e,v=.slice a m c e∧Zds Zky eI h.length h' a m (Zjl w n)
theorem Zds.low {α:Type} {ty:TypeId} {enc:α→List Zay} {b b':Nat} {h:Zaa} {a:Pt} {n:Nat} {l:List α} (f:Zds ty enc b h a n l) (hb:b'≤b):Zds ty enc b' h a n l:=
 ⟨f.1,f.2.imp id fun ⟨i,ha,hbi,hi⟩=>⟨i,ha,by omega,hi⟩⟩
theorem Yeq {h:Zaa} {a0 a1:Pt} {n0 c0 n1 c1:Nat} {e0 e1:Bool} {w:Wd} {nd:Nd} (r:Zkr h a0 n0 c0 a1 n1 c1 w) (b:WB w) :
  Zak pg Znj [.agg [.slice a0 n0 c0 e0,.slice a1 n1 c1 e1],.agg [.str nd.1,.str nd.2]] h (Yxy w nd h):=by
 apply Zru.call
 simp only [Zaw]
 generalize hh0:h ++ [Zcb.cells Zac [.slice a0 n0 c0 e0,.slice a1 n1 c1 e1] false]=h0
 generalize hh1:h0 ++ [Zcb.cells Zab [.str nd.1,.str nd.2] false]=h1
 have s0:Zbc h.length h h0:=by rw [← hh0]; exact Zal
 have s1:Zbc h0.length h0 h1:=by rw [← hh1]; exact Zal
 have w0:h0[h.length]?=some (Zlu a0 n0 c0 e0 a1 n1 c1 e1):=by rw [← hh0]; simp [Zlu]
 have w1:=s1.get w0 (Own.lt w0)
 have i1:h1[h0.length]?=some (.cells Zab [.str nd.1,.str nd.2] false):=by rw [← hh1]; simp
 have S1:=s0.cat s1
 rw [Zth w1]
 simp only [Zao,Zae,Zam,Zaj,Zan i1,Nat.zero_add,List.getElem?_cons_zero,Zah]
 refine (Yoj (r.same S1) b i1).mono ?_
 rintro v h2 ⟨s2,a,n,c,e,rfl,f⟩
 simp only [Zaj]
 exact ⟨S1.cat s2,a,n,c,e,rfl,f.low S1.le⟩
def Xbk (w:Wd) (n:Nd) (h:Zaa) (v:Zay) (h':Zaa):Prop:=Zbc h.length h h'∧∃ a m c e,v=.tup [.slice a m c e,.bool (Zcz w && Zdq w n)]∧Zds Zky eI h.length h' a m (Zyb w n)
theorem Zvt {h:Zaa} {a0 a1:Pt} {n0 c0 n1 c1:Nat} {e0 e1:Bool} {w:Wd} {nd:Nd} (r:Zkr h a0 n0 c0 a1 n1 c1 w) (b:WB w) (hnt:nd.2.length≤1048576) :
  Zak pg Zir [.agg [.slice a0 n0 c0 e0,.slice a1 n1 c1 e1],.agg [.str nd.1,.str nd.2]] h (Yxy w nd h):=by
 have hl1:=r.len1
 have hli:=b.li
 apply Zex.call
 simp only [Zaw]
 generalize hh0:h ++ [Zcb.cells Zac [.slice a0 n0 c0 e0,.slice a1 n1 c1 e1] false]=h0
 generalize hh1:h0 ++ [Zcb.cells Zab [.str nd.1,.str nd.2] false]=h1
 generalize hh2:h1 ++ [Zcb.cells Zky [] false]=h2
 have s0:Zbc h.length h h0:=by rw [← hh0]; exact Zal
 have s1:Zbc h0.length h0 h1:=by rw [← hh1]; exact Zal
 have s2:Zbc h1.length h1 h2:=by rw [← hh2]; exact Zal
 have w0:h0[h.length]?=some (Zlu a0 n0 c0 e0 a1 n1 c1 e1):=by rw [← hh0]; simp [Zlu]
 have w2:=s2.get (s1.get w0 (Own.lt w0)) (by have:=Own.lt w0; have:=s1.le; omega)
 have i1:h1[h0.length]?=some (.cells Zab [.str nd.1,.str nd.2] false):=by rw [← hh1]; simp
 have i2:=s2.get i1 (Own.lt i1)
 have o2:h2[h1.length]?=some (.cells Zky [] false):=by rw [← hh2]; simp
 have S2:=(s0.cat s1).cat s2
 have hle1:=(s0.cat s1).le
 have l1':h1.length=h0.length + 1:=by rw [← hh1]; simp
 simp only [Zra w2,Nat.zero_add,List.getElem?_cons_succ,List.getElem?_cons_zero,Zaj]
 refine Zex.L3ind _ _ _ _ _ _ _ _ (J:=fun (g:Nat) a4 n4 c4 e4 x12 h'=>x12=(g:Int)∧g≤n1∧Zbc h.length h h'∧h'[h0.length]?=some (.cells Zab [.str nd.1,.str nd.2] false)∧n4=(ixs (Zpa nd) (w.is.take g)).length∧Vec Zky h' a4 n4 c4 (Zdb eI (ixs (Zpa nd) (w.is.take g)))∧(∀ i,a4=some (i,0)→h1.length≤i)) (fun g=>n1 - g) ?_ 0 _ _ _ _ _ _
  ⟨rfl,by omega,S2,i2,rfl,Vec.mk1 (by simpa [ixs] using o2),fun i hi=>by cases hi; omega⟩
 rintro g a4 n4 c4 e4 x12 h' ⟨rfl,hg,hS,hi0,rfl,hv,ha⟩ R hR
 have hlt1:=Own.lt i1
 unfold Zex.L3t
 refine Zar (fun hlt=>?_) (fun hge=>?_)
 ·have hgl:g < w.is.length:=by omega
  obtain ⟨i,o,a2,n2,c2,e2,rfl,_,hr,_,_,hrow,hn⟩:=Zul (r.same hS) hgl
  simp only [Zau,Int.toNat_natCast,hr,Zao,Zae,Zam,Zah,Zaj,Zaw]
  rw [Yql]
  have hil:=Yfl (Zpa nd) (w.is.take g)
  rw [List.length_take] at hil
  have htk:=Ymt (Zpa nd) hgl
  have hb:=b.is _ (List.getElem_mem hgl)
  generalize hq:h' ++ [Zcb.cells Zad [.str w.is[g].1.1,.str w.is[g].1.2,.slice a2 n2 c2 e2] false]=hq'
  have sq:Zbc h'.length h' hq':=by rw [← hq]; exact Zal
  have oq:hq'[h'.length]?=some (.cells Zad [.str w.is[g].1.1,.str w.is[g].1.2,.slice a2 n2 c2 e2] false):=by rw [← hq]; simp
  have iq:=sq.get hi0 (Own.lt hi0)
  simp only [Zas,Zan oq,Zan iq,Nat.zero_add,List.getElem?_cons_succ,List.getElem?_cons_zero,Zah]
  have skip:∀ hz,Zbc hq'.length hq' hz→Zpa nd w.is[g]=false→Zex.J7 (Yxy w nd h) R (g:Int) (((n1:Nat):Int)) (some (i,o)) n1 c1 e1 h0.length 0 a4 (ixs (Zpa nd) (w.is.take g)).length c4 e4 hz:=by
   intro hz sz hno
   apply Zex.J7i
   rw [hno] at htk
   simp only [Bool.false_eq_true,if_false,List.append_nil] at htk
   rw [Zbm (by omega)]
   exact hR (g + 1) _ _ _ _ _ _ (by omega) ⟨rfl,by omega,(hS.cat sq).cat sz,sz.get iq (Own.lt iq),by rw [htk],by rw [htk]; exact (hv.same sq).same sz,ha⟩
  refine ⟨by omega,Zar (fun hc=>?_) (fun hc=>skip _ (Zbc.refl _ _) (by unfold Zpa; simp [hc]))⟩
  refine (Zvm _ _ hb.2.1 hnt _).mono ?_
  rintro v h3 ⟨rfl,s3⟩
  simp only [Zaq]
  refine Zdj (fun hi=>?_) (fun hi=>skip _ s3 (by unfold Zpa; simp [hi]))
  have hyes:Zpa nd w.is[g]=true:=by unfold Zpa; simp [hc,hi]
  rw [hyes,if_pos rfl] at htk
  have S3:=(hS.cat sq).cat s3
  have i3:=s3.get iq (Own.lt iq)
  refine ((hv.same sq).same s3).push Yrw Xan Xal Xam (by rw [Zat Zre]; omega) rfl (by omega) (fun h6 hl6 hi6 hk6=>?_)
  simp only [Zaj]
  apply Zex.J7i
  rw [Zbm (by omega)]
  have hle:=S3.le
  have hle3:=Own.lt i3
  refine hR (g + 1) _ _ _ _ _ _ (by omega) ⟨rfl,by omega,⟨by omega,fun j hj=>?_⟩,?_,by rw [htk]; simp,Vec.mk1 ?_,fun i hi=>by cases hi; have:=s3.le; have:=sq.le; have:=Own.lt hi0; omega⟩
  ·rw [hk6 j (by omega) fun i hi=>by have:=ha i hi; omega]; exact S3.eq j hj
  ·rw [hk6 _ hle3 fun i hi=>by have:=ha i hi; omega]; exact i3
  ·rw [hi6,htk,Zgw]; rfl
 ·apply Zex.A3x0i
  have:g=n1:=by omega
  subst this
  rw [List.take_of_length_le (by omega)] at hv ⊢
  exact ⟨hS,_,_,_,_,rfl,hv.fresh (b:=h.length) rfl fun i hi=>by have:=ha i hi; omega⟩
theorem Zzi {h:Zaa} {a0 a1:Pt} {n0 c0 n1 c1:Nat} {e0 e1:Bool} {w:Wd} {nd:Nd} (r:Zkr h a0 n0 c0 a1 n1 c1 w) (b:WB w) (hnt:nd.2.length≤1048576) :
  Zak pg Zlt [.agg [.slice a0 n0 c0 e0,.slice a1 n1 c1 e1],.agg [.str nd.1,.str nd.2]] h (Xbk w nd h):=by
 apply Zpr.call
 simp only [Zaw]
 generalize hh0:h ++ [Zcb.cells Zac [.slice a0 n0 c0 e0,.slice a1 n1 c1 e1] false]=h0
 generalize hh1:h0 ++ [Zcb.cells Zab [.str nd.1,.str nd.2] false]=h1
 have s0:Zbc h.length h h0:=by rw [← hh0]; exact Zal
 have s1:Zbc h0.length h0 h1:=by rw [← hh1]; exact Zal
 have w0:h0[h.length]?=some (Zlu a0 n0 c0 e0 a1 n1 c1 e1):=by rw [← hh0]; simp [Zlu]
 have w1:=s1.get w0 (Own.lt w0)
 have i1:h1[h0.length]?=some (.cells Zab [.str nd.1,.str nd.2] false):=by rw [← hh1]; simp
 have S1:=s0.cat s1
 rw [Zth w1,Zew i1 (by simp)]
 simp only [List.drop_zero,List.take_succ_cons,List.take_zero,Zao,Zae,Zam,Zaj,Zah]
 refine (Zud (r.same S1) b hnt).mono ?_
 rintro v h2 ⟨rfl,s2⟩
 have i2:=s2.get i1 (Own.lt i1)
 have w2:=s2.get w1 (Own.lt w1)
 have S2:=S1.cat s2
 simp only [Zaq]
 refine Zbs (fun b1=>⟨S2.cat Zal,_,0,0,true,by rw [b1],by unfold Zyb; rw [b1]; exact ⟨rfl,.inl rfl⟩⟩) (fun b1=>?_)
 rw [Zth w2,Zew i2 (by simp)]
 simp only [List.drop_zero,List.take_succ_cons,List.take_zero,Zao,Zae,Zam,Zaj,Zah]
 refine (Zvt (r.same S2) b hnt).mono ?_
 rintro v h3 ⟨s3,a,n,c,e,rfl,f⟩
 simp only [Zaj]
 exact ⟨S2.cat s3,a,n,c,e,by rw [b1],by unfold Zyb; rw [if_pos b1]; exact f.low S2.le⟩
end Go.Sim

set_option linter.unusedVariables false
set_option linter.unusedSimpArgs false
set_option maxRecDepth 20000
namespace Go.Sim
open Go Go.RowKit

def Zpe (w:Wd) (x:Int):Ins:=w.is.getD x.toNat (([],[]),[])
theorem Zxh {w:Wd} {k:Nat} (h:k < w.is.length):Zpe w (k:Int)=w.is[k]:=by unfold Zpe; rw [Int.toNat_natCast,Zgh h]
noncomputable def Yho (w:Wd) (l:List Int) (x:Int):Bool:=l.all fun k=>Zvb (Zpe w x) (Zpe w k)
noncomputable def Zrc (w:Wd) (l:List Int):Int:=match l.find? (Yho w l) with | some x=>x | none=>-1
noncomputable def Yor (w:Wd) (n:Nd):Int:=Zrc w (Zyb w n)
theorem Yge {α:Type} {f:α→Bool} {l:List α} {g:Nat} (hg:g < l.length) (h:(l.take g).find? f=none) (k:f l[g]=true):l.find? f=some l[g]:=by
 have h1:l=l.take g ++ l[g] :: l.drop (g + 1):=by rw [← List.drop_eq_getElem_cons hg,List.take_append_drop]
 conv=>lhs; rw [h1]
 rw [List.find?_append,h,List.find?_cons,k]; rfl
theorem Zvj {α:Type} {f:α→Bool} {l:List α} {g:Nat} (hg:g < l.length) (h:(l.take g).find? f=none) (k:f l[g]=false):(l.take (g + 1)).find? f=none:=by
 rw [List.take_succ_eq_append_getElem hg,List.find?_append,h]; simp [k]
def InW (w:Wd) (l:List Int):Prop:=∀ x∈l,∃ k:Nat,x=k∧k < w.is.length
theorem Yfu (w:Wd) (n:Nd):InW w (Zjl w n):=fun x hx=>by obtain ⟨k,hk,e,_⟩:=Yji hx; exact ⟨k,e,hk⟩
theorem Yva (w:Wd) (n:Nd):InW w (Zyb w n):=fun x hx=>by
 unfold Zyb at hx
 split at hx
 ·exact Yfu w n x hx
 ·cases hx
theorem Xby {j o:Nat} {K:Zay→Prop}:Zja pg Zac (.ptr (some (j,o))) 1 K=K (.ptr (some (j,o + 1))):=by kernel_rfl
theorem Row.i64 {b:Nat} {h:Zaa} {a:Pt} {n:Nat} {l:List Int} (r:Row b h a n (Zdb eI l)) {k:Nat} (hk:k < n):∃ i o,∃ hk':k < l.length,a=some (i,o)∧i < b∧Zag h (.ptr (some (i,o + k * 1)))=some (.int .i64 l[k]):=by
 obtain ⟨i,o,hk',ha,hi,hc⟩:=Row.el1 Zre r hk
 exact ⟨i,o,hk',ha,hi,hc⟩
theorem Yog {h:Zaa} {a0 a1:Pt} {n0 c0 n1 c1 j j2:Nat} {e0 e1:Bool} {w:Wd} {x y:Int} (r:Zkr h a0 n0 c0 a1 n1 c1 w) (hj:h[j]?=some (Zlu a0 n0 c0 e0 a1 n1 c1 e1)) (hj2:h[j2]?=some (.cells Zky [.int .i64 x] false))
  (hx:∃ k:Nat,x=k∧k < w.is.length) (hy:∃ k:Nat,y=k∧k < w.is.length) :
  Zak pg Zcp [.int .i64 y,.ptr (some (j,0)),.ptr (some (j2,0))] h fun v h'=>v=.bool (!Zvb (Zpe w x) (Zpe w y))∧Zbc h.length h h':=by
 obtain ⟨k,rfl,hk⟩:=hx
 obtain ⟨l,rfl,hl⟩:=hy
 have hl1:=r.len1
 apply Zmn.call
 obtain ⟨i,o,ka,kn,kc,ke,rfl,hi,hr1,_⟩:=Zul r hk
 obtain ⟨i',o',la,ln,lc,le,he,hi',hr2,_⟩:=Zul r hl
 cases he
 simp only [Xby,Zra hj,Zan hj2,Nat.zero_add,List.getElem?_cons_succ,List.getElem?_cons_zero,Zaj,Zau,Int.toNat_natCast,hr1,hr2,Zao,Zae,Zam,Zah,Zax,true_and]
 refine ⟨by omega,by omega,Yoy.mono ?_⟩
 rintro v h3 ⟨rfl,s3⟩
 simp only [Zaq]
 refine ⟨by rw [Zan (s3.get hj2 (Own.lt hj2))]; rfl,by rw [Zra (s3.get hj (Own.lt hj))]; rfl,?_,s3⟩
 rw [Zxh hk,Zxh hl]
theorem You {h:Zaa} {a0 a1:Pt} {n0 c0 n1 c1 j j2:Nat} {e0 e1:Bool} {w:Wd} {x:Int} {a:Pt} {n c:Nat} {e:Bool} {l:List Int} (r:Zkr h a0 n0 c0 a1 n1 c1 w) (hj:h[j]?=some (Zlu a0 n0 c0 e0 a1 n1 c1 e1)) (hj2:h[j2]?=some (.cells Zky [.int .i64 x] false))
  (rl:Row h.length h a n (Zdb eI l)) (hn:n≤1048576) (hx:∃ k:Nat,x=k∧k < w.is.length) (hin:InW w l) :
  Zak pg Zhb [.slice a n c e,.fn Zcp [.ptr (some (j,0)),.ptr (some (j2,0))]] h fun v h'=>(∃ z:Int,v=.int .i64 z∧decide (z ≥ 0)=!Yho w l x)∧Zbc h.length h h':=by
 have hll:l.length=n:=by have:=rl.1; rw [Zat Zre] at this; omega
 apply Zcl.call
 refine Zcl.L2ind _ _ _ _ _ _ _ _ (J:=fun (g:Nat) x8 h'=>x8=(g:Int)∧g≤n∧Zbc h.length h h'∧(l.take g).all (fun k=>Zvb (Zpe w x) (Zpe w k))=true) (fun g=>n - g) ?_ 0 _ _ ⟨rfl,by omega,Zbc.refl _ _,rfl⟩
 rintro g x8 h' ⟨rfl,hg,hS,hk⟩ R hR
 unfold Zcl.L2t
 refine Zar (fun hlt=>?_) (fun hge=>?_)
 ·obtain ⟨i,o,hgl,rfl,_,hr⟩:=(rl.same hS).i64 (k:=g) (by omega)
  simp only [Zau,Int.toNat_natCast,hr,Zax]
  refine ⟨by omega,(Yog (r.same hS) (hS.get hj (Own.lt hj)) (hS.get hj2 (Own.lt hj2)) hx (hin _ (List.getElem_mem hgl))).mono ?_⟩
  rintro v h2 ⟨rfl,s2⟩
  simp only [Zaq]
  have hS2:=hS.cat s2
  refine Zbs (fun he=>?_) (fun he=>?_)
  ·exact ⟨⟨_,rfl,by unfold Yho; rw [Zqz hgl he]; simp⟩,hS2⟩
  ·rw [Zbm (by omega)]
   exact hR (g + 1) _ _ (by omega) ⟨rfl,by omega,hS2,Zgp hgl hk he⟩
 ·apply Zcl.A2x0i
  have:g=n:=by omega
  subst this
  rw [List.take_of_length_le (by omega)] at hk
  exact ⟨⟨_,rfl,by unfold Yho; rw [hk]; rfl⟩,hS⟩
theorem Xab {h:Zaa} {t:TypeId} {x a:Zay}:Zbb (h ++ [.cells t [x] false]) (.ptr (some (h.length,0))) [a]=some (h ++ [.cells t [a] false]):=Zur rfl
theorem Yvy {h:Zaa} {a0 a1:Pt} {n0 c0 n1 c1:Nat} {e0 e1:Bool} {w:Wd} {a:Pt} {n c:Nat} {e:Bool} {l:List Int} (r:Zkr h a0 n0 c0 a1 n1 c1 w) (rl:Row h.length h a n (Zdb eI l)) (hn:n≤1048576) (hin:InW w l) :
  Zak pg Zmr [.agg [.slice a0 n0 c0 e0,.slice a1 n1 c1 e1],.slice a n c e] h fun v h'=>v=.int .i64 (Zrc w l)∧Zbc h.length h h':=by
 have hll:l.length=n:=by have:=rl.1; rw [Zat Zre] at this; omega
 apply Zhn.call
 simp only [Zaw]
 generalize hh0:h ++ [Zcb.cells Zac [.slice a0 n0 c0 e0,.slice a1 n1 c1 e1] false]=h0
 have s0:Zbc h.length h h0:=by rw [← hh0]; exact Zal
 have w0:h0[h.length]?=some (Zlu a0 n0 c0 e0 a1 n1 c1 e1):=by rw [← hh0]; simp [Zlu]
 have l0:h0.length=h.length + 1:=by rw [← hh0]; simp
 refine Zhn.L2ind _ _ _ _ _ _ _ _ _ _ _ _ (J:=fun (g:Nat) x9 h'=>x9=(g:Int)∧g≤n∧Zbc h0.length h0 h'∧(l.take g).find? (Yho w l)=none) (fun g=>n - g) ?_ 0 _ _ ⟨rfl,by omega,Zbc.refl _ _,rfl⟩
 rintro g x9 h' ⟨rfl,hg,hS,hk⟩ R hR
 have SS:=s0.cat hS
 unfold Zhn.L2t
 refine Zar (fun hlt=>?_) (fun hge=>?_)
 ·obtain ⟨i,o,hgl,rfl,_,hr⟩:=(rl.same SS).i64 (k:=g) (by omega)
  simp only [Zau,Int.toNat_natCast,hr,Zax,Zaw]
  rw [Xab]
  generalize hq:h' ++ [Zcb.cells Zky [.int .i64 l[g]] false]=hq'
  have sq:Zbc h'.length h' hq':=by rw [← hq]; exact Zal
  have oq:hq'[h'.length]?=some (.cells Zky [.int .i64 l[g]] false):=by rw [← hq]; simp
  have Sq:=SS.cat sq
  have wq:=sq.get (hS.get w0 (Own.lt w0)) (by have:=Own.lt w0; have:=hS.le; omega)
  simp only [Zas]
  refine ⟨by omega,?_⟩
  apply Zep.call
  refine (You (r.same Sq) wq oq (rl.same' Sq) hn (hin _ (List.getElem_mem hgl)) hin).mono ?_
  rintro v h5 ⟨⟨z,rfl,hz⟩,s5⟩
  simp only [Zax,Zaq,hz,Bool.not_not]
  refine Zdj (fun ht=>?_) (fun ht=>?_)
  ·simp only [Zan (s5.get oq (Own.lt oq)),List.getElem?_cons_zero,Zax]
   refine ⟨?_,Sq.cat s5⟩
   unfold Zrc
   rw [Yge hgl hk ht]
  ·rw [Zbm (by omega)]
   exact hR (g + 1) _ _ (by omega) ⟨rfl,by omega,(hS.cat sq).cat s5,Zvj hgl hk ht⟩
 ·apply Zhn.A2x0i
  have:g=n:=by omega
  subst this
  rw [List.take_of_length_le (by omega)] at hk
  exact ⟨by unfold Zrc; rw [hk],SS⟩
theorem Yvr {w:Wd} {x y:Int} (hw:Zcz w=true) (hx:∃ k:Nat,x=k∧k < w.is.length) (hy:∃ k:Nat,y=k∧k < w.is.length):Yht w x y=Zvb (Zpe w x) (Zpe w y):=by
 obtain ⟨k,rfl,hk⟩:=hx
 obtain ⟨l,rfl,hl⟩:=hy
 unfold Yht
 rw [hw,Yfs hk,Yfs hl]; rfl
theorem Ybh {h:Zaa} {a0 a1:Pt} {n0 c0 n1 c1:Nat} {e0 e1:Bool} {w:Wd} {nd:Nd} (r:Zkr h a0 n0 c0 a1 n1 c1 w) (b:WB w) (hnt:nd.2.length≤1048576) :
  Zak pg Zml [.agg [.slice a0 n0 c0 e0,.slice a1 n1 c1 e1],.agg [.str nd.1,.str nd.2]] h fun v h'=>v=.int .i64 (Yor w nd)∧Zbc h.length h h':=by
 have hl1:=r.len1
 have hli:=b.li
 apply Zeg.call
 simp only [Zaw]
 generalize hh0:h ++ [Zcb.cells Zac [.slice a0 n0 c0 e0,.slice a1 n1 c1 e1] false]=h0
 generalize hh1:h0 ++ [Zcb.cells Zab [.str nd.1,.str nd.2] false]=h1
 have s0:Zbc h.length h h0:=by rw [← hh0]; exact Zal
 have s1:Zbc h0.length h0 h1:=by rw [← hh1]; exact Zal
 have w0:h0[h.length]?=some (Zlu a0 n0 c0 e0 a1 n1 c1 e1):=by rw [← hh0]; simp [Zlu]
 have w1:=s1.get w0 (Own.lt w0)
 have i1:h1[h0.length]?=some (.cells Zab [.str nd.1,.str nd.2] false):=by rw [← hh1]; simp
 have S1:=s0.cat s1
 rw [Zth w1,Zew i1 (by simp)]
 simp only [List.drop_zero,List.take_succ_cons,List.take_zero,Zao,Zae,Zam,Zaj,Zah]
 refine (Zzi (r.same S1) b hnt).mono ?_
 rintro v h2 ⟨s2,a,n,c,e,rfl,f⟩
 have w2:=s2.get w1 (Own.lt w1)
 have S2:=S1.cat s2
 simp only [Zco,Zae,Zaj,Zaq,Zam]
 have hcl:=Yfl (Zpa nd) w.is
 have hnl:n≤1048576:=by
  have:=f.1
  unfold Zyb at this
  split at this
  ·unfold Zjl at this; omega
  ·simp at this; omega
 have rl:Row h2.length h2 a n (Zdb eI (Zyb w nd)):=by simpa using f.row Zre
 have hll:(Zyb w nd).length=n:=f.1
 have hin:=Yva w nd
 have hwv:∀ x∈Zyb w nd,Zcz w=true:=fun x hx=>by
  unfold Zyb at hx
  split at hx
  ·rename_i h; simp only [Bool.and_eq_true] at h; exact h.1
  ·cases hx
 generalize hlg:Zyb w nd=l at *
 refine Zeg.L3ind _ _ _ _ _ _ _ _ _ _ _ _ (J:=fun (g:Nat) x20 h'=>x20=(g:Int)∧g≤n∧Zbc h2.length h2 h'∧(l.take g).find? (Yho w l)=none) (fun g=>n - g) ?_ 0 _ _ ⟨rfl,by omega,Zbc.refl _ _,rfl⟩
 rintro g x20 h' ⟨rfl,hg,hS,hk⟩ R hR
 unfold Zeg.L3t
 refine Zar (fun hlt=>?_) (fun hge=>?_)
 ·obtain ⟨i,o,hgl,rfl,_,hr⟩:=(rl.same hS).i64 (k:=g) (by omega)
  simp only [Zau,Int.toNat_natCast,hr,Zax]
  refine ⟨by omega,?_⟩
  refine Zeg.L7ind _ _ _ _ _ _ _ _ _ _ _ _ _ _ _ _ _ _ _ _ (J:=fun (q:Nat) x9 x26 h3=>x26=(q:Int)∧q≤n∧Zbc h'.length h' h3∧x9=(l.take q).all fun k=>Zvb (Zpe w l[g]) (Zpe w k)) (fun q=>n - q) ?_ 0 _ _ _ ⟨rfl,by omega,Zbc.refl _ _,rfl⟩
  rintro q x9 x26 h3 ⟨rfl,hq,hS3,rfl⟩ R7 hR7
  unfold Zeg.L7t
  have SS:=hS.cat hS3
  refine Zar (fun hlt3=>?_) (fun hge3=>?_)
  ·obtain ⟨i',o',hql,he,_,hr3⟩:=(rl.same SS).i64 (k:=q) (by omega)
   cases he
   simp only [Zau,Int.toNat_natCast,hr3,Zax]
   have htk:(l.take (q + 1)).all (fun k=>Zvb (Zpe w l[g]) (Zpe w k))=((l.take q).all (fun k=>Zvb (Zpe w l[g]) (Zpe w k)) && Zvb (Zpe w l[g]) (Zpe w l[q])):=by
    rw [List.take_succ_eq_append_getElem hql,List.all_append]; simp
   have go:∀ (h4:Zaa) (b9:Bool),Zbc h3.length h3 h4→b9=(l.take (q + 1)).all (fun k=>Zvb (Zpe w l[g]) (Zpe w k))→Zeg.J10 (fun v h'=>v=Zay.int .i64 (Yor w nd)∧Zbc h.length h h') R R7 (q:Int) (((n:Nat):Int)) (some (i,o)) n c e b9 h.length 0 l[g] (g:Int) (((n:Nat):Int)) (some (i,o)) n c e (some (i,o)) n c e h4:=by
    intro h4 b9 s4 hb9
    apply Zeg.J10i
    rw [Zbm (by omega)]
    exact hR7 (q + 1) _ _ _ (by omega) ⟨rfl,by omega,hS3.cat s4,hb9⟩
   refine ⟨by omega,Zdj (fun hx=>?_) (fun hx=>go _ _ (Zbc.refl _ _) (by rw [htk,hx]; rfl))⟩
   have w3:=SS.get w2 (Own.lt w2)
   rw [Zth w3]
   simp only [Zao,Zae,Zam,Zaj]
   refine (Yfw (r.same (S2.cat SS)) b).mono ?_
   rintro v h4 ⟨rfl,s4⟩
   simp only [Zaq]
   refine go _ _ s4 ?_
   rw [htk,hx,Yvr (hwv _ (List.getElem_mem hgl)) (hin _ (List.getElem_mem hgl)) (hin _ (List.getElem_mem hql))]; rfl
  ·apply Zeg.A7x2i
   have:q=n:=by omega
   subst this
   rw [List.take_of_length_le (by omega)]
   refine Zdj (fun ht=>?_) (fun ht=>?_)
   ·refine ⟨?_,S2.cat SS⟩
    unfold Yor Zrc
    rw [hlg,Yge hgl hk ht]
   ·rw [Zbm (by omega)]
    exact hR (g + 1) _ _ (by omega) ⟨rfl,by omega,SS,Zvj hgl hk ht⟩
 ·apply Zeg.A3x0i
  have:g=n:=by omega
  subst this
  rw [List.take_of_length_le (by omega)] at hk
  exact ⟨by unfold Yor Zrc; rw [hlg,hk],S2.cat hS⟩
end Go.Sim
