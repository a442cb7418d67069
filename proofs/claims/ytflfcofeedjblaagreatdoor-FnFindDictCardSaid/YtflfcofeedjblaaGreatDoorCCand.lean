/- A part of the proof of a statement of this seat: see the text that holds the theorem. No condition. -/
import Derived.Test.YtflfcofeedjblaaGreatDoorPTCSMatch
import Derived.Test.YtflfcofeedjblaaGreatDoorCApply
import Derived.Test.YtflfcofeedjblaaGreatDoorPTCSApply
import Derived.Test.YtflfcofeedjblaaGreatDoorPTCSFold
import Derived.Test.YtflfcofeedjblaaGreatDoorNm
import Derived.Test.YtflfcofeedjblaaGreatDoorCWVar2
set_option linter.unusedVariables false
set_option linter.unusedSimpArgs false
set_option linter.all false
set_option linter.unusedVariables false
set_option linter.unusedSimpArgs false
set_option maxRecDepth 20000
namespace Go.Sim
open Go Go.RowKit

def Yib:List Nat:=[88,89,90,120,121,122,49,50,51,52,53,54]
theorem Zxj {v:Nat} (hv:Zdp v=true):∃ k:Nat,k < 6∧Zei[k]?=some v∧Zuv Yib v=(k:Int):=by
 have:=(Zrg v).2 hv
 simp only [Zei,List.mem_cons,List.not_mem_nil,or_false] at this
 rcases this with rfl | rfl | rfl | rfl | rfl | rfl
 ·exact ⟨0,by omega,rfl,rfl⟩
 ·exact ⟨1,by omega,rfl,rfl⟩
 ·exact ⟨2,by omega,rfl,rfl⟩
 ·exact ⟨3,by omega,rfl,rfl⟩
 ·exact ⟨4,by omega,rfl,rfl⟩
 ·exact ⟨5,by omega,rfl,rfl⟩
theorem Zus {t:Ty} (h:t.ok=true):t.hd∈[105,98,117,108,109,112,120,121,122,88,89,90]:=by
 have:=Ty.ok_ar h
 unfold arN Zmo Zdp at this
 simp only [Bool.or_eq_true,beq_iff_eq] at this
 simp only [List.mem_cons,List.not_mem_nil,or_false]
 split at this
 ·omega
 ·split at this
  ·omega
  ·split at this
   ·omega
   ·omega
theorem Ycc {t:Ty} (h:t.ok=true) (hv:Zdp t.hd=false):Zuv Yib t.hd=-1:=by
 apply Zxh
 have:=Zus h
 simp only [List.mem_cons,List.not_mem_nil,or_false] at this
 rcases this with e | e | e | e | e | e | e | e | e | e | e | e <;> rw [e] at hv ⊢ <;> first | (exact absurd hv (by decide)) | decide
theorem Zvl {h:Zaa} (c:Nat):Zaj pg Zjf [.int .u8 (c:Int)] h fun v h'=>v=.int .i64 (Zuv Yib c)∧h'=h:=by
 apply Ztd.call
 refine (Ybw Yib c (by decide)).mono ?_
 rintro v h1 ⟨rfl,rfl⟩
 simp only [Zas]
 exact ⟨by trivial,by trivial⟩
def eR (x:Zat × Zat):List Zat:=[x.1,x.2]
theorem Zqr (x:Zat × Zat):(eR x).length=2:=rfl
theorem Ybt {α:Type} {enc:α→List Zat} {w:Nat} (hw:∀ x,(enc x).length=w):∀ {l:List α} {k:Nat} {x:α},k < l.length→putRow (Zdg enc l) (k * w) (enc x)=Zdg enc (l.set k x)
 | [],k,x,h=>by simp at h
 | y :: l,0,x,_=>by
  simp only [Nat.zero_mul,Zlw,List.set_cons_zero,putRow,List.take_zero,List.nil_append,Nat.zero_add,hw]
  rw [← hw y,List.drop_left]
 | y :: l,k + 1,x,h=>by
  have ih:=Ybt hw (l:=l) (k:=k) (x:=x) (by simpa using h)
  unfold putRow at ih ⊢
  simp only [Zlw,List.set_cons_succ]
  rw [← ih,Nat.succ_mul,Nat.add_comm (k * w) w,← hw y,List.take_length_add_append,Nat.add_assoc,List.drop_length_add_append]; simp only [List.append_assoc]
def Ztl (S:Nat→Prop) (h:Zaa) (i:Nat) (m:Bd):Prop:=∃ rows:List (Zat × Zat),rows.length=12∧h[i]?=some (.cells Zdi (Zdg eR rows) false) ∧
 ∀ (k:Nat) (x:Zat × Zat),rows[k]?=some x→match (Zei[k]?).bind (Zgn m) with | some t=>Zhw S h t (eR x) | none=>x=(.int .u8 0,.slice none 0 0 true)
theorem Ztl.keep {S:Nat→Prop} {h h':Zaa} {i:Nat} {m:Bd} (r:Ztl S h i m) (hi:h'[i]?=h[i]?) (hh:∀ j,S j→j < h.length→h'[j]?=h[j]?):Ztl S h' i m:=by
 obtain ⟨rows,h1,h2,h3⟩:=r
 refine ⟨rows,h1,by rw [hi]; exact h2,fun k x hx=>?_⟩
 have:=h3 k x hx
 split at this
 ·exact this.keep hh
 ·exact this
theorem Ztl.same {S:Nat→Prop} {h h':Zaa} {i:Nat} {m:Bd} (r:Ztl S h i m) (s:Zba h.length h h'):Ztl S h' i m:=by
 have hl:i < h.length:=by obtain ⟨_,_,h2,_⟩:=r; exact Own.lt h2
 exact r.keep (s.eq i hl) fun j _ hj=>s.eq j hj
theorem Ztl.lt {S:Nat→Prop} {h:Zaa} {i:Nat} {m:Bd} (r:Ztl S h i m):i < h.length:=by obtain ⟨_,_,h2,_⟩:=r; exact Own.lt h2
theorem Ztl.nil {S:Nat→Prop} {h:Zaa} {i:Nat} (hi:h[i]?=some (.cells Zdi (Zdg eR (List.replicate 12 (.int .u8 0,.slice none 0 0 true))) false)):Ztl S h i []:=by
 refine ⟨_,by simp,hi,fun k x hx=>?_⟩
 have:(Zei[k]?).bind (Zgn [])=none:=by cases Zei[k]? <;> rfl
 rw [this]
 rw [List.getElem?_replicate] at hx
 split at hx
 ·cases hx; rfl
 ·cases hx
theorem Ztl.get {S:Nat→Prop} {h:Zaa} {i:Nat} {m:Bd} (r:Ztl S h i m) {k:Nat} (hk:k < 12):∃ x:Zat × Zat,Zae h (.ptr (some (i,0 + k * 2 + 0)))=some x.1∧Zbj h (.ptr (some (i,0 + k * 2))) 2=some [x.1,x.2] ∧
  match (Zei[k]?).bind (Zgn m) with | some t=>Zhw S h t [x.1,x.2] | none=>x=(.int .u8 0,.slice none 0 0 true):=by
 obtain ⟨rows,h1,h2,h3⟩:=r
 have hrow:Row h.length h (some (i,0)) (12 * 2) (Zdg eR rows):=⟨by rw [Zav Zqr,h1],.inr ⟨i,0,_,_,_,rfl,Own.lt h2,h2,by rw [Zav Zqr,h1]; simp,by rw [List.drop_zero,List.take_of_length_le (by rw [Zav Zqr,h1]; simp)]⟩⟩
 obtain ⟨i',o',hk',he,_,hr,hc⟩:=Row.el Zqr hrow h1 hk (by omega)
 cases he
 exact ⟨rows[k],by have:=hc 0 (by omega); simpa [eR] using this,hr,h3 k _ (List.getElem?_eq_getElem hk')⟩
def Yov (S:Nat→Prop) (h:Zaa) (i:Nat) (m:Bd):Prop:=∃ rows:List (Zat × Zat),rows.length=12∧h[i]?=some (.cells Zdi (Zdg eR rows) false) ∧
 ∀ (k:Nat) (x:Zat × Zat),k < 6→rows[k]?=some x→match (Zei[k]?).bind (Zgn m) with | some t=>Zhw S h t (eR x) | none=>x=(.int .u8 0,.slice none 0 0 true)
theorem Ztl.w {S:Nat→Prop} {h:Zaa} {i:Nat} {m:Bd} (r:Ztl S h i m):Yov S h i m:=by
 obtain ⟨rows,h1,h2,h3⟩:=r
 exact ⟨rows,h1,h2,fun k x _ hx=>h3 k x hx⟩
theorem Yov.lt {S:Nat→Prop} {h:Zaa} {i:Nat} {m:Bd} (r:Yov S h i m):i < h.length:=by obtain ⟨_,_,h2,_⟩:=r; exact Own.lt h2
theorem Yov.same {S:Nat→Prop} {h h':Zaa} {i:Nat} {m:Bd} (r:Yov S h i m) (s:Zba h.length h h'):Yov S h' i m:=by
 obtain ⟨rows,h1,h2,h3⟩:=r
 refine ⟨rows,h1,by rw [s.eq i (Own.lt h2)]; exact h2,fun k x hk hx=>?_⟩
 have:=h3 k x hk hx
 split at this
 ·exact this.keep fun j _ hj=>s.eq j hj
 ·exact this
theorem Yov.get {S:Nat→Prop} {h:Zaa} {i:Nat} {m:Bd} (r:Yov S h i m) {k:Nat} (hk:k < 6):∃ x:Zat × Zat,Zae h (.ptr (some (i,0 + k * 2 + 0)))=some x.1∧Zbj h (.ptr (some (i,0 + k * 2))) 2=some [x.1,x.2] ∧
  match (Zei[k]?).bind (Zgn m) with | some t=>Zhw S h t [x.1,x.2] | none=>x=(.int .u8 0,.slice none 0 0 true):=by
 obtain ⟨rows,h1,h2,h3⟩:=r
 have hrow:Row h.length h (some (i,0)) (12 * 2) (Zdg eR rows):=⟨by rw [Zav Zqr,h1],.inr ⟨i,0,_,_,_,rfl,Own.lt h2,h2,by rw [Zav Zqr,h1]; simp,by rw [List.drop_zero,List.take_of_length_le (by rw [Zav Zqr,h1]; simp)]⟩⟩
 obtain ⟨i',o',hk',he,_,hr,hc⟩:=Row.el Zqr hrow h1 (show k < 12 by omega) (by omega)
 cases he
 exact ⟨rows[k],by have:=hc 0 (by omega); simpa [eR] using this,hr,h3 k _ hk (List.getElem?_eq_getElem hk')⟩
theorem Ztl.put {S:Nat→Prop} {h:Zaa} {i:Nat} {m:Bd} (r:Ztl S h i m) (hSi:∀ j,S j→j≠i) {k v:Nat} (hk:Zei[k]?=some v) (hg:Zgn m v=none) {t:Ty} {x y:Zat} (ht:Zhw S h t [x,y]) :
  ∃ h',Zaz h (.ptr (some (i,0 + k * 2))) [x,y]=some h'∧Zec i h h'∧Ztl S h' i (m ++ [(v,t)]):=by
 obtain ⟨rows,h1,h2,h3⟩:=r
 have hk6:k < 6:=(List.getElem?_eq_some_iff.1 hk).1
 have hput:putRow (Zdg eR rows) (k * 2) (eR (x,y))=Zdg eR (rows.set k (x,y)):=Ybt Zqr (by omega)
 refine ⟨h.set i (.cells Zdi (Zdg eR (rows.set k (x,y))) false),?_,Zec.set _ _ _,?_⟩
 ·rw [Nat.zero_add,Zbd h2 (by rw [Zav Zqr,h1]; simp; omega),← hput]; rfl
 ·have hkeep:∀ j,S j→j < h.length→(h.set i (.cells Zdi (Zdg eR (rows.set k (x,y))) false))[j]?=h[j]?:=fun j hj _=>Zbo (fun e=>hSi j hj e.symm)
  refine ⟨_,by simp [h1],Zbx h2,fun k' x' hx'=>?_⟩
  by_cases e:k=k'
  ·subst e
   rw [List.getElem?_set_self (by omega)] at hx'
   cases hx'
   rw [hk]
   simp only [Option.bind_some,Yhl,hg,if_true]
   exact ht.keep hkeep
  ·rw [List.getElem?_set_ne e] at hx'
   have:=h3 k' x' hx'
   have hb:(Zei[k']?).bind (Zgn (m ++ [(v,t)]))=(Zei[k']?).bind (Zgn m):=by
    cases hv':Zei[k']? with
    | none=>rfl
    | some w=>
     simp only [Option.bind_some,Yhl]
     cases hb:Zgn m w with
     | some u=>rfl
     | none=>
      have:¬ v=w:=fun e'=>by
       subst e'
       have h5:=List.getElem?_eq_some_iff.1 hk
       have h6:=List.getElem?_eq_some_iff.1 hv'
       exact e ((List.getElem_inj (h₀:=h5.1) (h₁:=h6.1) Zpw).1 (h5.2.trans h6.2.symm))
      simp [this]
   rw [hb]
   split at this
   ·exact this.keep hkeep
   ·exact this
def Yvs (S:Nat→Prop) (h:Zaa) (i:Nat) (r:Option Bd) (v:Zat) (h':Zaa):Prop:=Zec i h h'∧(match r with | some m'=>v=.bool true∧Ztl S h' i m' | none=>v=.bool false)
theorem Zec.of_same {i:Nat} {h h':Zaa} (s:Zba h.length h h'):Zec i h h':=⟨s.le,fun j hj _=>s.eq j hj⟩
theorem Zzt:∀ (N:Nat) {a t:Ty} {S:Nat→Prop} {h:Zaa} {va vt:List Zat} {i n:Nat} {m:Bd},a.size≤N→a.ok=true→t.ok=true→n≤1048576→t.txt.length≤n→BOk n m→(∀ j,S j→j≠i)→Zhw S h a va→Zhw S h t vt→Ztl S h i m →
  Zaj pg Zlp [.ptr (some (i,0)),.agg va,.agg vt] h (Yvs S h i (matchT m a t))
 | 0,a,t,S,h,va,vt,i,n,m,hN,_,_,_,_,_,_,_,_,_=>by have:=a.size_ps; omega
 | N + 1,a,t,S,h,va,vt,i,n,m,hN,ha,ht,hB,hn,bo,hSi,ra,rt,rm=>by
  have hcase:=Ydl (m:=m) ha ht
  obtain ⟨aa,ca,ea,vas,rfl,rowa,hSa,hval,hva⟩:=id ra.parts
  obtain ⟨at',ct,et,vts,rfl,rowt,hSt,hvtl,hvt⟩:=id rt.parts
  have hps2:a.ps.length≤2:=by cases a <;> simp [Ty.ps]
  have hil:=rm.lt
  apply Zjh.call
  simp only [Zax]
  generalize hh0:h ++ [Zby.cells Zak [.int .u8 (a.hd:Int),.slice aa a.ps.length ca ea] false]=h0
  generalize hh1:h0 ++ [Zby.cells Zak [.int .u8 (t.hd:Int),.slice at' t.ps.length ct et] false]=h1
  have s0:Zba h.length h h0:=by rw [← hh0]; exact Zam
  have s1:Zba h0.length h0 h1:=by rw [← hh1]; exact Zam
  have o0:h0[h.length]?=some (.cells Zak [.int .u8 (a.hd:Int),.slice aa a.ps.length ca ea] false):=by rw [← hh0]; simp
  have oa:=s1.get o0 (Own.lt o0)
  have ot:h1[h0.length]?=some (.cells Zak [.int .u8 (t.hd:Int),.slice at' t.ps.length ct et] false):=by rw [← hh1]; simp
  have S1:=s0.cat s1
  have l0:h0.length=h.length + 1:=by rw [← hh0]; simp
  have l1:h1.length=h.length + 2:=by rw [← hh1]; simp [l0]
  simp only [Zal oa,Nat.zero_add,List.getElem?_cons_succ,List.getElem?_cons_zero,Zas]
  refine (Zvl a.hd).mono ?_
  rintro v h2 ⟨rfl,rfl⟩
  have rm1:=rm.same S1
  have K1:Zec i h h2:=Zec.of_same S1
  simp only [Zas,Zaw]
  cases hv:Zdp a.hd with
  | true=>
   rw [hv] at hcase
   simp only [if_true] at hcase
   obtain ⟨k,hk6,hkv,hix⟩:=Zxj hv
   rw [hix]
   obtain ⟨x,hx1,hx2,hx3⟩:=rm1.get (k:=k) (by omega)
   rw [hkv,Option.bind_some] at hx3
   have hge:decide ((k:Int) ≥ 0)=true:=by simp
   simp only [hge,Zcp,Int.toNat_natCast,hx1,hx2,Zed ot (show 0 + 2≤_ by simp),List.drop_zero,List.take_succ_cons,List.take_zero,Zap,Zaf,Zao,Zas,Zah]
   refine ⟨by omega,?_⟩
   cases hg:Zgn m a.hd with
   | none=>
    rw [hg] at hx3
    simp only at hx3
    subst hx3
    have hbn:Zqg m a.hd t=some (m ++ [(a.hd,t)]):=by unfold Zqg; rw [hg]
    rw [hcase,hbn]
    simp only [Zas,show ((0:Int) == 0)=true from rfl,Zcp]
    obtain ⟨h',hst,hK,hr'⟩:=rm1.put hSi hkv hg (rt.same S1)
    rw [hst]
    simp only [Zar]
    exact ⟨by omega,K1.trans hK,rfl,hr'⟩
   | some u=>
    rw [hg] at hx3
    simp only at hx3
    have hu:=bo.var _ (Zsh hg)
    obtain ⟨ux,uc,ue,hux⟩:=hx3.shape
    simp only [List.cons.injEq,and_true] at hux
    obtain ⟨hux1,hux2⟩:=hux
    rw [hux1,hux2] at hx2 hx3
    rw [hux1,hux2]
    simp only [Zas,Zah]
    have hu0:(((u.hd:Nat):Int) == 0)=false:=by
     have:=Zus hu.2.1
     have hne:u.hd≠0:=fun e=>by rw [e] at this; simp at this
     simp; omega
    simp only [hu0,Zbz]
    have rt1:=rt.same S1
    refine ⟨by omega,(Zpn _ (Nat.le_refl _) (by omega) hu.2.1 hx3).mono ?_⟩
    rintro v h3 ⟨rfl,s3⟩
    have ot3:=s3.get ot (Own.lt ot)
    have rt3:=rt1.same s3
    simp only [Zag,Zed ot3 (show 0 + 2≤_ by simp),List.drop_zero,List.take_succ_cons,List.take_zero,true_and]
    refine (Zpn _ (Nat.le_refl _) (by omega) ht rt3).mono ?_
    rintro v h4 ⟨rfl,s4⟩
    simp only [Zag]
    have hri:∀ hx,Zba h2.length h2 hx→Zbj hx (.ptr (some (i,0 + k * 2))) 2=Zbj h2 (.ptr (some (i,0 + k * 2))) 2:=fun hx sx=>by
     simp only [Zbj,sx.eq i (by omega)]
    rw [hri _ (s3.cat s4),hri _ s3]
    refine ⟨by trivial,?_⟩
    have K4:Zec i h h4:=K1.trans (Zec.of_same (s3.cat s4))
    by_cases he:u=t
    ·subst he
     have hbn:Zqg m a.hd u=some m:=by unfold Zqg; rw [hg]; simp
     rw [hcase,hbn]
     exact ⟨K4,by simp,(rm1.same (s3.cat s4))⟩
    ·have hne:¬ u.txt=t.txt:=fun e=>he (Ty.txt_inj' hu.2.1 ht e)
     have hbn:Zqg m a.hd t=none:=by unfold Zqg; rw [hg]; simp [he]
     rw [hcase,hbn]
     exact ⟨K4,by simp [hne]⟩
  | false=>
   rw [hv] at hcase
   simp only [Bool.false_eq_true,if_false] at hcase
   rw [Ycc ha hv]
   have hge:decide ((-1:Int) ≥ 0)=false:=by decide
   simp only [hge,Zbz,Zal ot,Zal oa,List.getElem?_cons_succ,List.getElem?_cons_zero,Zas,Zah]
   refine Zhn (fun hne=>?_) (fun he=>?_)
   ·rw [if_neg (fun e=>hne (by rw [e]))] at hcase
    rw [hcase]
    exact ⟨K1,rfl⟩
   ·have he':a.hd=t.hd:=by omega
    rw [if_pos he'] at hcase
    rw [hcase]
    have hlen:=Yhv ha ht he'
    refine Zjh.L10ind _ _ _ _ _ _ _ (J:=fun (g:Nat) x43 h'=>x43=(g:Int)∧g≤a.ps.length∧Zec i h2 h'∧∃ m1,matchL m (a.ps.take g) (t.ps.take g)=some m1∧Ztl S h' i m1) (fun g=>a.ps.length - g) ?_ 0 _ _ ⟨rfl,by omega,Zec.refl _ _,m,by simp [matchL],rm1⟩
    rintro g x43 h' ⟨rfl,hg,hK,m1,hm1,rm1⟩ R hR
    unfold Zjh.L10t
    have KK:=K1.trans hK
    refine Zau (fun hlt=>?_) (fun hge=>?_)
    ·have hga:g < a.ps.length:=by omega
     have hgt:g < t.ps.length:=by omega
     have oa1:h'[h.length]?=some (.cells Zak [.int .u8 (a.hd:Int),.slice aa a.ps.length ca ea] false):=by rw [hK.eq _ (Own.lt oa) (by omega)]; exact oa
     have ot1:h'[h0.length]?=some (.cells Zak [.int .u8 (t.hd:Int),.slice at' t.ps.length ct et] false):=by rw [hK.eq _ (Own.lt ot) (by omega)]; exact ot
     obtain ⟨ja,ofa,a3,c3,e3,rfl,hra,hka⟩:=Zhw.get (rowa.keepAt (i:=i) (fun j o h0 e=>hSi j (hSa j o (by omega) e)) KK) hval (fun k w x h1 h2=>(hva k w x h1 h2).keep fun j hj hl=>KK.eq j hl (hSi j hj)) hga
     obtain ⟨jt,oft,a4,c4,e4,rfl,hrt,hkt⟩:=Zhw.get (rowt.keepAt (i:=i) (fun j o h0 e=>hSi j (hSt j o (by omega) e)) KK) hvtl (fun k w x h1 h2=>(hvt k w x h1 h2).keep fun j hj hl=>KK.eq j hl (hSi j hj)) hgt
     simp only [Zaw,Int.toNat_natCast,Zal oa1,Zal ot1,hra,hrt,Nat.zero_add,List.getElem?_cons_succ,List.getElem?_cons_zero,Zah,Zap,Zaf,Zao,Zas,true_and]
     have hma:=List.getElem_mem hga
     have hmt:=List.getElem_mem hgt
     have h1:=Ty.size_part hma
     have h2:=Ty.len_part hmt
     have bo1:BOk n m1:=BOk.matchL (fun x hx=>Ty.ok_ps ha x (List.mem_of_mem_take hx)) (fun x hx=>⟨Ty.ok_ps ht x (List.mem_of_mem_take hx),by have:=Ty.len_part (List.mem_of_mem_take hx); omega⟩) bo hm1
     have htk:=Ztk a.ps t.ps m g hga hgt
     rw [hm1] at htk
     simp only at htk
     refine ⟨by omega,by omega,(Zzt N (by omega) (Ty.ok_ps ha _ hma) (Ty.ok_ps ht _ hmt) hB (by omega) bo1 hSi hka hkt rm1).mono ?_⟩
     rintro v h3 ⟨K3,hres⟩
     have oa3:h3[h.length]?=some (.cells Zak [.int .u8 (a.hd:Int),.slice (some (ja,ofa)) a.ps.length ca ea] false):=by rw [K3.eq _ (Own.lt oa1) (by omega)]; exact oa1
     cases hmm:matchT m1 a.ps[g] t.ps[g] with
     | none=>
      rw [hmm] at hres htk
      subst hres
      simp only [Zaq,Bool.not_false,Zcp,Zal oa3,List.getElem?_cons_succ,List.getElem?_cons_zero,true_and]
      rw [Ztg a.ps t.ps m (g + 1) hlen htk]
      exact ⟨KK.trans K3,rfl⟩
     | some m2=>
      rw [hmm] at hres htk
      obtain ⟨rfl,rm2⟩:=hres
      simp only [Zaq,Bool.not_true,Zbz,Zal oa3,List.getElem?_cons_succ,List.getElem?_cons_zero,true_and]
      rw [Zbq (by omega)]
      exact hR (g + 1) _ _ (by omega) ⟨rfl,by omega,hK.trans K3,m2,htk,rm2⟩
    ·apply Zjh.A10x0i
     have:g=a.ps.length:=by omega
     subst this
     rw [List.take_length,hlen,List.take_length] at hm1
     rw [hm1]
     exact ⟨KK,rfl,rm1⟩
end Go.Sim

set_option linter.unusedVariables false
set_option linter.unusedSimpArgs false
set_option maxRecDepth 20000
namespace Go.Sim
open Go Go.RowKit

theorem Zqe:∀ (N:Nat) {S:Nat→Prop} {h:Zaa} {t:Ty} {v:List Zat},t.size≤N→t.txt.length≤1048576→Zhw S h t v→Zaj pg Zgt [.agg v] h fun x h'=>x=.int .i64 (t.txt.length:Nat)∧Zba h.length h h'
 | 0,S,h,t,v,hN,_,_=>by have:=t.size_ps; omega
 | N + 1,S,h,t,v,hN,hB,r=>by
  obtain ⟨a,c,e,vs,rfl,hrow,hS,hvl,hp⟩:=r.parts
  have hps2:t.ps.length≤2:=by cases t <;> simp [Ty.ps]
  have htx:=t.txt_mids
  have hln:=congrArg List.length htx
  rw [List.length_append,List.length_cons] at hln
  apply Zfz.call
  simp only [Zax,Zfg,Nat.zero_add,List.getElem?_cons_succ,List.getElem?_cons_zero,Zah]
  generalize hh0:h ++ [Zby.cells Zak [.int .u8 (t.hd:Int),.slice a t.ps.length c e] false]=h0
  have s0:Zba h.length h h0:=by rw [← hh0]; exact Zam
  have o0:h0[h.length]?=some (.cells Zak [.int .u8 (t.hd:Int),.slice a t.ps.length c e] false):=by rw [← hh0]; simp
  refine Zfz.L3ind _ _ _ _ _ _ _ _ (J:=fun (g:Nat) x3 x9 h'=>x9=(g:Int)∧g≤t.ps.length∧Zba h.length h h'∧Zba h0.length h0 h'∧x3=((1 + (Zph 0 (t.ps.take g)).length:Nat):Int)) (fun g=>t.ps.length - g) ?_ 0 _ _ _ ⟨rfl,by omega,s0,Zba.refl _ _,by simp [Zph]⟩
  rintro g x3 x9 h' ⟨rfl,hg,hSm,hS1,rfl⟩ R hR
  unfold Zfz.L3t
  have o2:=hS1.get o0 (Own.lt o0)
  refine Zau (fun hlt=>?_) (fun hge=>?_)
  ·have hg':g < t.ps.length:=by omega
   obtain ⟨i,o,a2,c2,e2,rfl,hr,hk⟩:=Zhw.get (hrow.same' hSm) hvl (fun k w x h1 h2=>(hp k w x h1 h2).same hSm) hg'
   simp only [Zaw,Int.toNat_natCast,hr,Zap,Zaf,Zao,Zas,Zah,Zax]
   rw [Zgb]
   simp only [Zar]
   rw [Ypj]
   simp only [Zap,Zaf,Zao,Zas,Zah]
   have hm:=List.getElem_mem hg'
   have h1:=Ty.size_part hm
   have h2:=Ty.len_part hm
   have hmt:=Zvk t.ps 0 g hg'
   have hml:(Zph 0 (t.ps.take (g + 1))).length≤(Zph 0 t.ps).length:=Zyi _ _ _
   have hmtl:=congrArg List.length hmt
   simp only [List.length_append,List.length_cons,Nat.zero_add] at hmtl
   have s2:Zba h'.length h' (h' ++ [.cells Zak [.int .u8 (t.ps[g].hd:Int),.slice a2 t.ps[g].ps.length c2 e2] false]):=Zam
   refine ⟨by omega,(Zqe N (by omega) (by omega) (hk.same s2)).mono ?_⟩
   rintro x h3 ⟨rfl,s3⟩
   simp only [Zas]
   rw [Zbq (by omega),Zbq (by omega),IntWalk.i64_in _ (by omega)]
   exact hR (g + 1) _ _ _ (by omega) ⟨rfl,by omega,(hSm.cat s2).cat s3,(hS1.cat s2).cat s3,by omega⟩
  ·apply Zfz.A3x0i
   have:g=t.ps.length:=by omega
   subst this
   simp only [Zal o2,Nat.zero_add,List.getElem?_cons_succ,List.getElem?_cons_zero,Zah]
   rw [List.take_length]
   refine Zau (fun hpos=>?_) (fun hneg=>?_)
   ·have hne:t.ps≠[]:=fun e=>by rw [e] at hpos; simp at hpos
    rw [if_neg hne] at hln
    apply Zfz.J9i
    simp only [List.length_cons,List.length_nil] at hln
    rw [Zbq (by omega)]
    exact ⟨by congr 1; omega,hSm⟩
   ·have hne:t.ps=[]:=List.eq_nil_of_length_eq_zero (by omega)
    rw [if_pos hne] at hln
    simp only [List.length_nil] at hln
    apply Zfz.J9i
    exact ⟨by congr 1; omega,hSm⟩
def Yeq (m:Bd) (g:Nat):List Nd:=(Zei.take g).filterMap fun v=>(Zgn m v).map fun t=>([v],t.txt)
theorem Ynh (m:Bd) (g:Nat):Yeq m (g + 1)=Yeq m g ++ (match Zei[g]? with | some v=>(match Zgn m v with | some t=>[([v],t.txt)] | none=>[]) | none=>[]):=by
 unfold Yeq
 rw [List.take_succ,List.filterMap_append]
 cases Zei[g]? with
 | none=>simp
 | some v=>cases hb:Zgn m v <;> simp [hb]
theorem Ypq (m:Bd) (g:Nat):(Yeq m g).length≤6:=by
 unfold Yeq
 refine Nat.le_trans (List.length_filterMap_le _ _) ?_
 rw [List.length_take]; exact Nat.le_trans (Nat.min_le_right _ _) (by decide)
theorem Ypi {g v:Nat} (hv:Zei[g]?=some v):sub [88,89,90,120,121,122,49,50,51,52,53,54] (g:Int) ((g:Int) + 1)=[v]:=by
 have hg:g < 6:=(List.getElem?_eq_some_iff.1 hv).1
 match g,hg with
 | 0,_ | 1,_ | 2,_ | 3,_ | 4,_ | 5,_=>simp [Zei] at hv; subst hv; rfl
theorem Yoh {S:Nat→Prop} {h:Zaa} {i:Nat} {m:Bd} (rm:Ztl S h i m) (bo:BOk 60 m) :
  Zaj pg Zql [.ptr (some (i,0))] h fun v h'=>Zba h.length h h'∧∃ a n c e,v=.tup [.slice a n c e,.bool true]∧n≤c∧Zdd Zbl eP h.length h' a n (bdL m):=by
 apply Zft.call
 simp only [Zax,Zaw]
 generalize hh0:h ++ [Zby.cells Zbl [] false]=h0
 have s0:Zba h.length h h0:=by rw [← hh0]; exact Zam
 have l0:h0.length=h.length + 1:=by rw [← hh0]; simp
 have o0:h0[h.length]?=some (.cells Zbl [] false):=by rw [← hh0]; simp
 refine Zft.L3ind _ _ (J:=fun (g:Nat) a4 n4 c4 e4 x10 h'=>x10=(g:Int)∧g≤12∧Zba h.length h h'∧n4=(Yeq m g).length∧n4≤c4∧Vec Zbl h' a4 n4 c4 (Zdg eP (Yeq m g))∧(∀ i,a4=some (i,0)→h.length≤i)) (fun g=>12 - g) ?_ 0 _ _ _ _ _ _
  ⟨rfl,by omega,s0,by simp [Yeq],Nat.le_refl _,Vec.mk1 (by simpa [Yeq] using o0),fun i hi=>by cases hi; omega⟩
 rintro g a4 n4 c4 e4 x10 h' ⟨rfl,hg,hSm,rfl,hnc,hv,ha⟩ R hR
 unfold Zft.L3t
 have hbl:=Ypq m g
 refine Zau (fun hlt=>?_) (fun hge=>?_)
 ·have hg':g < 12:=by omega
  obtain ⟨x,hx1,hx2,hx3⟩:=(rm.same hSm).get hg'
  have il:=(rm.same hSm).lt
  have hx:∃ (d:Nat) (a:Pt) (n c:Nat) (e:Bool),x=(.int .u8 (d:Int),.slice a n c e)∧(match (Zei[g]?).bind (Zgn m) with | some t=>d=t.hd | none=>d=0):=by
   split at hx3
   ·rename_i t ht
    obtain ⟨ua,uc,ue,hu⟩:=hx3.shape
    simp only [List.cons.injEq,and_true] at hu
    exact ⟨t.hd,ua,t.ps.length,uc,ue,by rw [← hu.1,← hu.2],by first | rfl | rw [ht]⟩
   ·rename_i hn; exact ⟨0,none,0,0,true,hx3,by first | rfl | rw [hn]⟩
  obtain ⟨d,ua,un,uc,ue,rfl,hd⟩:=hx
  simp only [Int.toNat_natCast,hx2,Zaw,Zap,Zaf,Zao,Zas,Zah,Zax]
  generalize hq:h' ++ [Zby.cells Zak [.int .u8 0,.slice none 0 0 true] false]=hq'
  have sq:Zba h'.length h' hq':=by rw [← hq]; exact Zam
  have hrq:Zbj hq' (.ptr (some (i,0 + g * 2))) 2=some [.int .u8 (d:Int),.slice ua un uc ue]:=by
   rw [← hx2]; simp only [Zbj,sq.eq i il]
  rw [hrq,← hq,Zgb]
  generalize hw:h' ++ [Zby.cells Zak [.int .u8 (d:Int),.slice ua un uc ue] false]=hw'
  have sw:Zba h'.length h' hw':=by rw [← hw]; exact Zam
  have ow:hw'[h'.length]?=some (.cells Zak [.int .u8 (d:Int),.slice ua un uc ue] false):=by rw [← hw]; simp
  simp only [Zar,Zal ow,Nat.zero_add,List.getElem?_cons_zero,Zas,true_and]
  have SW:=hSm.cat sw
  have hsuc:=Ynh m g
  have skip:(Zei[g]?).bind (Zgn m)=none→Zft.J9 (fun v h'=>Zba h.length h h'∧∃ a n c e,v=.tup [.slice a n c e,.bool true]∧n≤c∧Zdd Zbl eP h.length h' a n (bdL m)) R (g:Int) (some (i,0)) a4 (Yeq m g).length c4 e4 hw':=by
   intro hn
   have hsame:Yeq m (g + 1)=Yeq m g:=by
    rw [hsuc]
    cases hvg:Zei[g]? with
    | none=>simp
    | some v=>rw [hvg,Option.bind_some] at hn; simp [hn]
   apply Zft.J9i
   rw [Zbq (by omega)]
   exact hR (g + 1) _ _ _ _ _ _ (by omega) ⟨rfl,by omega,SW,by rw [hsame],hnc,by rw [hsame]; exact hv.same sw,ha⟩
  refine ⟨by omega,?_⟩
  cases hb:(Zei[g]?).bind (Zgn m) with
  | none=>
   rw [hb] at hd
   simp only at hd
   subst hd
   simp only [show (((0:Nat):Int) == 0)=true from rfl,Zcp]
   exact skip hb
  | some t=>
   rw [hb] at hd hx3
   simp only at hd hx3
   obtain ⟨v,hvg,hbv⟩:=Option.bind_eq_some_iff.1 hb
   have hu:=bo.var _ (Zsh hbv)
   have hg6:g < 6:=(List.getElem?_eq_some_iff.1 hvg).1
   have hd0:((d:Int) == 0)=false:=by
    have:=Zus hu.2.1
    have hne:t.hd≠0:=fun e=>by rw [e] at this; simp at this
    simp; omega
   rw [show decide ((g:Int) ≥ 6)=false by simp; omega]
   simp only [hd0,Zbz]
   apply Zft.J6i
   rw [← hw,Ypj,hw]
   simp only [Zap,Zaf,Zao,Zas,Zah]
   have hu2:t.txt.length≤60:=hu.2.2
   refine (Zqe _ (Nat.le_refl _) (by omega) (hx3.same sw)).mono ?_
   rintro v' h3 ⟨rfl,s3⟩
   have o3:=s3.get ow (Own.lt ow)
   simp only [Zas]
   rw [show decide (((t.txt.length:Nat):Int) > 60)=false by simp; omega]
   simp only [Zbz,Zed o3 (show 0 + 2≤_ by simp),List.drop_zero,List.take_succ_cons,List.take_zero,Zap,Zaf,Zao,Zas,Zah]
   rw [Zbq (by omega),show (((g + 1:Nat):Int))=(g:Int) + 1 by omega,Ypi hvg]
   refine ⟨⟨by omega,by omega,by simp; omega⟩,(Zpn _ (Nat.le_refl _) (by omega) hu.2.1 ((hx3.same sw).same s3)).mono ?_⟩
   rintro v' h4 ⟨rfl,s4⟩
   simp only [Zag,Zax]
   have S4:=(SW.cat s3).cat s4
   refine (((hv.same sw).same s3).same s4).pushN Zxu Ycz Yct Yeh (by rw [Zav Zcz]) rfl (by omega) rfl (by omega) (fun h6 hl6 hi6 hk6=>?_)
   simp only [Zah]
   apply Zft.J9i
   rw [Zbq (by omega)]
   have hle:=S4.le
   have hs':Yeq m (g + 1)=Yeq m g ++ [([v],t.txt)]:=by rw [hsuc,hvg]; simp [hbv]
   refine hR (g + 1) _ _ _ _ _ _ (by omega) ⟨rfl,by omega,⟨by omega,fun j hj=>?_⟩,by rw [hs']; simp,Nat.le_refl _,Vec.mk1 ?_,fun i hi=>by cases hi; omega⟩
   ·rw [hk6 j (by omega) fun i hi=>by have:=ha i hi; omega]; exact S4.eq j hj
   ·rw [hi6,hs',Zii]; rfl
 ·apply Zft.A3x0i
  have:g=12:=by omega
  subst this
  have hb12:Yeq m 12=bdL m:=by unfold Yeq bdL; rw [List.take_of_length_le (by decide)]
  rw [hb12] at hv hnc ⊢
  exact ⟨hSm,_,_,_,_,rfl,hnc,hv.fresh (b:=h.length) rfl fun i hi=>ha i hi⟩
theorem Yml:Zdg eR (List.replicate 12 (Zat.int .u8 0,Zat.slice none 0 0 true))=[.int .u8 0,.slice none 0 0 true,.int .u8 0,.slice none 0 0 true,.int .u8 0,.slice none 0 0 true,.int .u8 0,.slice none 0 0 true,.int .u8 0,.slice none 0 0 true,.int .u8 0,.slice none 0 0 true,.int .u8 0,.slice none 0 0 true,.int .u8 0,.slice none 0 0 true,.int .u8 0,.slice none 0 0 true,.int .u8 0,.slice none 0 0 true,.int .u8 0,.slice none 0 0 true,.int .u8 0,.slice none 0 0 true]:=rfl
theorem Zsi {h h':Zaa} {s:List Nat} {vs:List Zat} (hm:match Zjg s with | some t=>Zhw (Btw h.length h'.length) h' t vs | none=>vs=[.int .u8 0,.slice none 0 0 true]):∃ (d:Int) (a:Pt) (n c:Nat) (e:Bool),vs=[.int .u8 d,.slice a n c e]:=by
 split at hm
 ·obtain ⟨a,c,e,rfl⟩:=hm.shape; exact ⟨_,_,_,_,_,rfl⟩
 ·exact ⟨_,_,_,_,_,hm⟩
theorem Ztq (p s:List Nat) (hp0:p.length≤1048576) (hs0:s.length≤1048576) (h:Zaa):Zaj pg Zjr [.str p,.str s] h (Yhd p s h):=by
 apply Zmh.call
 refine (Znq p (by omega) h).mono ?_
 rintro v h1 ⟨s1,vs1,rfl,r1⟩
 obtain ⟨d1,a1,n1,c1,e1,rfl⟩:=Zsi r1
 simp only [Zci,Zaf,Zdq,Zas,Zah,Zao,Zaq,Zax]
 rw [Zgb]
 generalize hh2:h1 ++ [Zby.cells Zak [.int .u8 d1,.slice a1 n1 c1 e1] false]=h2
 have s2:Zba h1.length h1 h2:=by rw [← hh2]; exact Zam
 have o2:h2[h1.length]?=some (.cells Zak [.int .u8 d1,.slice a1 n1 c1 e1] false):=by rw [← hh2]; simp
 simp only [Zar]
 refine (Znq s (by omega) h2).mono ?_
 rintro v h3 ⟨s3,vs3,rfl,r3⟩
 obtain ⟨d3,a3,n3,c3,e3,rfl⟩:=Zsi r3
 simp only [Zci,Zaf,Zdq,Zas,Zah,Zao,Zaq]
 rw [Zgb]
 generalize hh4:h3 ++ [Zby.cells Zak [.int .u8 d3,.slice a3 n3 c3 e3] false]=h4
 have s4:Zba h3.length h3 h4:=by rw [← hh4]; exact Zam
 have o4:h4[h3.length]?=some (.cells Zak [.int .u8 d3,.slice a3 n3 c3 e3] false):=by rw [← hh4]; simp
 simp only [Zar]
 rw [← Yml]
 generalize hh5:h4 ++ [Zby.cells Zdi (Zdg eR (List.replicate 12 (Zat.int .u8 0,Zat.slice none 0 0 true))) false]=h5
 have s5:Zba h4.length h4 h5:=by rw [← hh5]; exact Zam
 have o5:h5[h4.length]?=some (.cells Zdi (Zdg eR (List.replicate 12 (Zat.int .u8 0,Zat.slice none 0 0 true))) false):=by rw [← hh5]; simp
 have x2:h5[h1.length]?=some (.cells Zak [.int .u8 d1,.slice a1 n1 c1 e1] false):=s5.get (s4.get (s3.get o2 (Own.lt o2)) (by have:=Own.lt o2; have:=s3.le; omega)) (by have:=Own.lt o2; have:=s3.le; have:=s4.le; omega)
 have x4:=s5.get o4 (Own.lt o4)
 have S2:=s1.cat s2
 have S5:=(((S2.cat s3).cat s4).cat s5)
 have no:Zkp p s=none→∀ hz,Zba h.length h hz→Yhd p s h (.tup [.slice (some (hz.length,0)) 0 0 true,.bool false]) (hz ++ [Zby.cells Zbl [] false]):=fun hn hz sz=>
  ⟨sz.cat Zam,_,0,0,true,by unfold Zqz; rw [hn]; rfl,Nat.le_refl _,by unfold Zkg; rw [hn]; exact ⟨rfl,.inl rfl⟩⟩
 cases hp:Zjg p with
 | none=>
  have:Zmr p=false:=by unfold Zmr; rw [hp]; rfl
  rw [this]
  simp only [Bool.not_false,Zcp]
  exact no (by unfold Zkp; rw [hp]) _ S5
 | some a=>
  rw [Yol hp]
  simp only [Bool.not_true,Zbz]
  cases ht:Zjg s with
  | none=>
   have:Zmr s=false:=by unfold Zmr; rw [ht]; rfl
   rw [this]
   simp only [Bool.not_false,Zcp]
   exact no (by unfold Zkp; rw [hp,ht]) _ S5
  | some t=>
   rw [Yol ht]
   rw [hp] at r1
   rw [ht] at r3
   simp only at r1 r3
   simp only [Bool.not_true,Zbz,Zed x2 (show 0 + 2≤_ by simp),Zed x4 (show 0 + 2≤_ by simp),List.drop_zero,List.take_succ_cons,List.take_zero,Zap,Zaf,Zao,Zas,Zah]
   obtain ⟨ha1,ha2,ha3⟩:=Zfn.1 hp
   obtain ⟨ht1,ht2,ht3⟩:=Zfn.1 ht
   have hms:Zkp p s=matchT [] a t:=by unfold Zkp; rw [hp,ht]
   have l3:=s3.le; have l4:=s4.le; have l2:=s2.le
   have R1:=((((r1.same s2).same s3).same s4).same s5).mono (S':=fun j=>j≠h4.length) (fun j hj=>by have:=hj.2; omega)
   have R3:=((r3.same s4).same s5).mono (S':=fun j=>j≠h4.length) (fun j hj=>by have:=hj.2; omega)
   refine (Zzt _ (Nat.le_refl _) ha1 ht1 (n:=60) (by omega) (by rw [← ht2]; exact ht3) BOk.nil (fun j hj=>hj) R1 R3 (Ztl.nil o5)).mono ?_
   rintro v h6 ⟨K6,hres⟩
   have l5:=S5.le
   have lh4:h.length≤h4.length:=(((S2.cat s3).cat s4)).le
   have S6:Zba h.length h h6:=⟨by have:=K6.le; omega,fun j hj=>by rw [K6.eq j (by omega) (by omega)]; exact S5.eq j hj⟩
   cases hm:matchT [] a t with
   | none=>
    rw [hm] at hres hms
    subst hres
    simp only [Zaq,Bool.not_false,Zcp]
    exact no hms _ S6
   | some m=>
    rw [hm] at hres hms
    obtain ⟨rfl,rm6⟩:=hres
    simp only [Zaq,Bool.not_true,Zbz]
    apply Zmh.J6i
    refine (Yoh rm6 (Zyf hms)).mono ?_
    rintro v h7 ⟨s7,a7,n7,c7,e7,rfl,hc7,f7⟩
    simp only [Zci,Zaf,Zah,Zaq,Zao]
    refine ⟨S6.cat s7,a7,n7,c7,e7,by unfold Zqz; rw [hms]; rfl,hc7,?_⟩
    unfold Zkg; rw [hms]
    exact ⟨f7.1,f7.2.imp id fun ⟨i,ha,hb,hi⟩=>⟨i,ha,by have:=S6.le; omega,hi⟩⟩
theorem Zst (p s:List Nat) (hp0:p.length≤1048576) (hs0:s.length≤1048576) (h:Zaa):Zaj pg Zik [.str p,.str s] h fun v h'=>v=.bool (Zqz p s)∧Zba h.length h h':=by
 apply Zpf.call
 refine (Ztq p s hp0 hs0 h).mono ?_
 rintro v h1 ⟨s1,a,n,c,e,rfl,_⟩
 simp only [Zci,Zaf,Zah,Zaq,Zao]
 exact ⟨by trivial,s1⟩
end Go.Sim

set_option linter.unusedVariables false
set_option linter.unusedSimpArgs false
set_option maxRecDepth 20000
namespace Go.Sim
open Go Go.RowKit

theorem Yji {s:List Nat} (h:((s.length:Nat):Int)≠1):Zkz s=false:=by
 match s,h with
 | [],_=>rfl
 | [x],h=>exact absurd rfl h
 | _ :: _ :: _,_=>rfl
theorem Yve {s:List Nat} (h:((s.length:Nat):Int)=1):∃ v,s=[v]:=by
 match s,h with
 | [],h=>simp at h
 | [x],_=>exact ⟨x,rfl⟩
 | _ :: _ :: _,h=>simp at h; omega
theorem Zva {h:Zaa} {a:Pt} {n c:Nat} {e:Bool} {l:List Nd} (r:Row h.length h a (n * 2) (Zdg eP l)) (hn:n≤1048576) (hb:∀ p∈l,p.2.length≤1048576) (hb1:∀ p∈l,∀ x∈p.1,x < 256) :
  Zaj pg Zja [.slice a n c e] h fun v h'=>v=.bool (Zic l)∧Zba h.length h h':=by
 have hl:l.length=n:=by have:=r.1; rw [Zav Zcz] at this; omega
 apply Zek.call
 refine Zek.L2ind _ _ _ _ _ _ _ _ _ _ (J:=fun (g:Nat) x7 h'=>x7=(g:Int)∧g≤n∧Zba h.length h h'∧(List.range g).all (Zrc l)=true) (fun g=>n - g) ?_ 0 _ _ ⟨rfl,by omega,Zba.refl _ _,rfl⟩
 rintro g x7 h' ⟨rfl,hg,hS,hk⟩ R hR
 unfold Zek.L2t
 refine Zau (fun hlt=>?_) (fun hge=>?_)
 ·obtain ⟨i,o,hgl,rfl,hi,hr,_,_⟩:=(r.same hS).pr (k:=g) (by omega)
  have hat:Zrc l g=(Zkz l[g].1 && Zmr l[g].2 && (g == 0 || Zer (l.getD (g - 1) ([],[])).1 l[g].1)):=by unfold Zrc; rw [Zfu hgl]
  have no:Zrc l g=false→Zic l=false:=fun hno=>Zko hgl hno
  have hbg:=hb _ (List.getElem_mem hgl)
  have hbg1:=hb1 _ (List.getElem_mem hgl)
  simp only [Zaw,Int.toNat_natCast,hr,Zap,Zaf,Zao,Zag,Zax]
  rw [Zgb]
  generalize hq:h' ++ [Zby.cells Zbl [.str l[g].1,.str l[g].2] false]=hq'
  have sq:Zba h'.length h' hq':=by rw [← hq]; exact Zam
  have oq:hq'[h'.length]?=some (.cells Zbl [.str l[g].1,.str l[g].2] false):=by rw [← hq]; simp
  have Sq:=hS.cat sq
  simp only [Zar,Zal oq,Nat.zero_add,List.getElem?_cons_succ,List.getElem?_cons_zero,Zag,true_and]
  refine ⟨by omega,Zhn (fun b0=>⟨by rw [no (by rw [hat,Yji b0]; rfl)],Sq⟩) (fun b0=>?_)⟩
  obtain ⟨v,hv⟩:=Yve b0
  rw [hv] at hbg1
  have hvl:=hbg1 v (by simp)
  rw [hv]
  refine ⟨by simp,?_⟩
  simp only [Int.toNat_zero,List.getD_cons_zero]
  refine (Zqh v).mono ?_
  rintro v' h2 ⟨rfl,rfl⟩
  simp only [Zaq]
  have hiv:Zkz l[g].1=Zdp v:=by rw [hv]; rfl
  refine Zbs (fun b1=>⟨by rw [no (by rw [hat,hiv,b1]; rfl)],Sq⟩) (fun b1=>?_)
  simp only [Zal oq,List.getElem?_cons_succ,List.getElem?_cons_zero,Zag]
  refine (Zir l[g].2 (by omega) h2).mono ?_
  rintro v' h3 ⟨rfl,s3⟩
  simp only [Zaq]
  have S3:=Sq.cat s3
  refine Zbs (fun b2=>⟨by rw [no (by rw [hat,b2]; simp)],S3⟩) (fun b2=>?_)
  have go:(g=0 ∨ Zer (l.getD (g - 1) ([],[])).1 l[g].1=true)→Zek.J6 (fun v h'=>v=.bool (Zic l)∧Zba h.length h h') R (g:Int) (((n:Nat):Int)) (some (i,o)) n c e (some (i,o)) n c e h3:=by
   intro hz
   apply Zek.J6i
   rw [Zbq (by omega)]
   refine hR (g + 1) _ _ (by omega) ⟨rfl,by omega,S3,Zhp hk ?_⟩
   rw [hat,hiv,b1,b2]
   rcases hz with rfl | hz
   ·rfl
   ·rw [hz]; simp
  refine Zau (fun hpos=>?_) (fun hz=>go (.inl (by omega)))
  have hg0:0 < g:=by omega
  obtain ⟨i',o',hgl',he,_,_,hc',_⟩:=(r.same S3).pr (k:=g - 1) (by omega)
  cases he
  rw [Zzz hg0 (by omega)]
  simp only [Zaw,Int.toNat_natCast,Nat.add_zero,hc',Zal (s3.get oq (Own.lt oq)),List.getElem?_cons_zero,Zag,true_and]
  have hgd:l.getD (g - 1) ([],[])=l[g - 1]:=Zfu hgl'
  refine ⟨by omega,Zbs (fun b3=>⟨by rw [no (by rw [hat,hiv,b1,b2,hgd,b3]; simp; omega)],S3⟩) (fun b3=>go (.inr (by rw [hgd]; exact b3)))⟩
 ·apply Zek.A2x0i
  have:g=n:=by omega
  subst this
  exact ⟨by unfold Zic; rw [hl,hk],hS⟩
theorem Zhw.below {S:Nat→Prop} {h:Zaa}:∀ {t:Ty} {v:List Zat},Zhw S h t v→Zhw (fun j=>S j∧j < h.length) h t v
 | .k d,_,h=>h
 | .u d x,_,⟨j,c,e,r,hv,sj,hj,hr⟩=>⟨j,c,e,r,hv,⟨sj,Own.lt hj⟩,hj,hr.below⟩
 | .w d x y,_,⟨j,c,e,r,r',hv,sj,hj,hr,hr'⟩=>⟨j,c,e,r,r',hv,⟨sj,Own.lt hj⟩,hj,hr.below,hr'.below⟩
theorem Yqq {f:Nat→Option Ty} {t:Ty} (h:f t.hd=none ∨ t.ps≠[]):(subst f t).hd=t.hd∧(subst f t).ps=t.ps.map (subst f):=by
 cases t with
 | k c=>
  have:f c=none:=by rcases h with h | h; exact h; exact absurd rfl h
  simp [subst,this,Ty.hd,Ty.ps]
 | u c a=>simp [subst,Ty.hd,Ty.ps]
 | w c a b=>simp [subst,Ty.hd,Ty.ps]
theorem Ygr:pg.underlying Zkl=some (.slice Zak):=by kernel_rfl
theorem Ynw:pg.cellsOf Zak=2:=by kernel_rfl
theorem Ymt:pg.okElem Zak=true:=by kernel_rfl
theorem Yoi:pg.bytesOf Zak≤127:=Nat.le_of_ble_eq_true (by kernel_rfl)
theorem Ycp {vs:List (List Zat)} (h:∀ v∈vs,v.length=2):vs.flatten.length=vs.length * 2:=by
 rw [List.length_flatten]
 induction vs with
 | nil=>rfl
 | cons v vs ih=>
  have h1:=h v (by simp)
  have h2:=ih (fun x hx=>h x (by simp [hx]))
  simp only [List.map_cons,List.sum_cons,List.length_cons]; omega
theorem Ybx:∀ (N:Nat) {t:Ty} {S:Nat→Prop} {h:Zaa} {vt:List Zat} {i:Nat} {m:Bd},t.size≤N→t.ok=true→(∀ j,S j→j < h.length∧j≠i)→Zhw S h t vt→Yov S h i m→(∀ v u,Zgn m v=some u→u.ok=true)→(∀ v,Zdp v=false→Zgn m v=none) →
  Zaj pg Zlv [.ptr (some (i,0)),.agg vt] h fun x h'=>Zba h.length h h'∧∃ vs,x=.agg vs∧Zhw (fun j=>S j ∨ h.length≤j) h' (subst (Zgn m) t) vs
 | 0,t,S,h,vt,i,m,hN,_,_,_,_,_,_=>by have:=t.size_ps; omega
 | N + 1,t,S,h,vt,i,m,hN,ht,hSi,rt,rm,hmo,hmn=>by
  obtain ⟨at',ct,et,vts,rfl,rowt,hSt,hvtl,hvt⟩:=id rt.parts
  have hps2:t.ps.length≤2:=by cases t <;> simp [Ty.ps]
  have hil:=rm.lt
  apply Zhy.call
  simp only [Zax]
  generalize hh0:h ++ [Zby.cells Zak [.int .u8 (t.hd:Int),.slice at' t.ps.length ct et] false]=h0
  generalize hh1:h0 ++ [Zby.cells Zak [.int .u8 0,.slice none 0 0 true] false]=h1
  have s0:Zba h.length h h0:=by rw [← hh0]; exact Zam
  have s1:Zba h0.length h0 h1:=by rw [← hh1]; exact Zam
  have o0:h0[h.length]?=some (.cells Zak [.int .u8 (t.hd:Int),.slice at' t.ps.length ct et] false):=by rw [← hh0]; simp
  have oa:=s1.get o0 (Own.lt o0)
  have oz:h1[h0.length]?=some (.cells Zak [.int .u8 0,.slice none 0 0 true] false):=by rw [← hh1]; simp
  have S1:=s0.cat s1
  have l0:h0.length=h.length + 1:=by rw [← hh0]; simp
  have l1:h1.length=h.length + 2:=by rw [← hh1]; simp [l0]
  simp only [Zal oa,Nat.zero_add,List.getElem?_cons_succ,List.getElem?_cons_zero,Zas]
  refine (Zvl t.hd).mono ?_
  rintro v h2 ⟨rfl,rfl⟩
  have rm1:=rm.same S1
  simp only [Zas,Zaw]
  -- nothing stands for the letter
  have main:Zgn m t.hd=none→Zhy.J4 (fun x h'=>Zba h.length h h'∧∃ vs,x=.agg vs∧Zhw (fun j=>S j ∨ h.length≤j) h' (subst (Zgn m) t) vs) h.length 0 (some (i,0)) h0.length 0 h2:=by
   intro hno
   obtain ⟨hsh,hsp⟩:=Yqq (f:=Zgn m) (t:=t) (.inl hno)
   apply Zhy.J4i
   simp only [Zal oa,Nat.zero_add,List.getElem?_cons_succ,List.getElem?_cons_zero,Zas,Zax]
   generalize hh3:h2 ++ [Zby.cells Zak [] false]=h3
   have s3:Zba h2.length h2 h3:=by rw [← hh3]; exact Zam
   have o3:h3[h2.length]?=some (.cells Zak [] false):=by rw [← hh3]; simp
   have l3:h3.length=h2.length + 1:=by rw [← hh3]; simp
   rw [Zgb]
   generalize hh4:h3 ++ [Zby.cells Zak [.int .u8 (t.hd:Int),.slice (some (h2.length,0)) 0 0 true] false]=h4
   have s4:Zba h3.length h3 h4:=by rw [← hh4]; exact Zam
   have o4:h4[h3.length]?=some (.cells Zak [.int .u8 (t.hd:Int),.slice (some (h2.length,0)) 0 0 true] false):=by rw [← hh4]; simp
   have l4:h4.length=h3.length + 1:=by rw [← hh4]; simp
   have oa4:=s4.get (s3.get oa (Own.lt oa)) (by have:=Own.lt oa; omega)
   have oz4:=s4.get (s3.get oz (Own.lt oz)) (by have:=Own.lt oz; omega)
   have o34:=s4.get o3 (Own.lt o3)
   have S4:=(S1.cat s3).cat s4
   simp only [Zar,Zal oa4,List.getElem?_cons_succ,List.getElem?_cons_zero,Zah]
   refine Zhy.L6ind _ _ _ _ _ _ _ _ _ _ _ (J:=fun (g:Nat) x35 h'=>x35=(g:Int)∧g≤t.ps.length∧Zba h.length h h'∧h4.length≤h'.length∧h'[h0.length]?=some (.cells Zak [.int .u8 0,.slice none 0 0 true] false) ∧
    ∃ (a:Pt) (cp:Nat) (e:Bool) (vs:List (List Zat)),h'[h3.length]?=some (.cells Zak [.int .u8 (t.hd:Int),.slice a g cp e] false)∧vs.length=g∧Vec Zak h' a g cp vs.flatten∧(∀ j,a=some (j,0)→j=h2.length ∨ h4.length≤j) ∧
     ∀ (k:Nat) (v:List Zat) (x:Ty),vs[k]?=some v→t.ps[k]?=some x→Zhw (fun j=>(S j ∨ h4.length≤j)∧∀ j0,a=some (j0,0)→j≠j0) h' (subst (Zgn m) x) v)
    (fun g=>t.ps.length - g) ?_ 0 _ _ ⟨rfl,by omega,S4,Nat.le_refl _,oz4,some (h2.length,0),0,true,[],o4,rfl,Vec.mk1 (by simpa using o34),fun j hj=>by cases hj; exact .inl rfl,by simp⟩
   rintro g x35 h' ⟨rfl,hg,hS,hl4,hz,a,cp,e,vs,ho,hvl,hv,ha,hp⟩ R hR
   unfold Zhy.L6t
   have hz2:∀ v∈vs,v.length=2:=fun v hv=>by
    obtain ⟨k,hk,rfl⟩:=List.mem_iff_getElem.1 hv
    exact (hp k vs[k] (t.ps[k]'(by omega)) (List.getElem?_eq_getElem hk) (List.getElem?_eq_getElem (by omega))).len
   refine Zau (fun hlt=>?_) (fun hge=>?_)
   ·have hgt:g < t.ps.length:=by omega
    obtain ⟨jt,oft,a4,c4,e4,rfl,hrt,hkt⟩:=Zhw.get (rowt.same' hS) hvtl (fun k w x h1 h2=>(hvt k w x h1 h2).same hS) hgt
    simp only [Zaw,Int.toNat_natCast,hrt,Zap,Zaf,Zao,Zas,Zah,Zax]
    rw [Zgb]
    generalize hq:h' ++ [Zby.cells Zak [.int .u8 (t.ps[g].hd:Int),.slice a4 t.ps[g].ps.length c4 e4] false]=hq'
    have sq:Zba h'.length h' hq':=by rw [← hq]; exact Zam
    have oq:=sq.get ho (Own.lt ho)
    simp only [Zar,Zal oq,Nat.zero_add,List.getElem?_cons_succ,List.getElem?_cons_zero,Zah]
    rw [← hq,Ypj,hq]
    simp only [Zap,Zaf,Zao,Zas,Zah,true_and]
    have hmt:=List.getElem_mem hgt
    have h1:=Ty.size_part hmt
    have hlq:=sq.le
    have hSle:=hS.le
    refine ⟨by omega,(Ybx N (by omega) (Ty.ok_ps ht _ hmt) (S:=S) (fun j hj=>⟨by have:=(hSi j hj).1; omega,(hSi j hj).2⟩) (hkt.same sq) (rm.same (hS.cat sq)) hmo hmn).mono ?_⟩
    rintro v h5 ⟨s5,nv,rfl,hn5⟩
    obtain ⟨na,nc,ne,hnv⟩:=hn5.shape
    rw [hnv] at hn5
    have o5:=s5.get oq (Own.lt oq)
    simp only [hnv,Zdq,Zaf,Zao,Zas,Zah,Zal o5,List.getElem?_cons_succ,List.getElem?_cons_zero,true_and]
    have hc6:Zae (h5 ++ [Zby.cells Zak [.int .u8 ((subst (Zgn m) t.ps[g]).hd:Int),.slice na (subst (Zgn m) t.ps[g]).ps.length nc ne] false]) (.ptr (some (h3.length,1)))=some (.slice a g cp e):=by rw [Zal (Zgz o5)]; rfl
    refine ⟨by rw [hc6],?_⟩
    have v5:=(hv.same sq).same s5
    have hl5:=s5.le
    refine v5.pushN Ygr Ynw Ymt Yoi (by rw [Ycp hz2]; omega) rfl (by omega) rfl (by omega) (fun h7 hl7 hi7 hk7=>?_)
    simp only [Zah]
    have hz5:=s5.get (sq.get hz (Own.lt hz)) (by have:=Own.lt hz; omega)
    have ha5:∀ j,a=some (j,0)→j=h2.length ∨ h4.length≤j:=ha
    have o7:h7[h3.length]?=some (.cells Zak [.int .u8 (t.hd:Int),.slice a g cp e] false):=by
     rw [hk7 _ (Own.lt o5) fun j hj=>by rcases ha j hj with hh | hh <;> omega]; exact o5
    rw [Zbd o7 (by simp)]
    simp only [Zar,putRow,List.take_succ_cons,List.take_zero,List.length_cons,List.length_nil,List.drop_succ_cons,List.drop_nil,List.cons_append,List.nil_append,List.append_nil]
    rw [Zbq (by omega)]
    have hS5:=(hS.cat sq).cat s5
    have h7o:∀ j,j < h5.length→(∀ j0,a=some (j0,0)→j≠j0)→j≠h3.length→(h7.set h3.length (Zby.cells Zak [.int .u8 (t.hd:Int),.slice (some (h5.length + 1,0)) (g + 1) (g + 1) false] false))[j]?=h5[j]?:=fun j hj hne hne2=>by rw [Zbo (by omega),hk7 j hj hne]
    refine hR (g + 1) _ _ (by omega) ⟨rfl,by omega,⟨by simp; omega,fun j hj=>?_⟩,by simp; omega,?_,some (h5.length + 1,0),g + 1,false,vs ++ [[.int .u8 ((subst (Zgn m) t.ps[g]).hd:Int),.slice na (subst (Zgn m) t.ps[g]).ps.length nc ne]],Zbx o7,by simp [hvl],Vec.mk1 ?_,fun j hj=>by cases hj; right; omega,?_⟩
    ·rw [h7o j (by omega) (fun j0 hj0=>by rcases ha j0 hj0 with hh | hh <;> omega) (by omega)]; exact hS5.eq j hj
    ·rw [h7o _ (Own.lt hz5) (fun j0 hj0=>by rcases ha j0 hj0 with hh | hh <;> omega) (by omega)]; exact hz5
    ·rw [Zbo (by omega),hi7]; simp
    ·intro k v x hv' hx
     have hkeep:∀ {t':Ty} {v':List Zat},Zhw (fun j=>(S j ∨ h4.length≤j)∧∀ j0,a=some (j0,0)→j≠j0) h5 t' v'→Zhw (fun j=>(S j ∨ h4.length≤j)∧∀ j0,(some (h5.length + 1,0):Pt)=some (j0,0)→j≠j0) (h7.set h3.length (Zby.cells Zak [.int .u8 (t.hd:Int),.slice (some (h5.length + 1,0)) (g + 1) (g + 1) false] false)) t' v':=by
      intro t' v' hr
      have hr2:=hr.below
      refine Zhw.mono (S:=fun j=>((S j ∨ h4.length≤j)∧∀ j0,a=some (j0,0)→j≠j0)∧j < h5.length) (fun j hj=>⟨hj.1.1,fun j0 e0=>by cases e0; have:=hj.2; omega⟩) (hr2.agree fun j hj=>?_)
      refine h7o j hj.2 hj.1.2 ?_
      rcases hj.1.1 with h8 | h8
      ·have:=(hSi j h8).1; omega
      ·omega
     by_cases hkl:k < vs.length
     ·rw [List.getElem?_append_left hkl] at hv'
      exact hkeep (((hp k v x hv' hx).same sq).same s5)
     ·rw [List.getElem?_append_right (by omega)] at hv'
      have hk0:k=vs.length:=by
       by_cases e:k - vs.length=0
       ·omega
       ·rw [List.getElem?_eq_none (by simp; omega)] at hv'; cases hv'
      subst hk0
      simp at hv'
      subst hv'
      rw [hvl,List.getElem?_eq_getElem hgt] at hx
      cases hx
      refine hkeep (Zhw.mono (S:=fun j=>S j ∨ hq'.length≤j) (fun j hj=>⟨?_,fun j0 e0=>?_⟩) hn5)
      ·rcases hj with h8 | h8
       ·exact .inl h8
       ·exact .inr (by omega)
      ·have hj0:=(hv.same sq).lt' e0
       rcases hj with h8 | h8
       ·have:=(hSi j h8).1
        rcases ha j0 e0 with hh | hh <;> omega
       ·omega
   ·apply Zhy.A6x0i
    have:g=t.ps.length:=by omega
    subst this
    have hrow:=Zed (o:=0) (n:=2) ho (by simp)
    rw [hrow]
    simp only [List.drop_zero,List.take_succ_cons,List.take_zero,Zap,Zaf,Zao,Zas,Zah]
    rw [Zbd hz (by simp)]
    simp only [Zar]
    rw [Zed (Zbx hz) (by simp [putRow])]
    simp only [putRow,List.take_zero,List.nil_append,List.length_cons,List.length_nil,List.cons_append,List.drop_succ_cons,List.drop_zero,List.drop_nil,List.append_nil,List.take_succ_cons,Zap,Zaf,Zas,Zah,Zao]
    refine ⟨⟨by simp; exact hS.le,fun j hj=>by rw [Zbo (by omega)]; exact hS.eq j hj⟩,_,rfl,?_⟩
    have hget:∀ j,j≠h0.length→(h'.set h0.length (Zby.cells Zak [.int .u8 (t.hd:Int),.slice a t.ps.length cp e] false))[j]?=h'[j]?:=fun j hj=>Zbo (fun e=>hj e.symm)
    rcases hv with ⟨rfl,h0',_,hvs⟩ | ⟨j0,rfl,hj0⟩
    ·-- no parts
     have hps:t.ps=[]:=List.eq_nil_of_length_eq_zero h0'
     cases t with
     | k d=>
      simp only [subst,show Zgn m d=none from hno,Option.getD_none]
      exact ⟨_,_,_,rfl⟩
     | u d x=>simp [Ty.ps] at hps
     | w d x y=>simp [Ty.ps] at hps
    ·have hj0n:j0≠h0.length:=by rcases ha j0 rfl with hh | hh <;> omega
     have hS4:=ha j0 rfl
     have:=Zhw.make (S:=fun j=>S j ∨ h.length≤j) (h:=h'.set h0.length (Zby.cells Zak [.int .u8 (t.hd:Int),.slice (some (j0,0)) t.ps.length cp e] false)) (t:=subst (Zgn m) t) (j:=j0) (n:=t.ps.length) (c:=cp) (e:=e) (vs:=vs)
      (by rw [hsp,List.length_map]) (.inr (by rcases hS4 with hh | hh <;> omega)) (by rw [hget j0 hj0n]; exact hj0) hvl (fun k w x hw hx=>by
       rw [hsp,List.getElem?_map] at hx
       obtain ⟨y,hy,rfl⟩:=Option.map_eq_some_iff.1 hx
       have hr:=hp k w y hw hy
       refine Zhw.mono (S:=fun j=>(S j ∨ h4.length≤j)∧∀ j1,(some (j0,0):Pt)=some (j1,0)→j≠j1) (fun j hj=>hj.1.imp id (fun h=>by omega)) (hr.agree fun j hj=>hget j ?_)
       rcases hj.1 with h8 | h8
       ·have:=(hSi j h8).1; omega
       ·omega)
     rw [hsh] at this
     exact this
  cases hv:Zdp t.hd with
  | true=>
   obtain ⟨k,hk6,hkv,hix⟩:=Zxj hv
   rw [hix]
   obtain ⟨x,hx1,hx2,hx3⟩:=rm1.get (k:=k) hk6
   rw [hkv,Option.bind_some] at hx3
   have hge:decide ((k:Int) ≥ 0)=true:=by simp
   simp only [hge,Zcp,Int.toNat_natCast,hx1,hx2,Zap,Zaf,Zao]
   refine ⟨by omega,?_⟩
   cases hg:Zgn m t.hd with
   | none=>
    rw [hg] at hx3
    simp only at hx3
    subst hx3
    simp only [Zas,show ((0:Int) == 0)=true from rfl,Bool.not_true,Zbz]
    exact main hg
   | some u=>
    rw [hg] at hx3
    simp only at hx3
    have hu:=hmo _ _ hg
    obtain ⟨ux,uc,ue,hux⟩:=hx3.shape
    simp only [List.cons.injEq,and_true] at hux
    obtain ⟨hux1,hux2⟩:=hux
    rw [hux1,hux2] at hx3
    rw [hux1,hux2]
    have hu0:(((u.hd:Nat):Int) == 0)=false:=by
     have:=Zus hu
     have hne:u.hd≠0:=fun e=>by rw [e] at this; simp at this
     simp; omega
    simp only [Zas,Zah,hu0,Bool.not_false,Zcp]
    rw [Zbd oz (by simp)]
    simp only [Zar]
    rw [Zed (Zbx oz) (by simp [putRow])]
    simp only [putRow,List.take_zero,List.nil_append,List.length_cons,List.length_nil,List.cons_append,List.drop_succ_cons,List.drop_zero,List.drop_nil,List.append_nil,List.take_succ_cons,Zap,Zaf,Zas,Zah,Zao]
    refine ⟨by omega,⟨by simp; omega,fun j hj=>by rw [Zbo (by omega)]; exact S1.eq j hj⟩,_,rfl,?_⟩
    have hsub:subst (Zgn m) t=u:=by rw [Zri ht hv]; simp [subst,hg]
    rw [hsub]
    refine Zhw.mono (S:=S) (fun j hj=>.inl hj) (hx3.agree fun j hj=>Zbo (by have:=(hSi j hj).1; omega))
  | false=>
   rw [Ycc ht hv]
   have hge:decide ((-1:Int) ≥ 0)=false:=by decide
   simp only [hge,Zbz]
   exact main (hmn _ hv)
end Go.Sim

set_option linter.unusedVariables false
set_option linter.unusedSimpArgs false
set_option maxRecDepth 20000
namespace Go.Sim
open Go Go.RowKit

end Go.Sim

set_option linter.unusedSimpArgs false
set_option linter.unusedVariables false
namespace Go.Sim

def Yqy:Ty→List Nat
 | .k c=>if Zdp c then [c] else []
 | .u c a=>Yqy a
 | .w c a b=>Yqy a ++ Yqy b
structure Ywt (m m':Bd) (a t:Ty):Prop where
 keep:∀ v u,Zgn m v=some u→Zgn m' v=some u
 sub:subst (Zgn m') a=t
 vars:∀ v,(Zgn m' v).isSome=true ↔ ((Zgn m v).isSome=true ∨ v∈Yqy a)
end Go.Sim

set_option linter.unusedSimpArgs false
set_option linter.unusedVariables false
namespace Go.Sim

structure Yvt (f:Nat→Option Ty):Prop where
 nv:∀ v,Zdp v=false→f v=none
 ok:∀ v t,f v=some t→t.ok=true
theorem Zwu {f:Nat→Option Ty} (hf:Yvt f):∀ {a:Ty},a.ok=true→(subst f a).ok=true
 | .k c,h=>by
  simp only [subst]
  cases hb:f c with
  | none=>exact h
  | some t=>exact hf.ok c t hb
 | .u c a,h=>by
  simp only [Ty.ok,Bool.and_eq_true] at h
  simp only [subst,Ty.ok,Bool.and_eq_true]; exact ⟨h.1,Zwu hf h.2⟩
 | .w c a b,h=>by
  simp only [Ty.ok,Bool.and_eq_true] at h
  simp only [subst,Ty.ok,Bool.and_eq_true]; exact ⟨⟨h.1.1,Zwu hf h.1.2⟩,Zwu hf h.2⟩
noncomputable def after (f g:Nat→Option Ty) (v:Nat):Option Ty:=if Zdp v then some (subst g ((f v).getD (.k v))) else none
noncomputable def Zsn (a b:Ins):Bool:=decide (a.1.1=b.1.1) && Zqz b.1.2 a.1.2
end Go.Sim

set_option linter.unusedVariables false
set_option linter.unusedSimpArgs false
set_option maxRecDepth 20000
namespace Go.Sim
open Go Go.RowKit

noncomputable def Ygt (w:Wd) (x:Int):Bool:=decide (x ≥ 0) && decide (x < (w.is.length:Nat))
noncomputable def Yej (w:Wd) (x y:Int):Bool:=Zdv w && Ygt w x && Ygt w y && Zsn (w.is.getD x.toNat (([],[]),[])) (w.is.getD y.toNat (([],[]),[]))
theorem Zxd {w:Wd} {k:Nat} (h:k < w.is.length):Ygt w (k:Int)=true:=by unfold Ygt; simp; omega
theorem Yhh {w:Wd} {x:Int} (h:Ygt w x=true):∃ k:Nat,x=k∧k < w.is.length:=by
 unfold Ygt at h; simp at h; exact ⟨x.toNat,by omega,by omega⟩
theorem Yiu {h:Zaa} {a a':Pt} {n c n' c':Nat} {e e':Bool} {i k:Ins} :
  Zaj pg Zov [.agg [.str i.1.1,.str i.1.2,.slice a n c e],.agg [.str k.1.1,.str k.1.2,.slice a' n' c' e']] h fun v h'=>v=.bool (Zsn i k)∧Zba h.length h h':=by
 apply Zsz.call
 simp only [Zax]
 generalize hh0:h ++ [Zby.cells Zac [.str i.1.1,.str i.1.2,.slice a n c e] false]=h0
 generalize hh1:h0 ++ [Zby.cells Zac [.str k.1.1,.str k.1.2,.slice a' n' c' e'] false]=h1
 have s0:Zba h.length h h0:=by rw [← hh0]; exact Zam
 have s1:Zba h0.length h0 h1:=by rw [← hh1]; exact Zam
 have o0:h0[h.length]?=some (.cells Zac [.str i.1.1,.str i.1.2,.slice a n c e] false):=by rw [← hh0]; simp
 have o1:=s1.get o0 (Own.lt o0)
 have k1:h1[h0.length]?=some (.cells Zac [.str k.1.1,.str k.1.2,.slice a' n' c' e'] false):=by rw [← hh1]; simp
 have S1:=s0.cat s1
 simp only [Zal o1,Zal k1,Nat.zero_add,List.getElem?_cons_succ,List.getElem?_cons_zero,Zag]
 refine Zau (fun he=>?_) (fun he=>⟨by unfold Zsn; simp [he],S1⟩)
 refine (Zup k.1.2 i.1.2 h1).mono ?_
 rintro v h2 ⟨rfl,s2⟩
 simp only [Zaq]
 exact ⟨by unfold Zsn; simp [he],S1.cat s2⟩
theorem Zqk {h:Zaa} {a0 a1:Pt} {n0 c0 n1 c1:Nat} {w:Wd} (r:Zlx h a0 n0 c0 a1 n1 c1 w) {k:Nat} (hk:k < w.is.length) :
  ∃ i o a n cp e,a1=some (i,o)∧i < h.length∧Zbj h (.ptr (some (i,o + k * 3))) 3=some [.str w.is[k].1.1,.str w.is[k].1.2,.slice a n cp e]∧Zae h (.ptr (some (i,o + k * 3)))=some (.str w.is[k].1.1)∧Zae h (.ptr (some (i,o + k * 3 + 1)))=some (.str w.is[k].1.2)∧Row h.length h a (n * 2) (Zdg eP w.is[k].2)∧w.is[k].2.length=n:=by
 have hl:=r.len1
 obtain ⟨i,o,hk',a,n,cp,e,h1,h2,h3,h4,h5,h6,h7,h8⟩:=r.inst (k:=k) (by omega)
 exact ⟨i,o,a,n,cp,e,h1,h2,h3,h4,h5,h7,h8⟩
theorem Yat {h:Zaa} {a0 a1:Pt} {n0 c0 n1 c1:Nat} {e0 e1:Bool} {w:Wd} {x y:Int} (r:Zlx h a0 n0 c0 a1 n1 c1 w) (b:WB w) :
  Zaj pg Zmn [.agg [.slice a0 n0 c0 e0,.slice a1 n1 c1 e1],.int .i64 x,.int .i64 y] h fun v h'=>v=.bool (Yej w x y)∧Zba h.length h h':=by
 have hl1:=r.len1
 have hli:=b.li
 apply Zmk.call
 simp only [Zax]
 generalize hh0:h ++ [Zby.cells Zad [.slice a0 n0 c0 e0,.slice a1 n1 c1 e1] false]=h0
 have s0:Zba h.length h h0:=by rw [← hh0]; exact Zam
 have w0:h0[h.length]?=some (Zmt a0 n0 c0 e0 a1 n1 c1 e1):=by rw [← hh0]; simp [Zmt]
 rw [Zwi w0]
 simp only [Zap,Zaf,Zao,Zah]
 refine (Zop (r.same s0) b).mono ?_
 rintro v h2 ⟨rfl,s2⟩
 have S2:=s0.cat s2
 have w2:=s2.get w0 (Own.lt w0)
 simp only [Zaq]
 refine Zbs (fun b1=>⟨by unfold Yej; rw [b1]; rfl,S2⟩) (fun b1=>?_)
 simp only [Ztf w2,Nat.zero_add,List.getElem?_cons_succ,List.getElem?_cons_zero,Zah]
 rw [IntWalk.i64_in _ (by omega)]
 have hin:∀ z:Int,decide (0≤z∧z≤((n1:Nat):Int) - 1)=Ygt w z:=fun z=>by
  unfold Ygt; rw [hl1,Bool.eq_iff_iff]; simp; omega
 refine Ybv.mono ?_
 rintro v h3 ⟨rfl,rfl⟩
 simp only [Zaq,hin]
 refine Zbs (fun b2=>⟨by unfold Yej; rw [b2]; simp,S2⟩) (fun b2=>?_)
 simp only [Ztf w2,List.getElem?_cons_succ,List.getElem?_cons_zero,Zah]
 rw [IntWalk.i64_in _ (by omega)]
 refine Ybv.mono ?_
 rintro v h3 ⟨rfl,rfl⟩
 simp only [Zaq,hin]
 refine Zbs (fun b3=>⟨by unfold Yej; rw [b3]; simp,S2⟩) (fun b3=>?_)
 obtain ⟨k,rfl,hk⟩:=Yhh b2
 obtain ⟨l,rfl,hl⟩:=Yhh b3
 apply Zmk.J3i
 obtain ⟨i,o,ka,kn,kc,ke,rfl,hi,_,hc1,hd1,_⟩:=Zqk (r.same S2) hk
 obtain ⟨i',o',la,ln,lc,le,he,hi',_,hc2,hd2,_⟩:=Zqk (r.same S2) hl
 cases he
 simp only [Ztf w2,Nat.zero_add,Nat.add_zero,List.getElem?_cons_succ,List.getElem?_cons_zero,Zah,Zaw,Int.toNat_natCast,hc1,hc2,hd1,hd2,Zag,true_and]
 have hval:Yej w (k:Int) (l:Int)=Zsn w.is[k] w.is[l]:=by
  unfold Yej
  rw [b1,Zxd hk,Zxd hl,Int.toNat_natCast,Int.toNat_natCast,Zfu hk,Zfu hl]; rfl
 refine ⟨by omega,by omega,Zau (fun he=>?_) (fun he=>⟨by rw [hval]; unfold Zsn; simp [he],S2⟩)⟩
 have hbk:=b.is _ (List.getElem_mem hk)
 have hbl:=b.is _ (List.getElem_mem hl)
 refine ⟨by omega,by omega,(Zst _ _ hbl.2.1 hbk.2.1 _).mono ?_⟩
 rintro v h4 ⟨rfl,s4⟩
 have hce:∀ z,Zae h4 (.ptr (some (i,z)))=Zae h3 (.ptr (some (i,z))):=fun z=>by simp only [Zae,s4.eq i hi]
 simp only [Zaq,Ztf (s4.get w2 (Own.lt w2)),hce,hc1,List.getElem?_cons_succ,List.getElem?_cons_zero,true_and]
 exact ⟨by rw [hval]; unfold Zsn; simp [he],S2.cat s4⟩
end Go.Sim

set_option linter.unusedVariables false
set_option linter.unusedSimpArgs false
set_option maxRecDepth 20000
namespace Go.Sim
open Go Go.RowKit

theorem Yny:pg.underlying Yff=some (.slice Zix):=by kernel_rfl
theorem Yul:pg.cellsOf Zix=1:=by kernel_rfl
theorem Yuc:pg.okElem Zix=true:=by kernel_rfl
theorem Yuu:pg.bytesOf Zix≤127:=Nat.le_of_ble_eq_true (by kernel_rfl)
def ixs {α:Type} (f:α→Bool) (l:List α):List Int:=(l.zipIdx.filter fun p=>f p.1).map fun p=>(p.2:Int)
theorem Yig {α:Type} (f:α→Bool) {l:List α} {g:Nat} (h:g < l.length):ixs f (l.take (g + 1))=ixs f (l.take g) ++ if f l[g] then [(g:Int)] else []:=by
 unfold ixs
 rw [List.take_succ_eq_append_getElem h,List.zipIdx_append,List.filter_append,List.map_append]
 congr 1
 simp only [List.length_take,Nat.min_eq_left (by omega:g≤l.length),Nat.zero_add,List.zipIdx_singleton,List.filter_cons,List.filter_nil]
 split <;> simp
theorem Ybh {α:Type} (f:α→Bool) (l:List α):(ixs f l).length≤l.length:=by
 unfold ixs; rw [List.length_map]; exact Nat.le_trans (List.length_filter_le _ _) (by simp)
theorem fa1 {j o:Nat} {K:Zat→Prop}:Zhq pg Zab (.ptr (some (j,o))) 1 K=K (.ptr (some (j,o + 1))):=by kernel_rfl
end Go.Sim

set_option linter.unusedVariables false
set_option linter.unusedSimpArgs false
set_option maxRecDepth 20000
namespace Go.Sim
open Go Go.RowKit

noncomputable def Zmx (n:Nd) (i:Ins):Bool:=decide (i.1.1=n.1) && Zqz i.1.2 n.2
noncomputable def Zhx (w:Wd) (n:Nd):List Int:=ixs (Zmx n) w.is
noncomputable def Zrm (w:Wd) (n:Nd):List Int:=if Zdv w && Zfp w n then Zhx w n else []
theorem Yey {α:Type} {f:α→Bool} {l:List α} {x:Int} (h:x∈ixs f l):∃ k:Nat,∃ hk:k < l.length,x=k∧f l[k]=true:=by
 unfold ixs at h
 obtain ⟨p,hp,rfl⟩:=List.mem_map.1 h
 obtain ⟨h1,h2⟩:=List.mem_filter.1 hp
 obtain ⟨a,k⟩:=p
 have h3:=List.mem_zipIdx h1
 simp only [Nat.zero_add,Nat.zero_le,Nat.sub_zero,true_and] at h3
 exact ⟨k,h3.1,rfl,by simp only at h2; rw [← h3.2]; exact h2⟩
theorem Ztw {h:Zaa} {a0 a1:Pt} {n0 c0 n1 c1:Nat} {e0 e1:Bool} {w:Wd} {ct tt:List Nat} (r:Zlx h a0 n0 c0 a1 n1 c1 w) (b:WB w) :
  Zaj pg Zjq [.agg [.slice a0 n0 c0 e0,.slice a1 n1 c1 e1],.agg [.str ct,.str tt]] h fun v h'=>v=.bool (Zdv w && Zfp w (ct,tt))∧Zba h.length h h':=by
 apply Zqp.call
 simp only [Zax]
 generalize hh0:h ++ [Zby.cells Zad [.slice a0 n0 c0 e0,.slice a1 n1 c1 e1] false]=h0
 generalize hh1:h0 ++ [Zby.cells Zab [.str ct,.str tt] false]=h1
 have s0:Zba h.length h h0:=by rw [← hh0]; exact Zam
 have s1:Zba h0.length h0 h1:=by rw [← hh1]; exact Zam
 have w0:h0[h.length]?=some (Zmt a0 n0 c0 e0 a1 n1 c1 e1):=by rw [← hh0]; simp [Zmt]
 have w1:=s1.get w0 (Own.lt w0)
 have i1:h1[h0.length]?=some (.cells Zab [.str ct,.str tt] false):=by rw [← hh1]; simp
 rw [Zwi w1]
 simp only [Zap,Zaf,Zao,Zah]
 refine (Zty (r.same (s0.cat s1)) b).mono ?_
 rintro v h2 ⟨rfl,s2⟩
 simp only [Zaq]
 have i2:=s2.get i1 (Own.lt i1)
 have w2:=s2.get w1 (Own.lt w1)
 refine Zdu (fun b1=>?_) (fun b1=>⟨by rw [b1]; rfl,(s0.cat s1).cat s2⟩)
 rw [Zwi w2,Zed i2 (by simp)]
 simp only [List.drop_zero,List.take_succ_cons,List.take_zero,Zap,Zaf,Zao,Zah,Zag]
 refine (Ynt (r.same ((s0.cat s1).cat s2)) b).mono ?_
 rintro v h3 ⟨rfl,s3⟩
 simp only [Zaq]
 exact ⟨by rw [b1]; rfl,((s0.cat s1).cat s2).cat s3⟩
theorem Yki {h:Zaa} {a:Pt} {n c j:Nat} {e:Bool} {ct tt nc nt:List Nat} (hj:h[j]?=some (.cells Zab [.str nc,.str nt] false)) :
  Zaj pg Zcr [.agg [.str ct,.str tt,.slice a n c e],.ptr (some (j,0))] h fun v h'=>v=.bool (Zqz tt nt)∧Zba h.length h h':=by
 apply Zlg.call
 have s1:Zba h.length h (h ++ [.cells Zac [.str ct,.str tt,.slice a n c e] false]):=Zam
 simp only [Zax,Zfg,Nat.zero_add,List.getElem?_cons_succ,List.getElem?_cons_zero,Zag,fa1,Zal (s1.get hj (Own.lt hj))]
 refine (Zup tt nt _).mono ?_
 rintro v h2 ⟨rfl,s2⟩
 simp only [Zaq]
 exact ⟨by trivial,s1.cat s2⟩
theorem Ylm {h:Zaa} {t:TypeId} {x y z a b c:Zat}:Zaz (h ++ [.cells t [x,y,z] false]) (.ptr (some (h.length,0))) [a,b,c]=some (h ++ [.cells t [a,b,c] false]):=Zsg rfl
theorem Yiv {h:Zaa} {a0 a1:Pt} {n0 c0 n1 c1 j:Nat} {e0 e1:Bool} {w:Wd} {nd:Nd} (r:Zlx h a0 n0 c0 a1 n1 c1 w) (b:WB w) (hj:h[j]?=some (.cells Zab [.str nd.1,.str nd.2] false)) :
  Zaj pg Zre [.agg [.slice a0 n0 c0 e0,.slice a1 n1 c1 e1],.str nd.1,.fn Zcr [.ptr (some (j,0))]] h fun v h'=>Zba h.length h h'∧∃ a n c e,v=.slice a n c e∧Zdd Zix eI h.length h' a n (Zhx w nd):=by
 have hl1:=r.len1
 have hli:=b.li
 apply Zcc.call
 simp only [Zax]
 generalize hh0:h ++ [Zby.cells Zad [.slice a0 n0 c0 e0,.slice a1 n1 c1 e1] false]=h0
 generalize hh1:h0 ++ [Zby.cells Zix [] false]=h1
 have s0:Zba h.length h h0:=by rw [← hh0]; exact Zam
 have s1:Zba h0.length h0 h1:=by rw [← hh1]; exact Zam
 have w0:h0[h.length]?=some (Zmt a0 n0 c0 e0 a1 n1 c1 e1):=by rw [← hh0]; simp [Zmt]
 have w1:=s1.get w0 (Own.lt w0)
 have o1:h1[h0.length]?=some (.cells Zix [] false):=by rw [← hh1]; simp
 have l0:h0.length=h.length + 1:=by rw [← hh0]; simp
 have S1:=s0.cat s1
 simp only [Ztf w1,Nat.zero_add,List.getElem?_cons_succ,List.getElem?_cons_zero,Zah]
 refine Zcc.L3ind _ _ _ _ _ _ _ _ (J:=fun (g:Nat) a4 n4 c4 e4 x14 h'=>x14=(g:Int)∧g≤n1∧Zba h.length h h'∧n4=(ixs (Zmx nd) (w.is.take g)).length∧Vec Zix h' a4 n4 c4 (Zdg eI (ixs (Zmx nd) (w.is.take g)))∧(∀ i,a4=some (i,0)→h.length≤i)) (fun g=>n1 - g) ?_ 0 _ _ _ _ _ _
  ⟨rfl,by omega,S1,rfl,Vec.mk1 (by simpa [ixs] using o1),fun i hi=>by cases hi; omega⟩
 rintro g a4 n4 c4 e4 x14 h' ⟨rfl,hg,hS,rfl,hv,ha⟩ R hR
 unfold Zcc.L3t
 refine Zau (fun hlt=>?_) (fun hge=>?_)
 ·have hgl:g < w.is.length:=by omega
  obtain ⟨i,o,a2,n2,c2,e2,rfl,_,hr,_,_,hrow,hn⟩:=Zqk (r.same hS) hgl
  simp only [Zaw,Int.toNat_natCast,hr,Zap,Zaf,Zao,Zag,Zah,Zax]
  rw [Ylm]
  simp only [Zar,Zfg,Nat.zero_add,List.getElem?_cons_succ,List.getElem?_cons_zero,Zag]
  have hil:=Ybh (Zmx nd) (w.is.take g)
  rw [List.length_take] at hil
  have htk:=Yig (Zmx nd) hgl
  generalize hq:h' ++ [Zby.cells Zac [.str w.is[g].1.1,.str w.is[g].1.2,.slice a2 n2 c2 e2] false]=hq'
  have sq:Zba h'.length h' hq':=by rw [← hq]; exact Zam
  have skip:∀ hz,Zba hq'.length hq' hz→Zmx nd w.is[g]=false→Zcc.J7 (fun v h'=>Zba h.length h h'∧∃ a n c e,v=.slice a n c e∧Zdd Zix eI h.length h' a n (Zhx w nd)) R (g:Int) (((n1:Nat):Int)) (some (i,o)) n1 c1 e1 nd.1 (.ptr (some (j,0))) a4 (ixs (Zmx nd) (w.is.take g)).length c4 e4 hz:=by
   intro hz sz hno
   apply Zcc.J7i
   rw [hno] at htk
   simp only [Bool.false_eq_true,if_false,List.append_nil] at htk
   rw [Zbq (by omega)]
   exact hR (g + 1) _ _ _ _ _ _ (by omega) ⟨rfl,by omega,(hS.cat sq).cat sz,by rw [htk],by rw [htk]; exact (hv.same sq).same sz,ha⟩
  refine ⟨by omega,Zau (fun hc=>?_) (fun hc=>skip _ (Zba.refl _ _) (by unfold Zmx; simp [hc]))⟩
  rw [← hq,Yrz,hq]
  simp only [Zap,Zaf,Zao,Zag,Zah]
  refine (Yki (sq.get (hS.get hj (Own.lt hj)) (by have:=Own.lt hj; have:=hS.le; omega))).mono ?_
  rintro v h3 ⟨rfl,s3⟩
  simp only [Zaq]
  refine Zdu (fun hi=>?_) (fun hi=>skip _ s3 (by unfold Zmx; simp [hi]))
  have hyes:Zmx nd w.is[g]=true:=by unfold Zmx; simp [hc,hi]
  rw [hyes,if_pos rfl] at htk
  have S3:=(hS.cat sq).cat s3
  refine ((hv.same sq).same s3).push Yny Yul Yuc Yuu (by rw [Zav Znv]; omega) rfl (by omega) (fun h6 hl6 hi6 hk6=>?_)
  simp only [Zah]
  apply Zcc.J7i
  rw [Zbq (by omega)]
  have hle:=S3.le
  refine hR (g + 1) _ _ _ _ _ _ (by omega) ⟨rfl,by omega,⟨by omega,fun j hj=>?_⟩,by rw [htk]; simp,Vec.mk1 ?_,fun i hi=>by cases hi; omega⟩
  ·rw [hk6 j (by omega) fun i hi=>by have:=ha i hi; omega]; exact S3.eq j hj
  ·rw [hi6,htk,Zii]; rfl
 ·apply Zcc.A3x0i
  have:g=n1:=by omega
  subst this
  rw [List.take_of_length_le (by omega)] at hv ⊢
  exact ⟨hS,_,_,_,_,rfl,hv.fresh (b:=h.length) rfl fun i hi=>ha i hi⟩
def Ysb (w:Wd) (n:Nd) (h:Zaa) (v:Zat) (h':Zaa):Prop:=Zba h.length h h'∧∃ a m c e,v=.slice a m c e∧Zdd Zix eI h.length h' a m (Zhx w n)
theorem Zdd.low {α:Type} {ty:TypeId} {enc:α→List Zat} {b b':Nat} {h:Zaa} {a:Pt} {n:Nat} {l:List α} (f:Zdd ty enc b h a n l) (hb:b'≤b):Zdd ty enc b' h a n l:=
 ⟨f.1,f.2.imp id fun ⟨i,ha,hbi,hi⟩=>⟨i,ha,by omega,hi⟩⟩
theorem Zud {h:Zaa} {a0 a1:Pt} {n0 c0 n1 c1:Nat} {e0 e1:Bool} {w:Wd} {nd:Nd} (r:Zlx h a0 n0 c0 a1 n1 c1 w) (b:WB w) :
  Zaj pg Zis [.agg [.slice a0 n0 c0 e0,.slice a1 n1 c1 e1],.agg [.str nd.1,.str nd.2]] h (Ysb w nd h):=by
 apply Zpj.call
 simp only [Zax]
 generalize hh0:h ++ [Zby.cells Zad [.slice a0 n0 c0 e0,.slice a1 n1 c1 e1] false]=h0
 generalize hh1:h0 ++ [Zby.cells Zab [.str nd.1,.str nd.2] false]=h1
 have s0:Zba h.length h h0:=by rw [← hh0]; exact Zam
 have s1:Zba h0.length h0 h1:=by rw [← hh1]; exact Zam
 have w0:h0[h.length]?=some (Zmt a0 n0 c0 e0 a1 n1 c1 e1):=by rw [← hh0]; simp [Zmt]
 have w1:=s1.get w0 (Own.lt w0)
 have i1:h1[h0.length]?=some (.cells Zab [.str nd.1,.str nd.2] false):=by rw [← hh1]; simp
 have S1:=s0.cat s1
 rw [Zwi w1]
 simp only [Zap,Zaf,Zao,Zah,Zal i1,Nat.zero_add,List.getElem?_cons_zero,Zag]
 refine (Yiv (r.same S1) b i1).mono ?_
 rintro v h2 ⟨s2,a,n,c,e,rfl,f⟩
 simp only [Zah]
 exact ⟨S1.cat s2,a,n,c,e,rfl,f.low S1.le⟩
def Yui (w:Wd) (n:Nd) (h:Zaa) (v:Zat) (h':Zaa):Prop:=Zba h.length h h'∧∃ a m c e,v=.tup [.slice a m c e,.bool (Zdv w && Zfp w n)]∧Zdd Zix eI h.length h' a m (Zrm w n)
theorem Zza {h:Zaa} {a0 a1:Pt} {n0 c0 n1 c1:Nat} {e0 e1:Bool} {w:Wd} {nd:Nd} (r:Zlx h a0 n0 c0 a1 n1 c1 w) (b:WB w) :
  Zaj pg Zjy [.agg [.slice a0 n0 c0 e0,.slice a1 n1 c1 e1],.agg [.str nd.1,.str nd.2]] h (Yui w nd h):=by
 apply Znf.call
 simp only [Zax]
 generalize hh0:h ++ [Zby.cells Zad [.slice a0 n0 c0 e0,.slice a1 n1 c1 e1] false]=h0
 generalize hh1:h0 ++ [Zby.cells Zab [.str nd.1,.str nd.2] false]=h1
 have s0:Zba h.length h h0:=by rw [← hh0]; exact Zam
 have s1:Zba h0.length h0 h1:=by rw [← hh1]; exact Zam
 have w0:h0[h.length]?=some (Zmt a0 n0 c0 e0 a1 n1 c1 e1):=by rw [← hh0]; simp [Zmt]
 have w1:=s1.get w0 (Own.lt w0)
 have i1:h1[h0.length]?=some (.cells Zab [.str nd.1,.str nd.2] false):=by rw [← hh1]; simp
 have S1:=s0.cat s1
 rw [Zwi w1,Zed i1 (by simp)]
 simp only [List.drop_zero,List.take_succ_cons,List.take_zero,Zap,Zaf,Zao,Zah,Zag]
 refine (Ztw (r.same S1) b).mono ?_
 rintro v h2 ⟨rfl,s2⟩
 have i2:=s2.get i1 (Own.lt i1)
 have w2:=s2.get w1 (Own.lt w1)
 have S2:=S1.cat s2
 simp only [Zaq]
 refine Zbs (fun b1=>⟨S2,none,0,0,true,by rw [b1],by unfold Zrm; rw [b1]; exact ⟨rfl,.inl rfl⟩⟩) (fun b1=>?_)
 rw [Zwi w2,Zed i2 (by simp)]
 simp only [List.drop_zero,List.take_succ_cons,List.take_zero,Zap,Zaf,Zao,Zah,Zag]
 refine (Zud (r.same S2) b).mono ?_
 rintro v h3 ⟨s3,a,n,c,e,rfl,f⟩
 simp only [Zah]
 exact ⟨S2.cat s3,a,n,c,e,by rw [b1],by unfold Zrm; rw [if_pos b1]; exact f.low S2.le⟩
theorem Zsu {h:Zaa} {a0 a1:Pt} {n0 c0 n1 c1:Nat} {e0 e1:Bool} {w:Wd} {nd:Nd} (r:Zlx h a0 n0 c0 a1 n1 c1 w) (b:WB w) (hnt:nd.2.length≤1048576) :
  Zaj pg Zhi [.agg [.slice a0 n0 c0 e0,.slice a1 n1 c1 e1],.agg [.str nd.1,.str nd.2]] h (Ysb w nd h):=by
 have hl1:=r.len1
 have hli:=b.li
 apply Zef.call
 simp only [Zax]
 generalize hh0:h ++ [Zby.cells Zad [.slice a0 n0 c0 e0,.slice a1 n1 c1 e1] false]=h0
 generalize hh1:h0 ++ [Zby.cells Zab [.str nd.1,.str nd.2] false]=h1
 generalize hh2:h1 ++ [Zby.cells Zix [] false]=h2
 have s0:Zba h.length h h0:=by rw [← hh0]; exact Zam
 have s1:Zba h0.length h0 h1:=by rw [← hh1]; exact Zam
 have s2:Zba h1.length h1 h2:=by rw [← hh2]; exact Zam
 have w0:h0[h.length]?=some (Zmt a0 n0 c0 e0 a1 n1 c1 e1):=by rw [← hh0]; simp [Zmt]
 have w2:=s2.get (s1.get w0 (Own.lt w0)) (by have:=Own.lt w0; have:=s1.le; omega)
 have i1:h1[h0.length]?=some (.cells Zab [.str nd.1,.str nd.2] false):=by rw [← hh1]; simp
 have i2:=s2.get i1 (Own.lt i1)
 have o2:h2[h1.length]?=some (.cells Zix [] false):=by rw [← hh2]; simp
 have S2:=(s0.cat s1).cat s2
 have hle1:=(s0.cat s1).le
 have l1':h1.length=h0.length + 1:=by rw [← hh1]; simp
 simp only [Ztf w2,Nat.zero_add,List.getElem?_cons_succ,List.getElem?_cons_zero,Zah]
 refine Zef.L3ind _ _ _ _ _ _ _ _ (J:=fun (g:Nat) a4 n4 c4 e4 x12 h'=>x12=(g:Int)∧g≤n1∧Zba h.length h h'∧h'[h0.length]?=some (.cells Zab [.str nd.1,.str nd.2] false)∧n4=(ixs (Zmx nd) (w.is.take g)).length∧Vec Zix h' a4 n4 c4 (Zdg eI (ixs (Zmx nd) (w.is.take g)))∧(∀ i,a4=some (i,0)→h1.length≤i)) (fun g=>n1 - g) ?_ 0 _ _ _ _ _ _
  ⟨rfl,by omega,S2,i2,rfl,Vec.mk1 (by simpa [ixs] using o2),fun i hi=>by cases hi; omega⟩
 rintro g a4 n4 c4 e4 x12 h' ⟨rfl,hg,hS,hi0,rfl,hv,ha⟩ R hR
 have hlt1:=Own.lt i1
 unfold Zef.L3t
 refine Zau (fun hlt=>?_) (fun hge=>?_)
 ·have hgl:g < w.is.length:=by omega
  obtain ⟨i,o,a2,n2,c2,e2,rfl,_,hr,_,_,hrow,hn⟩:=Zqk (r.same hS) hgl
  simp only [Zaw,Int.toNat_natCast,hr,Zap,Zaf,Zao,Zag,Zah,Zax]
  rw [Ylm]
  have hil:=Ybh (Zmx nd) (w.is.take g)
  rw [List.length_take] at hil
  have htk:=Yig (Zmx nd) hgl
  have hb:=b.is _ (List.getElem_mem hgl)
  generalize hq:h' ++ [Zby.cells Zac [.str w.is[g].1.1,.str w.is[g].1.2,.slice a2 n2 c2 e2] false]=hq'
  have sq:Zba h'.length h' hq':=by rw [← hq]; exact Zam
  have oq:hq'[h'.length]?=some (.cells Zac [.str w.is[g].1.1,.str w.is[g].1.2,.slice a2 n2 c2 e2] false):=by rw [← hq]; simp
  have iq:=sq.get hi0 (Own.lt hi0)
  simp only [Zar,Zal oq,Zal iq,Nat.zero_add,List.getElem?_cons_succ,List.getElem?_cons_zero,Zag]
  have skip:∀ hz,Zba hq'.length hq' hz→Zmx nd w.is[g]=false→Zef.J7 (Ysb w nd h) R (g:Int) (((n1:Nat):Int)) (some (i,o)) n1 c1 e1 h0.length 0 a4 (ixs (Zmx nd) (w.is.take g)).length c4 e4 hz:=by
   intro hz sz hno
   apply Zef.J7i
   rw [hno] at htk
   simp only [Bool.false_eq_true,if_false,List.append_nil] at htk
   rw [Zbq (by omega)]
   exact hR (g + 1) _ _ _ _ _ _ (by omega) ⟨rfl,by omega,(hS.cat sq).cat sz,sz.get iq (Own.lt iq),by rw [htk],by rw [htk]; exact (hv.same sq).same sz,ha⟩
  refine ⟨by omega,Zau (fun hc=>?_) (fun hc=>skip _ (Zba.refl _ _) (by unfold Zmx; simp [hc]))⟩
  refine (Zst _ _ hb.2.1 hnt _).mono ?_
  rintro v h3 ⟨rfl,s3⟩
  simp only [Zaq]
  refine Zdu (fun hi=>?_) (fun hi=>skip _ s3 (by unfold Zmx; simp [hi]))
  have hyes:Zmx nd w.is[g]=true:=by unfold Zmx; simp [hc,hi]
  rw [hyes,if_pos rfl] at htk
  have S3:=(hS.cat sq).cat s3
  have i3:=s3.get iq (Own.lt iq)
  refine ((hv.same sq).same s3).push Yny Yul Yuc Yuu (by rw [Zav Znv]; omega) rfl (by omega) (fun h6 hl6 hi6 hk6=>?_)
  simp only [Zah]
  apply Zef.J7i
  rw [Zbq (by omega)]
  have hle:=S3.le
  have hle3:=Own.lt i3
  refine hR (g + 1) _ _ _ _ _ _ (by omega) ⟨rfl,by omega,⟨by omega,fun j hj=>?_⟩,?_,by rw [htk]; simp,Vec.mk1 ?_,fun i hi=>by cases hi; have:=s3.le; have:=sq.le; have:=Own.lt hi0; omega⟩
  ·rw [hk6 j (by omega) fun i hi=>by have:=ha i hi; omega]; exact S3.eq j hj
  ·rw [hk6 _ hle3 fun i hi=>by have:=ha i hi; omega]; exact i3
  ·rw [hi6,htk,Zii]; rfl
 ·apply Zef.A3x0i
  have:g=n1:=by omega
  subst this
  rw [List.take_of_length_le (by omega)] at hv ⊢
  exact ⟨hS,_,_,_,_,rfl,hv.fresh (b:=h.length) rfl fun i hi=>by have:=ha i hi; omega⟩
theorem Zwl {h:Zaa} {a0 a1:Pt} {n0 c0 n1 c1:Nat} {e0 e1:Bool} {w:Wd} {nd:Nd} (r:Zlx h a0 n0 c0 a1 n1 c1 w) (b:WB w) (hnt:nd.2.length≤1048576) :
  Zaj pg Zjw [.agg [.slice a0 n0 c0 e0,.slice a1 n1 c1 e1],.agg [.str nd.1,.str nd.2]] h (Yui w nd h):=by
 apply Znm.call
 simp only [Zax]
 generalize hh0:h ++ [Zby.cells Zad [.slice a0 n0 c0 e0,.slice a1 n1 c1 e1] false]=h0
 generalize hh1:h0 ++ [Zby.cells Zab [.str nd.1,.str nd.2] false]=h1
 have s0:Zba h.length h h0:=by rw [← hh0]; exact Zam
 have s1:Zba h0.length h0 h1:=by rw [← hh1]; exact Zam
 have w0:h0[h.length]?=some (Zmt a0 n0 c0 e0 a1 n1 c1 e1):=by rw [← hh0]; simp [Zmt]
 have w1:=s1.get w0 (Own.lt w0)
 have i1:h1[h0.length]?=some (.cells Zab [.str nd.1,.str nd.2] false):=by rw [← hh1]; simp
 have S1:=s0.cat s1
 rw [Zwi w1,Zed i1 (by simp)]
 simp only [List.drop_zero,List.take_succ_cons,List.take_zero,Zap,Zaf,Zao,Zah,Zag]
 refine (Zwb (r.same S1) b hnt).mono ?_
 rintro v h2 ⟨rfl,s2⟩
 have i2:=s2.get i1 (Own.lt i1)
 have w2:=s2.get w1 (Own.lt w1)
 have S2:=S1.cat s2
 simp only [Zaq]
 refine Zbs (fun b1=>⟨S2.cat Zam,_,0,0,true,by rw [b1],by unfold Zrm; rw [b1]; exact ⟨rfl,.inl rfl⟩⟩) (fun b1=>?_)
 rw [Zwi w2,Zed i2 (by simp)]
 simp only [List.drop_zero,List.take_succ_cons,List.take_zero,Zap,Zaf,Zao,Zah,Zag]
 refine (Zsu (r.same S2) b hnt).mono ?_
 rintro v h3 ⟨s3,a,n,c,e,rfl,f⟩
 simp only [Zah]
 exact ⟨S2.cat s3,a,n,c,e,by rw [b1],by unfold Zrm; rw [if_pos b1]; exact f.low S2.le⟩
end Go.Sim
