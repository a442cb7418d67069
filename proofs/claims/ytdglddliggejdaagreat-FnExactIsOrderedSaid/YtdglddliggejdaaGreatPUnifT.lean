/- A part of the proof of a statement of this seat: see the text that holds the theorem. No condition. -/
import Derived.Test.YtdglddliggejdaaGreatPTCGrow
import Derived.Test.YtdglddliggejdaaGreatCMatch2
set_option linter.unusedVariables false
set_option linter.unusedSimpArgs false
set_option linter.all false
set_option linter.unusedVariables false
set_option linter.unusedSimpArgs false
set_option maxRecDepth 20000
namespace Go.Sim
open Go Go.RowKit

def Zfk:List Nat:=[88,89,90,120,121,122,49,50,51,52,53,54]
theorem Zyy {v:Nat} (hv:Zbc v=true):∃ k:Nat,k < 6∧Zel[k]?=some v∧Zoq Zfk v=(k:Int):=by
 have:=(Zux v).2 hv
 simp only [Zel,List.mem_cons,List.not_mem_nil,or_false] at this
 rcases this with rfl | rfl | rfl | rfl | rfl | rfl
 ·exact ⟨0,by omega,rfl,rfl⟩
 ·exact ⟨1,by omega,rfl,rfl⟩
 ·exact ⟨2,by omega,rfl,rfl⟩
 ·exact ⟨3,by omega,rfl,rfl⟩
 ·exact ⟨4,by omega,rfl,rfl⟩
 ·exact ⟨5,by omega,rfl,rfl⟩
theorem Zuc {t:Ty} (h:t.ok=true):t.hd∈[105,98,117,108,109,112,120,121,122,88,89,90]:=by
 have:=Ty.ok_ar h
 unfold arN Zfi Zbc at this
 simp only [Bool.or_eq_true,beq_iff_eq] at this
 simp only [List.mem_cons,List.not_mem_nil,or_false]
 split at this
 ·omega
 ·split at this
  ·omega
  ·split at this
   ·omega
   ·omega
theorem Zyw {t:Ty} (h:t.ok=true) (hv:Zbc t.hd=false):Zoq Zfk t.hd=-1:=by
 apply Zru
 have:=Zuc h
 simp only [List.mem_cons,List.not_mem_nil,or_false] at this
 rcases this with e | e | e | e | e | e | e | e | e | e | e | e <;> rw [e] at hv ⊢ <;> first | (exact absurd hv (by decide)) | decide
theorem Zkm {h:Zaa} (c:Nat):Zae pg Zeo [.int .u8 (c:Int)] h fun v h'=>v=.int .i64 (Zoq Zfk c)∧h'=h:=by
 apply Zpf.call
 refine (Zxl Zfk c (by decide)).mono ?_
 rintro v h1 ⟨rfl,rfl⟩
 simp only [Zam]
 exact ⟨by trivial,by trivial⟩
def eR (x:Zal × Zal):List Zal:=[x.1,x.2]
theorem Zjz (x:Zal × Zal):(eR x).length=2:=rfl
theorem Zxk {α:Type} {enc:α→List Zal} {w:Nat} (hw:∀ x,(enc x).length=w):∀ {l:List α} {k:Nat} {x:α},k < l.length→putRow (Zeu enc l) (k * w) (enc x)=Zeu enc (l.set k x)
 | [],k,x,h=>by simp at h
 | y :: l,0,x,_=>by
  simp only [Nat.zero_mul,Zjk,List.set_cons_zero,putRow,List.take_zero,List.nil_append,Nat.zero_add,hw]
  rw [← hw y,List.drop_left]
 | y :: l,k + 1,x,h=>by
  have ih:=Zxk hw (l:=l) (k:=k) (x:=x) (by simpa using h)
  unfold putRow at ih ⊢
  simp only [Zjk,List.set_cons_succ]
  rw [← ih,Nat.succ_mul,Nat.add_comm (k * w) w,← hw y,List.take_length_add_append,Nat.add_assoc,List.drop_length_add_append]; simp only [List.append_assoc]
def Zrr (S:Nat→Prop) (h:Zaa) (i:Nat) (m:Bd):Prop:=∃ rows:List (Zal × Zal),rows.length=12∧h[i]?=some (.cells Zct (Zeu eR rows) false) ∧
 ∀ (k:Nat) (x:Zal × Zal),rows[k]?=some x→match (Zel[k]?).bind (Zkb m) with | some t=>Zeg S h t (eR x) | none=>x=(.int .u8 0,.slice none 0 0 true)
theorem Zrr.keep {S:Nat→Prop} {h h':Zaa} {i:Nat} {m:Bd} (r:Zrr S h i m) (hi:h'[i]?=h[i]?) (hh:∀ j,S j→j < h.length→h'[j]?=h[j]?):Zrr S h' i m:=by
 obtain ⟨rows,h1,h2,h3⟩:=r
 refine ⟨rows,h1,by rw [hi]; exact h2,fun k x hx=>?_⟩
 have:=h3 k x hx
 split at this
 ·exact this.keep hh
 ·exact this
theorem Zrr.same {S:Nat→Prop} {h h':Zaa} {i:Nat} {m:Bd} (r:Zrr S h i m) (s:Zaz h.length h h'):Zrr S h' i m:=by
 have hl:i < h.length:=by obtain ⟨_,_,h2,_⟩:=r; exact Own.lt h2
 exact r.keep (s.eq i hl) fun j _ hj=>s.eq j hj
theorem Zrr.lt {S:Nat→Prop} {h:Zaa} {i:Nat} {m:Bd} (r:Zrr S h i m):i < h.length:=by obtain ⟨_,_,h2,_⟩:=r; exact Own.lt h2
theorem Zrr.nil {S:Nat→Prop} {h:Zaa} {i:Nat} (hi:h[i]?=some (.cells Zct (Zeu eR (List.replicate 12 (.int .u8 0,.slice none 0 0 true))) false)):Zrr S h i []:=by
 refine ⟨_,by simp,hi,fun k x hx=>?_⟩
 have:(Zel[k]?).bind (Zkb [])=none:=by cases Zel[k]? <;> rfl
 rw [this]
 rw [List.getElem?_replicate] at hx
 split at hx
 ·cases hx; rfl
 ·cases hx
theorem Zrr.get {S:Nat→Prop} {h:Zaa} {i:Nat} {m:Bd} (r:Zrr S h i m) {k:Nat} (hk:k < 12):∃ x:Zal × Zal,Zad h (.ptr (some (i,0 + k * 2 + 0)))=some x.1∧Zbf h (.ptr (some (i,0 + k * 2))) 2=some [x.1,x.2] ∧
  match (Zel[k]?).bind (Zkb m) with | some t=>Zeg S h t [x.1,x.2] | none=>x=(.int .u8 0,.slice none 0 0 true):=by
 obtain ⟨rows,h1,h2,h3⟩:=r
 have hrow:Row h.length h (some (i,0)) (12 * 2) (Zeu eR rows):=⟨by rw [Zbm Zjz,h1],.inr ⟨i,0,_,_,_,rfl,Own.lt h2,h2,by rw [Zbm Zjz,h1]; simp,by rw [List.drop_zero,List.take_of_length_le (by rw [Zbm Zjz,h1]; simp)]⟩⟩
 obtain ⟨i',o',hk',he,_,hr,hc⟩:=Row.el Zjz hrow h1 hk (by omega)
 cases he
 exact ⟨rows[k],by have:=hc 0 (by omega); simpa [eR] using this,hr,h3 k _ (List.getElem?_eq_getElem hk')⟩
def Ymr (S:Nat→Prop) (h:Zaa) (i:Nat) (m:Bd):Prop:=∃ rows:List (Zal × Zal),rows.length=12∧h[i]?=some (.cells Zct (Zeu eR rows) false) ∧
 ∀ (k:Nat) (x:Zal × Zal),k < 6→rows[k]?=some x→match (Zel[k]?).bind (Zkb m) with | some t=>Zeg S h t (eR x) | none=>x=(.int .u8 0,.slice none 0 0 true)
theorem Zrr.w {S:Nat→Prop} {h:Zaa} {i:Nat} {m:Bd} (r:Zrr S h i m):Ymr S h i m:=by
 obtain ⟨rows,h1,h2,h3⟩:=r
 exact ⟨rows,h1,h2,fun k x _ hx=>h3 k x hx⟩
theorem Ymr.lt {S:Nat→Prop} {h:Zaa} {i:Nat} {m:Bd} (r:Ymr S h i m):i < h.length:=by obtain ⟨_,_,h2,_⟩:=r; exact Own.lt h2
theorem Ymr.same {S:Nat→Prop} {h h':Zaa} {i:Nat} {m:Bd} (r:Ymr S h i m) (s:Zaz h.length h h'):Ymr S h' i m:=by
 obtain ⟨rows,h1,h2,h3⟩:=r
 refine ⟨rows,h1,by rw [s.eq i (Own.lt h2)]; exact h2,fun k x hk hx=>?_⟩
 have:=h3 k x hk hx
 split at this
 ·exact this.keep fun j _ hj=>s.eq j hj
 ·exact this
theorem Ymr.get {S:Nat→Prop} {h:Zaa} {i:Nat} {m:Bd} (r:Ymr S h i m) {k:Nat} (hk:k < 6):∃ x:Zal × Zal,Zad h (.ptr (some (i,0 + k * 2 + 0)))=some x.1∧Zbf h (.ptr (some (i,0 + k * 2))) 2=some [x.1,x.2] ∧
  match (Zel[k]?).bind (Zkb m) with | some t=>Zeg S h t [x.1,x.2] | none=>x=(.int .u8 0,.slice none 0 0 true):=by
 obtain ⟨rows,h1,h2,h3⟩:=r
 have hrow:Row h.length h (some (i,0)) (12 * 2) (Zeu eR rows):=⟨by rw [Zbm Zjz,h1],.inr ⟨i,0,_,_,_,rfl,Own.lt h2,h2,by rw [Zbm Zjz,h1]; simp,by rw [List.drop_zero,List.take_of_length_le (by rw [Zbm Zjz,h1]; simp)]⟩⟩
 obtain ⟨i',o',hk',he,_,hr,hc⟩:=Row.el Zjz hrow h1 (show k < 12 by omega) (by omega)
 cases he
 exact ⟨rows[k],by have:=hc 0 (by omega); simpa [eR] using this,hr,h3 k _ hk (List.getElem?_eq_getElem hk')⟩
theorem Zrr.put {S:Nat→Prop} {h:Zaa} {i:Nat} {m:Bd} (r:Zrr S h i m) (hSi:∀ j,S j→j≠i) {k v:Nat} (hk:Zel[k]?=some v) (hg:Zkb m v=none) {t:Ty} {x y:Zal} (ht:Zeg S h t [x,y]) :
  ∃ h',Zbe h (.ptr (some (i,0 + k * 2))) [x,y]=some h'∧Zfv i h h'∧Zrr S h' i (m ++ [(v,t)]):=by
 obtain ⟨rows,h1,h2,h3⟩:=r
 have hk6:k < 6:=(List.getElem?_eq_some_iff.1 hk).1
 have hput:putRow (Zeu eR rows) (k * 2) (eR (x,y))=Zeu eR (rows.set k (x,y)):=Zxk Zjz (by omega)
 refine ⟨h.set i (.cells Zct (Zeu eR (rows.set k (x,y))) false),?_,Zfv.set _ _ _,?_⟩
 ·rw [Nat.zero_add,Zbl h2 (by rw [Zbm Zjz,h1]; simp; omega),← hput]; rfl
 ·have hkeep:∀ j,S j→j < h.length→(h.set i (.cells Zct (Zeu eR (rows.set k (x,y))) false))[j]?=h[j]?:=fun j hj _=>Zbw (fun e=>hSi j hj e.symm)
  refine ⟨_,by simp [h1],Zck h2,fun k' x' hx'=>?_⟩
  by_cases e:k=k'
  ·subst e
   rw [List.getElem?_set_self (by omega)] at hx'
   cases hx'
   rw [hk]
   simp only [Option.bind_some,Ydm,hg,if_true]
   exact ht.keep hkeep
  ·rw [List.getElem?_set_ne e] at hx'
   have:=h3 k' x' hx'
   have hb:(Zel[k']?).bind (Zkb (m ++ [(v,t)]))=(Zel[k']?).bind (Zkb m):=by
    cases hv':Zel[k']? with
    | none=>rfl
    | some w=>
     simp only [Option.bind_some,Ydm]
     cases hb:Zkb m w with
     | some u=>rfl
     | none=>
      have:¬ v=w:=fun e'=>by
       subst e'
       have h5:=List.getElem?_eq_some_iff.1 hk
       have h6:=List.getElem?_eq_some_iff.1 hv'
       exact e ((List.getElem_inj (h₀:=h5.1) (h₁:=h6.1) Zpz).1 (h5.2.trans h6.2.symm))
      simp [this]
   rw [hb]
   split at this
   ·exact this.keep hkeep
   ·exact this
def Yrc (S:Nat→Prop) (h:Zaa) (i:Nat) (r:Option Bd) (v:Zal) (h':Zaa):Prop:=Zfv i h h'∧(match r with | some m'=>v=.bool true∧Zrr S h' i m' | none=>v=.bool false)
theorem Zfv.of_same {i:Nat} {h h':Zaa} (s:Zaz h.length h h'):Zfv i h h':=⟨s.le,fun j hj _=>s.eq j hj⟩
theorem Zwd:∀ (N:Nat) {a t:Ty} {S:Nat→Prop} {h:Zaa} {va vt:List Zal} {i n:Nat} {m:Bd},a.size≤N→a.ok=true→t.ok=true→n≤1048576→t.txt.length≤n→BOk n m→(∀ j,S j→j≠i)→Zeg S h a va→Zeg S h t vt→Zrr S h i m →
  Zae pg Zje [.ptr (some (i,0)),.agg va,.agg vt] h (Yrc S h i (matchT m a t))
 | 0,a,t,S,h,va,vt,i,n,m,hN,_,_,_,_,_,_,_,_,_=>by have:=a.size_ps; omega
 | N + 1,a,t,S,h,va,vt,i,n,m,hN,ha,ht,hB,hn,bo,hSi,ra,rt,rm=>by
  have hcase:=Zyz (m:=m) ha ht
  obtain ⟨aa,ca,ea,vas,rfl,rowa,hSa,hval,hva⟩:=id ra.parts
  obtain ⟨at',ct,et,vts,rfl,rowt,hSt,hvtl,hvt⟩:=id rt.parts
  have hps2:a.ps.length≤2:=by cases a <;> simp [Ty.ps]
  have hil:=rm.lt
  apply Zhf.call
  simp only [Zaw]
  generalize hh0:h ++ [Zcj.cells Zab [.int .u8 (a.hd:Int),.slice aa a.ps.length ca ea] false]=h0
  generalize hh1:h0 ++ [Zcj.cells Zab [.int .u8 (t.hd:Int),.slice at' t.ps.length ct et] false]=h1
  have s0:Zaz h.length h h0:=by rw [← hh0]; exact Zaq
  have s1:Zaz h0.length h0 h1:=by rw [← hh1]; exact Zaq
  have o0:h0[h.length]?=some (.cells Zab [.int .u8 (a.hd:Int),.slice aa a.ps.length ca ea] false):=by rw [← hh0]; simp
  have oa:=s1.get o0 (Own.lt o0)
  have ot:h1[h0.length]?=some (.cells Zab [.int .u8 (t.hd:Int),.slice at' t.ps.length ct et] false):=by rw [← hh1]; simp
  have S1:=s0.cat s1
  have l0:h0.length=h.length + 1:=by rw [← hh0]; simp
  have l1:h1.length=h.length + 2:=by rw [← hh1]; simp [l0]
  simp only [Zak oa,Nat.zero_add,List.getElem?_cons_succ,List.getElem?_cons_zero,Zam]
  refine (Zkm a.hd).mono ?_
  rintro v h2 ⟨rfl,rfl⟩
  have rm1:=rm.same S1
  have K1:Zfv i h h2:=Zfv.of_same S1
  simp only [Zam,Zat]
  cases hv:Zbc a.hd with
  | true=>
   rw [hv] at hcase
   simp only [if_true] at hcase
   obtain ⟨k,hk6,hkv,hix⟩:=Zyy hv
   rw [hix]
   obtain ⟨x,hx1,hx2,hx3⟩:=rm1.get (k:=k) (by omega)
   rw [hkv,Option.bind_some] at hx3
   have hge:decide ((k:Int) ≥ 0)=true:=by simp
   simp only [hge,Zbr,Int.toNat_natCast,hx1,hx2,Zer ot (show 0 + 2≤_ by simp),List.drop_zero,List.take_succ_cons,List.take_zero,Zas,Zai,Zar,Zam,Zag]
   refine ⟨by omega,?_⟩
   cases hg:Zkb m a.hd with
   | none=>
    rw [hg] at hx3
    simp only at hx3
    subst hx3
    have hbn:Zmx m a.hd t=some (m ++ [(a.hd,t)]):=by unfold Zmx; rw [hg]
    rw [hcase,hbn]
    simp only [Zam,show ((0:Int) == 0)=true from rfl,Zbr]
    obtain ⟨h',hst,hK,hr'⟩:=rm1.put hSi hkv hg (rt.same S1)
    rw [hst]
    simp only [Zau]
    exact ⟨by omega,K1.trans hK,rfl,hr'⟩
   | some u=>
    rw [hg] at hx3
    simp only at hx3
    have hu:=bo.var _ (Zqw hg)
    obtain ⟨ux,uc,ue,hux⟩:=hx3.shape
    simp only [List.cons.injEq,and_true] at hux
    obtain ⟨hux1,hux2⟩:=hux
    rw [hux1,hux2] at hx2 hx3
    rw [hux1,hux2]
    simp only [Zam,Zag]
    have hu0:(((u.hd:Nat):Int) == 0)=false:=by
     have:=Zuc hu.2.1
     have hne:u.hd≠0:=fun e=>by rw [e] at this; simp at this
     simp; omega
    simp only [hu0,Zax]
    have rt1:=rt.same S1
    refine ⟨by omega,(Zre _ (Nat.le_refl _) (by omega) hu.2.1 hx3).mono ?_⟩
    rintro v h3 ⟨rfl,s3⟩
    have ot3:=s3.get ot (Own.lt ot)
    have rt3:=rt1.same s3
    simp only [Zap,Zer ot3 (show 0 + 2≤_ by simp),List.drop_zero,List.take_succ_cons,List.take_zero,true_and]
    refine (Zre _ (Nat.le_refl _) (by omega) ht rt3).mono ?_
    rintro v h4 ⟨rfl,s4⟩
    simp only [Zap]
    have hri:∀ hx,Zaz h2.length h2 hx→Zbf hx (.ptr (some (i,0 + k * 2))) 2=Zbf h2 (.ptr (some (i,0 + k * 2))) 2:=fun hx sx=>by
     simp only [Zbf,sx.eq i (by omega)]
    rw [hri _ (s3.cat s4),hri _ s3]
    refine ⟨by trivial,?_⟩
    have K4:Zfv i h h4:=K1.trans (Zfv.of_same (s3.cat s4))
    by_cases he:u=t
    ·subst he
     have hbn:Zmx m a.hd u=some m:=by unfold Zmx; rw [hg]; simp
     rw [hcase,hbn]
     exact ⟨K4,by simp,(rm1.same (s3.cat s4))⟩
    ·have hne:¬ u.txt=t.txt:=fun e=>he (Ty.txt_inj' hu.2.1 ht e)
     have hbn:Zmx m a.hd t=none:=by unfold Zmx; rw [hg]; simp [he]
     rw [hcase,hbn]
     exact ⟨K4,by simp [hne]⟩
  | false=>
   rw [hv] at hcase
   simp only [Bool.false_eq_true,if_false] at hcase
   rw [Zyw ha hv]
   have hge:decide ((-1:Int) ≥ 0)=false:=by decide
   simp only [hge,Zax,Zak ot,Zak oa,List.getElem?_cons_succ,List.getElem?_cons_zero,Zam,Zag]
   refine Zgx (fun hne=>?_) (fun he=>?_)
   ·rw [if_neg (fun e=>hne (by rw [e]))] at hcase
    rw [hcase]
    exact ⟨K1,rfl⟩
   ·have he':a.hd=t.hd:=by omega
    rw [if_pos he'] at hcase
    rw [hcase]
    have hlen:=Yeu ha ht he'
    refine Zhf.L10ind _ _ _ _ _ _ _ (J:=fun (g:Nat) x43 h'=>x43=(g:Int)∧g≤a.ps.length∧Zfv i h2 h'∧∃ m1,matchL m (a.ps.take g) (t.ps.take g)=some m1∧Zrr S h' i m1) (fun g=>a.ps.length - g) ?_ 0 _ _ ⟨rfl,by omega,Zfv.refl _ _,m,by simp [matchL],rm1⟩
    rintro g x43 h' ⟨rfl,hg,hK,m1,hm1,rm1⟩ R hR
    unfold Zhf.L10t
    have KK:=K1.trans hK
    refine Zan (fun hlt=>?_) (fun hge=>?_)
    ·have hga:g < a.ps.length:=by omega
     have hgt:g < t.ps.length:=by omega
     have oa1:h'[h.length]?=some (.cells Zab [.int .u8 (a.hd:Int),.slice aa a.ps.length ca ea] false):=by rw [hK.eq _ (Own.lt oa) (by omega)]; exact oa
     have ot1:h'[h0.length]?=some (.cells Zab [.int .u8 (t.hd:Int),.slice at' t.ps.length ct et] false):=by rw [hK.eq _ (Own.lt ot) (by omega)]; exact ot
     obtain ⟨ja,ofa,a3,c3,e3,rfl,hra,hka⟩:=Zeg.get (rowa.keepAt (i:=i) (fun j o h0 e=>hSi j (hSa j o (by omega) e)) KK) hval (fun k w x h1 h2=>(hva k w x h1 h2).keep fun j hj hl=>KK.eq j hl (hSi j hj)) hga
     obtain ⟨jt,oft,a4,c4,e4,rfl,hrt,hkt⟩:=Zeg.get (rowt.keepAt (i:=i) (fun j o h0 e=>hSi j (hSt j o (by omega) e)) KK) hvtl (fun k w x h1 h2=>(hvt k w x h1 h2).keep fun j hj hl=>KK.eq j hl (hSi j hj)) hgt
     simp only [Zat,Int.toNat_natCast,Zak oa1,Zak ot1,hra,hrt,Nat.zero_add,List.getElem?_cons_succ,List.getElem?_cons_zero,Zag,Zas,Zai,Zar,Zam,true_and]
     have hma:=List.getElem_mem hga
     have hmt:=List.getElem_mem hgt
     have h1:=Ty.size_part hma
     have h2:=Ty.len_part hmt
     have bo1:BOk n m1:=BOk.matchL (fun x hx=>Ty.ok_ps ha x (List.mem_of_mem_take hx)) (fun x hx=>⟨Ty.ok_ps ht x (List.mem_of_mem_take hx),by have:=Ty.len_part (List.mem_of_mem_take hx); omega⟩) bo hm1
     have htk:=Zqd a.ps t.ps m g hga hgt
     rw [hm1] at htk
     simp only at htk
     refine ⟨by omega,by omega,(Zwd N (by omega) (Ty.ok_ps ha _ hma) (Ty.ok_ps ht _ hmt) hB (by omega) bo1 hSi hka hkt rm1).mono ?_⟩
     rintro v h3 ⟨K3,hres⟩
     have oa3:h3[h.length]?=some (.cells Zab [.int .u8 (a.hd:Int),.slice (some (ja,ofa)) a.ps.length ca ea] false):=by rw [K3.eq _ (Own.lt oa1) (by omega)]; exact oa1
     cases hmm:matchT m1 a.ps[g] t.ps[g] with
     | none=>
      rw [hmm] at hres htk
      subst hres
      simp only [Zah,Bool.not_false,Zbr,Zak oa3,List.getElem?_cons_succ,List.getElem?_cons_zero,true_and]
      rw [Zqo a.ps t.ps m (g + 1) hlen htk]
      exact ⟨KK.trans K3,rfl⟩
     | some m2=>
      rw [hmm] at hres htk
      obtain ⟨rfl,rm2⟩:=hres
      simp only [Zah,Bool.not_true,Zax,Zak oa3,List.getElem?_cons_succ,List.getElem?_cons_zero,true_and]
      rw [Zbn (by omega)]
      exact hR (g + 1) _ _ (by omega) ⟨rfl,by omega,hK.trans K3,m2,htk,rm2⟩
    ·apply Zhf.A10x0i
     have:g=a.ps.length:=by omega
     subst this
     rw [List.take_length,hlen,List.take_length] at hm1
     rw [hm1]
     exact ⟨KK,rfl,rm1⟩
end Go.Sim

set_option linter.unusedVariables false
set_option linter.unusedSimpArgs false
set_option maxRecDepth 20000
namespace Go.Sim
open Go Go.RowKit

theorem Zty:∀ (N:Nat) {S:Nat→Prop} {h:Zaa} {t:Ty} {v:List Zal},t.size≤N→t.txt.length≤4611686018427387904→Zeg S h t v→Zae pg Zhw [.agg v] h fun x h'=>x=.int .i64 (t.txt.length:Nat)∧Zaz h.length h h'
 | 0,S,h,t,v,hN,_,_=>by have:=t.size_ps; omega
 | N + 1,S,h,t,v,hN,hB,r=>by
  obtain ⟨a,c,e,vs,rfl,hrow,hS,hvl,hp⟩:=r.parts
  have hps2:t.ps.length≤2:=by cases t <;> simp [Ty.ps]
  have htx:=t.txt_mids
  have hln:=congrArg List.length htx
  rw [List.length_append,List.length_cons] at hln
  apply Zes.call
  simp only [Zaw,Zff,Nat.zero_add,List.getElem?_cons_succ,List.getElem?_cons_zero,Zag]
  generalize hh0:h ++ [Zcj.cells Zab [.int .u8 (t.hd:Int),.slice a t.ps.length c e] false]=h0
  have s0:Zaz h.length h h0:=by rw [← hh0]; exact Zaq
  have o0:h0[h.length]?=some (.cells Zab [.int .u8 (t.hd:Int),.slice a t.ps.length c e] false):=by rw [← hh0]; simp
  refine Zes.L3ind _ _ _ _ _ _ _ _ (J:=fun (g:Nat) x3 x9 h'=>x9=(g:Int)∧g≤t.ps.length∧Zaz h.length h h'∧Zaz h0.length h0 h'∧x3=((1 + (Zmf 0 (t.ps.take g)).length:Nat):Int)) (fun g=>t.ps.length - g) ?_ 0 _ _ _ ⟨rfl,by omega,s0,Zaz.refl _ _,by simp [Zmf]⟩
  rintro g x3 x9 h' ⟨rfl,hg,hSm,hS1,rfl⟩ R hR
  unfold Zes.L3t
  have o2:=hS1.get o0 (Own.lt o0)
  refine Zan (fun hlt=>?_) (fun hge=>?_)
  ·have hg':g < t.ps.length:=by omega
   obtain ⟨i,o,a2,c2,e2,rfl,hr,hk⟩:=Zeg.get (hrow.same' hSm) hvl (fun k w x h1 h2=>(hp k w x h1 h2).same hSm) hg'
   simp only [Zat,Int.toNat_natCast,hr,Zas,Zai,Zar,Zam,Zag,Zaw]
   rw [Zin]
   simp only [Zau]
   rw [Ygb]
   simp only [Zas,Zai,Zar,Zam,Zag]
   have hm:=List.getElem_mem hg'
   have h1:=Ty.size_part hm
   have h2:=Ty.len_part hm
   have hmt:=Zrt t.ps 0 g hg'
   have hml:(Zmf 0 (t.ps.take (g + 1))).length≤(Zmf 0 t.ps).length:=Zuq _ _ _
   have hmtl:=congrArg List.length hmt
   simp only [List.length_append,List.length_cons,Nat.zero_add] at hmtl
   have s2:Zaz h'.length h' (h' ++ [.cells Zab [.int .u8 (t.ps[g].hd:Int),.slice a2 t.ps[g].ps.length c2 e2] false]):=Zaq
   refine ⟨by omega,(Zty N (by omega) (by omega) (hk.same s2)).mono ?_⟩
   rintro x h3 ⟨rfl,s3⟩
   simp only [Zam]
   rw [Zbn (by omega),Zbn (by omega),IntWalk.i64_in _ (by omega)]
   exact hR (g + 1) _ _ _ (by omega) ⟨rfl,by omega,(hSm.cat s2).cat s3,(hS1.cat s2).cat s3,by omega⟩
  ·apply Zes.A3x0i
   have:g=t.ps.length:=by omega
   subst this
   simp only [Zak o2,Nat.zero_add,List.getElem?_cons_succ,List.getElem?_cons_zero,Zag]
   rw [List.take_length]
   refine Zan (fun hpos=>?_) (fun hneg=>?_)
   ·have hne:t.ps≠[]:=fun e=>by rw [e] at hpos; simp at hpos
    rw [if_neg hne] at hln
    apply Zes.J9i
    simp only [List.length_cons,List.length_nil] at hln
    rw [Zbn (by omega)]
    exact ⟨by congr 1; omega,hSm⟩
   ·have hne:t.ps=[]:=List.eq_nil_of_length_eq_zero (by omega)
    rw [if_pos hne] at hln
    simp only [List.length_nil] at hln
    apply Zes.J9i
    exact ⟨by congr 1; omega,hSm⟩
def Ybg (m:Bd) (g:Nat):List Nd:=(Zel.take g).filterMap fun v=>(Zkb m v).map fun t=>([v],t.txt)
theorem Ykc (m:Bd) (g:Nat):Ybg m (g + 1)=Ybg m g ++ (match Zel[g]? with | some v=>(match Zkb m v with | some t=>[([v],t.txt)] | none=>[]) | none=>[]):=by
 unfold Ybg
 rw [List.take_succ,List.filterMap_append]
 cases Zel[g]? with
 | none=>simp
 | some v=>cases hb:Zkb m v <;> simp [hb]
theorem Ykv (m:Bd) (g:Nat):(Ybg m g).length≤6:=by
 unfold Ybg
 refine Nat.le_trans (List.length_filterMap_le _ _) ?_
 rw [List.length_take]; exact Nat.le_trans (Nat.min_le_right _ _) (by decide)
theorem Ykw {g v:Nat} (hv:Zel[g]?=some v):sub [88,89,90,120,121,122,49,50,51,52,53,54] (g:Int) ((g:Int) + 1)=[v]:=by
 have hg:g < 6:=(List.getElem?_eq_some_iff.1 hv).1
 match g,hg with
 | 0,_ | 1,_ | 2,_ | 3,_ | 4,_ | 5,_=>simp [Zel] at hv; subst hv; rfl
theorem Ykb {S:Nat→Prop} {h:Zaa} {i:Nat} {m:Bd} (rm:Zrr S h i m) (bo:BOk 60 m) :
  Zae pg Znh [.ptr (some (i,0))] h fun v h'=>Zaz h.length h h'∧∃ a n c e,v=.tup [.slice a n c e,.bool true]∧n≤c∧Zdk Zbo eP h.length h' a n (bdL m):=by
 apply Zem.call
 simp only [Zaw,Zat]
 generalize hh0:h ++ [Zcj.cells Zbo [] false]=h0
 have s0:Zaz h.length h h0:=by rw [← hh0]; exact Zaq
 have l0:h0.length=h.length + 1:=by rw [← hh0]; simp
 have o0:h0[h.length]?=some (.cells Zbo [] false):=by rw [← hh0]; simp
 refine Zem.L3ind _ _ (J:=fun (g:Nat) a4 n4 c4 e4 x10 h'=>x10=(g:Int)∧g≤12∧Zaz h.length h h'∧n4=(Ybg m g).length∧n4≤c4∧Vec Zbo h' a4 n4 c4 (Zeu eP (Ybg m g))∧(∀ i,a4=some (i,0)→h.length≤i)) (fun g=>12 - g) ?_ 0 _ _ _ _ _ _
  ⟨rfl,by omega,s0,by simp [Ybg],Nat.le_refl _,Vec.mk1 (by simpa [Ybg] using o0),fun i hi=>by cases hi; omega⟩
 rintro g a4 n4 c4 e4 x10 h' ⟨rfl,hg,hSm,rfl,hnc,hv,ha⟩ R hR
 unfold Zem.L3t
 have hbl:=Ykv m g
 refine Zan (fun hlt=>?_) (fun hge=>?_)
 ·have hg':g < 12:=by omega
  obtain ⟨x,hx1,hx2,hx3⟩:=(rm.same hSm).get hg'
  have il:=(rm.same hSm).lt
  have hx:∃ (d:Nat) (a:Pt) (n c:Nat) (e:Bool),x=(.int .u8 (d:Int),.slice a n c e)∧(match (Zel[g]?).bind (Zkb m) with | some t=>d=t.hd | none=>d=0):=by
   split at hx3
   ·rename_i t ht
    obtain ⟨ua,uc,ue,hu⟩:=hx3.shape
    simp only [List.cons.injEq,and_true] at hu
    exact ⟨t.hd,ua,t.ps.length,uc,ue,by rw [← hu.1,← hu.2],by first | rfl | rw [ht]⟩
   ·rename_i hn; exact ⟨0,none,0,0,true,hx3,by first | rfl | rw [hn]⟩
  obtain ⟨d,ua,un,uc,ue,rfl,hd⟩:=hx
  simp only [Int.toNat_natCast,hx2,Zat,Zas,Zai,Zar,Zam,Zag,Zaw]
  generalize hq:h' ++ [Zcj.cells Zab [.int .u8 0,.slice none 0 0 true] false]=hq'
  have sq:Zaz h'.length h' hq':=by rw [← hq]; exact Zaq
  have hrq:Zbf hq' (.ptr (some (i,0 + g * 2))) 2=some [.int .u8 (d:Int),.slice ua un uc ue]:=by
   rw [← hx2]; simp only [Zbf,sq.eq i il]
  rw [hrq,← hq,Zin]
  generalize hw:h' ++ [Zcj.cells Zab [.int .u8 (d:Int),.slice ua un uc ue] false]=hw'
  have sw:Zaz h'.length h' hw':=by rw [← hw]; exact Zaq
  have ow:hw'[h'.length]?=some (.cells Zab [.int .u8 (d:Int),.slice ua un uc ue] false):=by rw [← hw]; simp
  simp only [Zau,Zak ow,Nat.zero_add,List.getElem?_cons_zero,Zam,true_and]
  have SW:=hSm.cat sw
  have hsuc:=Ykc m g
  have skip:(Zel[g]?).bind (Zkb m)=none→Zem.J9 (fun v h'=>Zaz h.length h h'∧∃ a n c e,v=.tup [.slice a n c e,.bool true]∧n≤c∧Zdk Zbo eP h.length h' a n (bdL m)) R (g:Int) (some (i,0)) a4 (Ybg m g).length c4 e4 hw':=by
   intro hn
   have hsame:Ybg m (g + 1)=Ybg m g:=by
    rw [hsuc]
    cases hvg:Zel[g]? with
    | none=>simp
    | some v=>rw [hvg,Option.bind_some] at hn; simp [hn]
   apply Zem.J9i
   rw [Zbn (by omega)]
   exact hR (g + 1) _ _ _ _ _ _ (by omega) ⟨rfl,by omega,SW,by rw [hsame],hnc,by rw [hsame]; exact hv.same sw,ha⟩
  refine ⟨by omega,?_⟩
  cases hb:(Zel[g]?).bind (Zkb m) with
  | none=>
   rw [hb] at hd
   simp only at hd
   subst hd
   simp only [show (((0:Nat):Int) == 0)=true from rfl,Zbr]
   exact skip hb
  | some t=>
   rw [hb] at hd hx3
   simp only at hd hx3
   obtain ⟨v,hvg,hbv⟩:=Option.bind_eq_some_iff.1 hb
   have hu:=bo.var _ (Zqw hbv)
   have hg6:g < 6:=(List.getElem?_eq_some_iff.1 hvg).1
   have hd0:((d:Int) == 0)=false:=by
    have:=Zuc hu.2.1
    have hne:t.hd≠0:=fun e=>by rw [e] at this; simp at this
    simp; omega
   rw [show decide ((g:Int) ≥ 6)=false by simp; omega]
   simp only [hd0,Zax]
   apply Zem.J6i
   rw [← hw,Ygb,hw]
   simp only [Zas,Zai,Zar,Zam,Zag]
   have hu2:t.txt.length≤60:=hu.2.2
   refine (Zty _ (Nat.le_refl _) (by omega) (hx3.same sw)).mono ?_
   rintro v' h3 ⟨rfl,s3⟩
   have o3:=s3.get ow (Own.lt ow)
   simp only [Zam]
   rw [show decide (((t.txt.length:Nat):Int) > 60)=false by simp; omega]
   simp only [Zax,Zer o3 (show 0 + 2≤_ by simp),List.drop_zero,List.take_succ_cons,List.take_zero,Zas,Zai,Zar,Zam,Zag]
   rw [Zbn (by omega),show (((g + 1:Nat):Int))=(g:Int) + 1 by omega,Ykw hvg]
   refine ⟨⟨by omega,by omega,by simp; omega⟩,(Zre _ (Nat.le_refl _) (by omega) hu.2.1 ((hx3.same sw).same s3)).mono ?_⟩
   rintro v' h4 ⟨rfl,s4⟩
   simp only [Zap,Zaw]
   have S4:=(SW.cat s3).cat s4
   refine (((hv.same sw).same s3).same s4).pushN Zvc Zyq Zzg Zze (by rw [Zbm Zgz]) rfl (by omega) rfl (by omega) (fun h6 hl6 hi6 hk6=>?_)
   simp only [Zag]
   apply Zem.J9i
   rw [Zbn (by omega)]
   have hle:=S4.le
   have hs':Ybg m (g + 1)=Ybg m g ++ [([v],t.txt)]:=by rw [hsuc,hvg]; simp [hbv]
   refine hR (g + 1) _ _ _ _ _ _ (by omega) ⟨rfl,by omega,⟨by omega,fun j hj=>?_⟩,by rw [hs']; simp,Nat.le_refl _,Vec.mk1 ?_,fun i hi=>by cases hi; omega⟩
   ·rw [hk6 j (by omega) fun i hi=>by have:=ha i hi; omega]; exact S4.eq j hj
   ·rw [hi6,hs',Zmv]; rfl
 ·apply Zem.A3x0i
  have:g=12:=by omega
  subst this
  have hb12:Ybg m 12=bdL m:=by unfold Ybg bdL; rw [List.take_of_length_le (by decide)]
  rw [hb12] at hv hnc ⊢
  exact ⟨hSm,_,_,_,_,rfl,hnc,hv.fresh (b:=h.length) rfl fun i hi=>ha i hi⟩
theorem Yhw:Zeu eR (List.replicate 12 (Zal.int .u8 0,Zal.slice none 0 0 true))=[.int .u8 0,.slice none 0 0 true,.int .u8 0,.slice none 0 0 true,.int .u8 0,.slice none 0 0 true,.int .u8 0,.slice none 0 0 true,.int .u8 0,.slice none 0 0 true,.int .u8 0,.slice none 0 0 true,.int .u8 0,.slice none 0 0 true,.int .u8 0,.slice none 0 0 true,.int .u8 0,.slice none 0 0 true,.int .u8 0,.slice none 0 0 true,.int .u8 0,.slice none 0 0 true,.int .u8 0,.slice none 0 0 true]:=rfl
theorem Zow {h h':Zaa} {s:List Nat} {vs:List Zal} (hm:match Zhv s with | some t=>Zeg (Btw h.length h'.length) h' t vs | none=>vs=[.int .u8 0,.slice none 0 0 true]):∃ (d:Int) (a:Pt) (n c:Nat) (e:Bool),vs=[.int .u8 d,.slice a n c e]:=by
 split at hm
 ·obtain ⟨a,c,e,rfl⟩:=hm.shape; exact ⟨_,_,_,_,_,rfl⟩
 ·exact ⟨_,_,_,_,_,hm⟩
theorem Zxa (p s:List Nat) (hp0:p.length≤1048576) (hs0:s.length≤1048576) (h:Zaa):Zae pg Zjs [.str p,.str s] h (Yeo p s h):=by
 apply Zjn.call
 refine (Zok p (by omega) h).mono ?_
 rintro v h1 ⟨s1,vs1,rfl,r1⟩
 obtain ⟨d1,a1,n1,c1,e1,rfl⟩:=Zow r1
 simp only [Zdo,Zai,Zdf,Zam,Zag,Zar,Zah,Zaw]
 rw [Zin]
 generalize hh2:h1 ++ [Zcj.cells Zab [.int .u8 d1,.slice a1 n1 c1 e1] false]=h2
 have s2:Zaz h1.length h1 h2:=by rw [← hh2]; exact Zaq
 have o2:h2[h1.length]?=some (.cells Zab [.int .u8 d1,.slice a1 n1 c1 e1] false):=by rw [← hh2]; simp
 simp only [Zau]
 refine (Zok s (by omega) h2).mono ?_
 rintro v h3 ⟨s3,vs3,rfl,r3⟩
 obtain ⟨d3,a3,n3,c3,e3,rfl⟩:=Zow r3
 simp only [Zdo,Zai,Zdf,Zam,Zag,Zar,Zah]
 rw [Zin]
 generalize hh4:h3 ++ [Zcj.cells Zab [.int .u8 d3,.slice a3 n3 c3 e3] false]=h4
 have s4:Zaz h3.length h3 h4:=by rw [← hh4]; exact Zaq
 have o4:h4[h3.length]?=some (.cells Zab [.int .u8 d3,.slice a3 n3 c3 e3] false):=by rw [← hh4]; simp
 simp only [Zau]
 rw [← Yhw]
 generalize hh5:h4 ++ [Zcj.cells Zct (Zeu eR (List.replicate 12 (Zal.int .u8 0,Zal.slice none 0 0 true))) false]=h5
 have s5:Zaz h4.length h4 h5:=by rw [← hh5]; exact Zaq
 have o5:h5[h4.length]?=some (.cells Zct (Zeu eR (List.replicate 12 (Zal.int .u8 0,Zal.slice none 0 0 true))) false):=by rw [← hh5]; simp
 have x2:h5[h1.length]?=some (.cells Zab [.int .u8 d1,.slice a1 n1 c1 e1] false):=s5.get (s4.get (s3.get o2 (Own.lt o2)) (by have:=Own.lt o2; have:=s3.le; omega)) (by have:=Own.lt o2; have:=s3.le; have:=s4.le; omega)
 have x4:=s5.get o4 (Own.lt o4)
 have S2:=s1.cat s2
 have S5:=(((S2.cat s3).cat s4).cat s5)
 have no:Zkr p s=none→∀ hz,Zaz h.length h hz→Yeo p s h (.tup [.slice (some (hz.length,0)) 0 0 true,.bool false]) (hz ++ [Zcj.cells Zbo [] false]):=fun hn hz sz=>
  ⟨sz.cat Zaq,_,0,0,true,by unfold Zvp; rw [hn]; rfl,Nat.le_refl _,by unfold Zwq; rw [hn]; exact ⟨rfl,.inl rfl⟩⟩
 cases hp:Zhv p with
 | none=>
  have:Znz p=false:=by unfold Znz; rw [hp]; rfl
  rw [this]
  simp only [Bool.not_false,Zbr]
  exact no (by unfold Zkr; rw [hp]) _ S5
 | some a=>
  rw [Zsb hp]
  simp only [Bool.not_true,Zax]
  cases ht:Zhv s with
  | none=>
   have:Znz s=false:=by unfold Znz; rw [ht]; rfl
   rw [this]
   simp only [Bool.not_false,Zbr]
   exact no (by unfold Zkr; rw [hp,ht]) _ S5
  | some t=>
   rw [Zsb ht]
   rw [hp] at r1
   rw [ht] at r3
   simp only at r1 r3
   simp only [Bool.not_true,Zax,Zer x2 (show 0 + 2≤_ by simp),Zer x4 (show 0 + 2≤_ by simp),List.drop_zero,List.take_succ_cons,List.take_zero,Zas,Zai,Zar,Zam,Zag]
   obtain ⟨ha1,ha2,ha3⟩:=Zep.1 hp
   obtain ⟨ht1,ht2,ht3⟩:=Zep.1 ht
   have hms:Zkr p s=matchT [] a t:=by unfold Zkr; rw [hp,ht]
   have l3:=s3.le; have l4:=s4.le; have l2:=s2.le
   have R1:=((((r1.same s2).same s3).same s4).same s5).mono (S':=fun j=>j≠h4.length) (fun j hj=>by have:=hj.2; omega)
   have R3:=((r3.same s4).same s5).mono (S':=fun j=>j≠h4.length) (fun j hj=>by have:=hj.2; omega)
   refine (Zwd _ (Nat.le_refl _) ha1 ht1 (n:=60) (by omega) (by rw [← ht2]; exact ht3) BOk.nil (fun j hj=>hj) R1 R3 (Zrr.nil o5)).mono ?_
   rintro v h6 ⟨K6,hres⟩
   have l5:=S5.le
   have lh4:h.length≤h4.length:=(((S2.cat s3).cat s4)).le
   have S6:Zaz h.length h h6:=⟨by have:=K6.le; omega,fun j hj=>by rw [K6.eq j (by omega) (by omega)]; exact S5.eq j hj⟩
   cases hm:matchT [] a t with
   | none=>
    rw [hm] at hres hms
    subst hres
    simp only [Zah,Bool.not_false,Zbr]
    exact no hms _ S6
   | some m=>
    rw [hm] at hres hms
    obtain ⟨rfl,rm6⟩:=hres
    simp only [Zah,Bool.not_true,Zax]
    apply Zjn.J6i
    refine (Ykb rm6 (Yar hms)).mono ?_
    rintro v h7 ⟨s7,a7,n7,c7,e7,rfl,hc7,f7⟩
    simp only [Zdo,Zai,Zag,Zah,Zar]
    refine ⟨S6.cat s7,a7,n7,c7,e7,by unfold Zvp; rw [hms]; rfl,hc7,?_⟩
    unfold Zwq; rw [hms]
    exact ⟨f7.1,f7.2.imp id fun ⟨i,ha,hb,hi⟩=>⟨i,ha,by have:=S6.le; omega,hi⟩⟩
theorem Zvq (p s:List Nat) (hp0:p.length≤1048576) (hs0:s.length≤1048576) (h:Zaa):Zae pg Zit [.str p,.str s] h fun v h'=>v=.bool (Zvp p s)∧Zaz h.length h h':=by
 apply Zmc.call
 refine (Zxa p s hp0 hs0 h).mono ?_
 rintro v h1 ⟨s1,a,n,c,e,rfl,_⟩
 simp only [Zdo,Zai,Zag,Zah,Zar]
 exact ⟨by trivial,s1⟩
end Go.Sim

set_option linter.unusedSimpArgs false
set_option linter.unusedVariables false
namespace Go.Sim

noncomputable def Yqo (l:List Nd) (i:Nat):Bool:=Zpt (l.getD i ([],[])).1 && Znz (l.getD i ([],[])).2 && (i == 0 || Zed (l.getD (i - 1) ([],[])).1 (l.getD i ([],[])).1)
noncomputable def Ypc (l:List Nd):Bool:=(List.range l.length).all (Yqo l)
def Yqz (l:List Nd) (c:Nat):List Nat:=match l.find? fun p=>decide (p.1=[c]) with | some p=>p.2 | none=>[c]
def Yjq (l:List Nd) (t:List Nat):List Nat:=t.flatMap (Yqz l)
noncomputable def subst (f:Nat→Option Ty):Ty→Ty
 | .k c=>(f c).getD (.k c)
 | .u c a=>.u c (subst f a)
 | .w c a b=>.w c (subst f a) (subst f b)
noncomputable def Ypr (l:List Nd) (t:List Nat):Option (List Nat):=if Ypc l && Znz t && decide ((Yjq l t).length≤60) then some (Yjq l t) else none
noncomputable def Yql (i:Ins) (t:List Nat):Option (List Nd):=
 match Zkr i.1.2 t with
 | none=>none
 | some m=>if i.2.all fun n=>(Ypr (bdL m) n.2).isSome then some (i.2.map fun n=>(n.1,Yjq (bdL m) n.2)) else none
end Go.Sim

set_option linter.unusedSimpArgs false
set_option linter.unusedVariables false
namespace Go.Sim

section
variable (V:Nat→Bool)
def sb (θ:Nat→Ty):Ty→Ty
 | .k c=>if V c=true then θ c else .k c
 | .u c a=>.u c (sb θ a)
 | .w c a b=>.w c (sb θ a) (sb θ b)
def occ (v:Nat):Ty→Bool
 | .k c=>decide (c=v)
 | .u _ a=>occ v a
 | .w _ a b=>occ v a || occ v b
end
section
variable {V:Nat→Bool}
theorem Zxc (θ F:Nat→Ty):∀ t:Ty,sb V θ (sb V F t)=sb V (fun c=>sb V θ (F c)) t
 | .k c=>by by_cases h:V c=true <;> simp [sb,h]
 | .u c a=>by simp only [sb,Zxc θ F a]
 | .w c a b=>by simp only [sb,Zxc θ F a,Zxc θ F b]
theorem Yjm:∀ t:Ty,sb V .k t=t
 | .k c=>by unfold sb; split <;> rfl
 | .u c a=>by simp only [sb,Yjm a]
 | .w c a b=>by simp only [sb,Yjm a,Yjm b]
theorem Zni {θ θ':Nat→Ty}:∀ {t:Ty},(∀ c,V c=true→occ c t=true→θ c=θ' c)→sb V θ t=sb V θ' t
 | .k c,h=>by
  unfold sb
  by_cases hv:V c=true
  ·rw [if_pos hv,if_pos hv,h c hv (by simp [occ])]
  ·rw [if_neg hv,if_neg hv]
 | .u c a,h=>by simp only [sb,Zni (t:=a) fun c hv ho=>h c hv (by simpa [occ] using ho)]
 | .w c a b,h=>by
  simp only [sb,Zni (t:=a) fun c hv ho=>h c hv (by simp [occ,ho]),Zni (t:=b) fun c hv ho=>h c hv (by simp [occ,ho])]
theorem Yej {F:Nat→Ty}:∀ {t:Ty},sb V F t=t→∀ c,V c=true→occ c t=true→F c=.k c
 | .k d,h,c,hv,ho=>by
  simp [occ] at ho; subst ho
  unfold sb at h; rw [if_pos hv] at h; exact h
 | .u d a,h,c,hv,ho=>by simp only [sb,Ty.u.injEq,true_and] at h; exact Yej h c hv (by simpa [occ] using ho)
 | .w d a b,h,c,hv,ho=>by
  simp only [sb,Ty.w.injEq,true_and] at h
  simp only [occ,Bool.or_eq_true] at ho
  rcases ho with ho | ho
  ·exact Yej h.1 c hv ho
  ·exact Yej h.2 c hv ho
theorem Zrq (t:Ty):1≤t.size:=by cases t <;> simp [Ty.size]
theorem Zws {θ:Nat→Ty} {x:Nat} (hx:V x=true):∀ {t:Ty},occ x t=true→(θ x).size≤(sb V θ t).size
 | .k d,ho=>by simp [occ] at ho; subst ho; unfold sb; rw [if_pos hx]; exact Nat.le_refl _
 | .u d a,ho=>by have:=Zws (θ:=θ) hx (t:=a) (by simpa [occ] using ho); simp only [sb,Ty.size]; omega
 | .w d a b,ho=>by
  simp only [occ,Bool.or_eq_true] at ho
  simp only [sb,Ty.size]
  rcases ho with ho | ho
  ·have:=Zws (θ:=θ) hx ho; omega
  ·have:=Zws (θ:=θ) hx ho; omega
theorem Ypf {θ:Nat→Ty} {x:Nat} (hx:V x=true) {t:Ty} (ho:occ x t=true) (hne:t≠.k x):(θ x).size < (sb V θ t).size:=by
 cases t with
 | k d=>simp [occ] at ho; exact absurd (by rw [ho]) hne
 | u d a=>have:=Zws (θ:=θ) hx (t:=a) (by simpa [occ] using ho); simp only [sb,Ty.size]; omega
 | w d a b=>
  simp only [occ,Bool.or_eq_true] at ho
  simp only [sb,Ty.size]
  rcases ho with ho | ho
  ·have:=Zws (θ:=θ) hx ho; omega
  ·have:=Zws (θ:=θ) hx ho; omega

inductive Wlk (σ:Nat→Option Ty):Nat→Ty→Ty→Prop
 | stop {t:Ty}:(∀ c,t=.k c→σ c=none)→Wlk σ 0 t t
 | step {c n:Nat} {u t:Ty}:σ c=some u→Wlk σ n u t→Wlk σ (n + 1) (.k c) t
theorem Wlk.end_ {σ:Nat→Option Ty} {n:Nat} {s t:Ty} (h:Wlk σ n s t):∀ c,t=.k c→σ c=none:=by
 induction h with
 | stop h=>exact h
 | step _ _ ih=>exact ih
theorem Wlk.det {σ:Nat→Option Ty} {n m:Nat} {s t t':Ty} (h:Wlk σ n s t) (h':Wlk σ m s t'):t=t'∧n=m:=by
 induction h generalizing m with
 | stop h=>
  cases h' with
  | stop _=>exact ⟨rfl,rfl⟩
  | step h1 _=>rw [h _ rfl] at h1; cases h1
 | step h1 _ ih=>
  cases h' with
  | stop h2=>rw [h2 _ rfl] at h1; cases h1
  | step h2 h3=>rw [h1] at h2; cases h2; obtain ⟨e1,e2⟩:=ih h3; exact ⟨e1,by rw [e2]⟩
structure Rsv (V:Nat→Bool) (σ:Nat→Option Ty) (F:Nat→Ty):Prop where
 dom:∀ c t,σ c=some t→V c=true
 non:∀ c,σ c=none→F c=.k c
 som:∀ c t,σ c=some t→F c=sb V F t
 wlk:∀ c,∃ n t,Wlk σ n (.k c) t
def Sol (V:Nat→Bool) (σ:Nat→Option Ty) (θ:Nat→Ty):Prop:=∀ c t,σ c=some t→θ c=sb V θ t
def Inc (rk:Nat→Nat) (V:Nat→Bool) (σ:Nat→Option Ty):Prop:=∀ c d,σ c=some (.k d)→V d=true→rk c < rk d
theorem Rsv.nil:Rsv V (fun _=>none) .k:=⟨fun c t h=>(by cases h),fun _ _=>rfl,fun c t h=>(by cases h),fun c=>⟨0,_,.stop fun _ _=>rfl⟩⟩
theorem Sol.nil {θ:Nat→Ty}:Sol V (fun _=>none) θ:=fun c t h=>by cases h
variable {σ:Nat→Option Ty} {F:Nat→Ty}
theorem Rsv.walk (r:Rsv V σ F) (t:Ty):∃ n t',Wlk σ n t t':=by
 cases t with
 | k c=>exact r.wlk c
 | u c a=>exact ⟨0,_,.stop fun c h=>by cases h⟩
 | w c a b=>exact ⟨0,_,.stop fun c h=>by cases h⟩
theorem Rsv.var (r:Rsv V σ F) {c:Nat} (h:σ c=none):sb V F (.k c)=.k c:=by unfold sb; split; exact r.non c h; rfl
theorem Wlk.sbF (r:Rsv V σ F) {n:Nat} {s t:Ty} (h:Wlk σ n s t):sb V F s=sb V F t:=by
 induction h with
 | stop=>rfl
 | step h1 _ ih=>rw [← ih,sb,if_pos (r.dom _ _ h1),r.som _ _ h1]
theorem Wlk.sbS (r:Rsv V σ F) {θ:Nat→Ty} (hs:Sol V σ θ) {n:Nat} {s t:Ty} (h:Wlk σ n s t):sb V θ s=sb V θ t:=by
 induction h with
 | stop=>rfl
 | step h1 _ ih=>rw [← ih,sb,if_pos (r.dom _ _ h1),hs _ _ h1]
theorem Rsv.solF (r:Rsv V σ F):Sol V σ F:=fun c t h=>r.som c t h
theorem Yqh (r:Rsv V σ F) {θ:Nat→Ty} (hs:Sol V σ θ):∀ (N:Nat) (t:Ty),(sb V F t).size≤N→sb V θ (sb V F t)=sb V θ t:=by
 intro N
 induction N with
 | zero=>intro t h; have:=Zrq (sb V F t); omega
 | succ N ih=>
  intro t h
  obtain ⟨n,t',hw⟩:=r.walk t
  rw [hw.sbF r] at h ⊢
  rw [hw.sbS r hs]
  have hend:=hw.end_
  cases t' with
  | k c=>rw [r.var (hend c rfl)]
  | u c a=>simp only [sb,Ty.size] at h ⊢; rw [ih a (by omega)]
  | w c a b=>simp only [sb,Ty.size] at h ⊢; rw [ih a (by omega),ih b (by omega)]
theorem Rsv.gen (r:Rsv V σ F) {θ:Nat→Ty} (hs:Sol V σ θ) {c:Nat} (hv:V c=true):sb V θ (F c)=θ c:=by
 have:=Yqh r hs _ (.k c) (Nat.le_refl _)
 simpa [sb,hv] using this
def upd (σ:Nat→Option Ty) (x:Nat) (b:Ty):Nat→Option Ty:=fun c=>if c=x then some b else σ c
def sng (x:Nat) (B:Ty):Nat→Ty:=fun c=>if c=x then B else .k c
theorem Yme {x:Nat} {B t:Ty} (h:occ x t=false):sb V (sng x B) t=t:=by
 conv=>rhs; rw [← Yjm (V:=V) t]
 refine Zni fun c hv ho=>?_
 unfold sng
 rw [if_neg]
 rintro rfl; rw [h] at ho; cases ho
theorem Rsv.bind (r:Rsv V σ F) {x:Nat} {b:Ty} (hx:σ x=none) (hv:V x=true) (hb:∀ c,b=.k c→σ c=none∧c≠x) (ho:occ x (sb V F b)=false) :
  Rsv V (upd σ x b) (fun c=>sb V (sng x (sb V F b)) (F c))∧∀ θ,Sol V (upd σ x b) θ ↔ Sol V σ θ∧θ x=sb V θ b:=by
 refine ⟨⟨?_,?_,?_,?_⟩,?_⟩
 ·intro c t h
  unfold upd at h
  by_cases e:c=x
  ·rw [e]; exact hv
  ·rw [if_neg e] at h; exact r.dom c t h
 ·intro c h
  unfold upd at h
  by_cases e:c=x
  ·rw [if_pos e] at h; cases h
  ·rw [if_neg e] at h
   show sb V _ (F c)=_
   rw [r.non c h]
   exact Yme (by simp [occ,e])
 ·intro c t h
  show sb V _ (F c)=sb V (fun c=>sb V (sng x (sb V F b)) (F c)) t
  rw [← Zxc]
  unfold upd at h
  by_cases e:c=x
  ·rw [if_pos e] at h; cases h
   rw [Yme ho,e,r.non x hx]
   simp [sb,hv,sng]
  ·rw [if_neg e] at h
   rw [r.som c t h]
 ·intro c
  have key:∀ {n:Nat} {s t:Ty},Wlk σ n s t→∃ n t',Wlk (upd σ x b) n s t':=by
   intro n s t hw
   induction hw with
   | @stop t h=>
    by_cases e:t=.k x
    ·subst e
     refine ⟨1,b,.step (u:=b) (by simp [upd]) (.stop fun c hc=>?_)⟩
     obtain ⟨h1,h2⟩:=hb c hc
     simp [upd,h2,h1]
    ·refine ⟨0,_,.stop fun c hc=>?_⟩
     have:c≠x:=fun e'=>e (by rw [hc,e'])
     simp [upd,this,h c hc]
   | @step d n u t h1 _ ih=>
    obtain ⟨n',t',hw'⟩:=ih
    have:d≠x:=fun e=>by rw [e,hx] at h1; cases h1
    exact ⟨n' + 1,t',.step (by simp [upd,this,h1]) hw'⟩
  obtain ⟨n,t,hw⟩:=r.wlk c
  exact key hw
 ·intro θ
  constructor
  ·intro h
   refine ⟨fun c t hc=>h c t ?_,h x b (by simp [upd])⟩
   have:c≠x:=fun e=>by rw [e,hx] at hc; cases hc
   simp [upd,this,hc]
  ·rintro ⟨h1,h2⟩ c t hc
   unfold upd at hc
   by_cases e:c=x
   ·rw [if_pos e] at hc; cases hc; rw [e]; exact h2
   ·rw [if_neg e] at hc; exact h1 c t hc
theorem Inc.bind {rk:Nat→Nat} (h:Inc rk V σ) {x:Nat} {b:Ty} (hb:∀ d,b=.k d→V d=true→rk x < rk d):Inc rk V (upd σ x b):=by
 intro c d hc hd
 unfold upd at hc
 by_cases e:c=x
 ·rw [if_pos e] at hc; cases hc; rw [e]; exact hb d rfl hd
 ·rw [if_neg e] at hc; exact h c d hc hd
theorem Yjz (r:Rsv V σ F) {x:Nat} {b:Ty} (hx:σ x=none) (hv:V x=true) (hb:∀ c,b=.k c→σ c=none∧c≠x) (ho:occ x (sb V F b)=true) (θ:Nat→Ty):¬ (Sol V σ θ∧θ x=sb V θ b):=by
 rintro ⟨hs,he⟩
 have hne:sb V F b≠.k x:=by
  cases b with
  | k c=>
   obtain ⟨h1,h2⟩:=hb c rfl
   rw [r.var h1]; intro e; cases e; exact h2 rfl
  | u c a=>simp [sb]
  | w c a b=>simp [sb]
 have:=Ypf (θ:=θ) hv ho hne
 rw [Yqh r hs _ b (Nat.le_refl _),← he] at this
 omega
structure MGU (V:Nat→Bool) (rk:Nat→Nat) (S:(Nat→Ty)→Prop) (F:Nat→Ty):Prop where
 sol:S F
 gen:∀ θ,S θ→∀ c,V c=true→sb V θ (F c)=θ c
 inc:∀ c d,V c=true→V d=true→F c=.k d→c≠d→rk c < rk d
 out:∀ c,V c=false→F c=.k c
theorem Wlk.var {rk:Nat→Nat} (r:Rsv V σ F) (hi:Inc rk V σ) {n e:Nat} (he:V e=true):∀ {c:Nat},Wlk σ n (.k c) (.k e)→c=e ∨ rk c < rk e:=by
 induction n with
 | zero=>intro c h; cases h; exact .inl rfl
 | succ n ih=>
  intro c h
  cases h with
  | @step _ _ u _ h1 h2=>
   cases h2 with
   | stop _=>exact .inr (hi _ _ h1 he)
   | @step d n' u' _ h3 h4=>
    have:=hi c d h1 (r.dom _ _ h3)
    rcases ih (.step h3 h4) with e | e
    ·subst e; exact .inr this
    ·exact .inr (by omega)
theorem MGU.vars {rk:Nat→Nat} {S:(Nat→Ty)→Prop} {F G:Nat→Ty} (f:MGU V rk S F) (g:MGU V rk S G) {v:Nat} (hv:V v=true) (h:F v=.k v):G v=.k v:=by
 have h1:=g.gen F f.sol v hv
 rw [h] at h1
 cases hg:G v with
 | k w=>
  rw [hg] at h1
  by_cases hw:V w=true
  ·rw [sb,if_pos hw] at h1
   by_cases e:v=w
   ·rw [e]
   ·have a:=g.inc v w hv hw hg e
    have b:=f.inc w v hw hv h1 (fun e'=>e e'.symm)
    omega
  ·rw [sb,if_neg hw] at h1; cases h1; exact absurd hv hw
 | u w a=>rw [hg] at h1; simp [sb] at h1
 | w w a b=>rw [hg] at h1; simp [sb] at h1
theorem MGU.unique {rk:Nat→Nat} {S:(Nat→Ty)→Prop} {F G:Nat→Ty} (f:MGU V rk S F) (g:MGU V rk S G):F=G:=by
 funext v
 cases hv:V v with
 | false=>rw [f.out v hv,g.out v hv]
 | true=>
  have h1:=f.gen G g.sol v hv
  have h2:sb V F (F v)=F v:=f.gen F f.sol v hv
  have h3:sb V G (F v)=F v:=by
   conv=>rhs; rw [← Yjm (V:=V) (F v)]
   refine Zni fun c hc ho=>?_
   exact f.vars g hc (Yej h2 c hc ho)
  rw [← h3,h1]
end
end Go.Sim

set_option linter.unusedSimpArgs false
set_option linter.unusedVariables false
namespace Go.Sim

structure Gr where
 hd:Nat→Nat
 ps:Nat→List Nat
inductive Pth (lk:Nat→Option Nat):Nat→Nat→Nat→Prop
 | refl {n:Nat}:Pth lk 0 n n
 | step {n m e k:Nat}:lk n=some m→Pth lk k m e→Pth lk (k + 1) n e
def Zyx (lk lk':Nat→Option Nat):Prop:=∀ n m,lk n=some m→lk' n=some m
section
variable {lk lk':Nat→Option Nat}
theorem Zyx.refl (lk:Nat→Option Nat):Zyx lk lk:=fun _ _ h=>h
theorem Zyx.trans {a b c:Nat→Option Nat} (h:Zyx a b) (k:Zyx b c):Zyx a c:=fun n m x=>k n m (h n m x)
theorem Zyx.none (x:Zyx lk lk') {n:Nat} (h:lk' n=none):lk n=none:=by
 cases hn:lk n with
 | none=>rfl
 | some m=>rw [x n m hn] at h; cases h
theorem Pth.trans {i j n m e:Nat} (h:Pth lk i n m) (h':Pth lk j m e):Pth lk (i + j) n e:=by
 induction h with
 | refl=>simpa using h'
 | @step n m' e' k h1 _ ih=>have:=Pth.step h1 (ih h'); rw [show k + 1 + j=k + j + 1 by omega]; exact this
theorem Pth.ext (x:Zyx lk lk') {k n e:Nat} (h:Pth lk k n e):Pth lk' k n e:=by
 induction h with
 | refl=>exact .refl
 | step h1 _ ih=>exact .step (x _ _ h1) ih
theorem Pth.two {i j a x y:Nat} (h:Pth lk i a x) (h':Pth lk j a y):(∃ k,Pth lk k x y) ∨ ∃ k,Pth lk k y x:=by
 induction h generalizing j with
 | refl=>exact .inl ⟨_,h'⟩
 | step h1 h2 ih=>
  cases h' with
  | refl=>exact .inr ⟨_,.step h1 h2⟩
  | step h3 h4=>rw [h1] at h3; cases h3; exact ih h4
theorem Pth.at_end {k e x:Nat} (h:Pth lk k e x) (he:lk e=none):x=e:=by
 cases h with
 | refl=>rfl
 | step h1 _=>rw [he] at h1; cases h1
theorem Pth.to_end {i j a x e:Nat} (h:Pth lk i a x) (h':Pth lk j a e) (he:lk e=none):∃ k,Pth lk k x e:=by
 rcases h.two h' with h | ⟨k,h⟩
 ·exact h
 ·have:=h.at_end he; subst this; exact ⟨0,.refl⟩
theorem Pth.end_eq {i j a e e':Nat} (h:Pth lk i a e) (h':Pth lk j a e') (he:lk e=none) (he':lk e'=none):e=e':=by
 obtain ⟨k,hk⟩:=h.to_end h' he'
 exact (hk.at_end he).symm
def Jnd (lk:Nat→Option Nat) (a b:Nat):Prop:=∃ i j e,Pth lk i a e∧Pth lk j b e
theorem Jnd.refl (a:Nat):Jnd lk a a:=⟨0,0,a,.refl,.refl⟩
theorem Jnd.symm {a b:Nat}:Jnd lk a b→Jnd lk b a:=fun ⟨i,j,e,h1,h2⟩=>⟨j,i,e,h2,h1⟩
theorem Jnd.trans {a b c:Nat}:Jnd lk a b→Jnd lk b c→Jnd lk a c:=fun ⟨i,j,e,h1,h2⟩ ⟨i',j',e',h3,h4⟩=>by
 rcases h2.two h3 with ⟨k,h⟩ | ⟨k,h⟩
 ·exact ⟨_,_,e',h1.trans h,h4⟩
 ·exact ⟨_,_,e,h1,h4.trans h⟩
theorem Jnd.ext (x:Zyx lk lk') {a b:Nat}:Jnd lk a b→Jnd lk' a b:=fun ⟨i,j,e,h1,h2⟩=>⟨i,j,e,h1.ext x,h2.ext x⟩
theorem Jnd.of_path {k a e:Nat} (h:Pth lk k a e):Jnd lk a e:=⟨k,0,e,h,.refl⟩
theorem Jnd.end_ {a b k e:Nat} (h:Jnd lk a b) (hp:Pth lk k a e) (he:lk e=none):∃ j,Pth lk j b e:=by
 obtain ⟨i,j,m,h1,h2⟩:=h
 obtain ⟨q,hq⟩:=h1.to_end hp he
 exact ⟨_,h2.trans hq⟩
def lnk (lk:Nat→Option Nat) (a b:Nat):Nat→Option Nat:=fun n=>if n=a then some b else lk n
theorem Zya {a b:Nat} (ha:lk a=none):Zyx lk (lnk lk a b):=fun n m h=>by
 unfold lnk
 rw [if_neg]; exact h
 rintro rfl; rw [ha] at h; cases h
def ub (N:List Nat) (lk:Nat→Option Nat):Nat:=N.countP fun n=>(lk n).isNone
theorem Yje {N:List Nat} (x:Zyx lk lk'):ub N lk'≤ub N lk:=by
 unfold ub
 refine List.countP_mono_left fun n _ h=>?_
 simp only [Option.isNone_iff_eq_none] at h ⊢
 exact x.none h
theorem Ynz {N:List Nat} {a b:Nat} (hN:a∈N) (ha:lk a=none):ub N (lnk lk a b) < ub N lk:=by
 unfold ub
 induction N with
 | nil=>cases hN
 | cons n N ih=>
  have hm:N.countP (fun n=>(lnk lk a b n).isNone)≤N.countP fun n=>(lk n).isNone:=Yje (Zya ha)
  rw [List.countP_cons,List.countP_cons]
  by_cases e:n=a
  ·subst e
   simp only [lnk,if_true,Option.isNone_some,ha,Option.isNone_none,Bool.false_eq_true,if_false]
   unfold lnk at hm
   omega
  ·have:=ih ((List.mem_cons.1 hN).resolve_left fun h=>e h.symm)
   have h2:(lnk lk a b n).isNone=(lk n).isNone:=by simp [lnk,e]
   rw [h2]; omega
end
structure GOk (G:Gr) (N:List Nat) (lk:Nat→Option Nat):Prop where
 par:∀ n∈N,∀ p∈G.ps n,p∈N
 ar:∀ n∈N,arN (G.hd n)=((G.ps n).length:Int)
 lkN:∀ n m,n∈N→lk n=some m→m∈N
 end_ : ∀ n ∈ N, ∃ k e, Pth lk k n e ∧ lk e = none
section
variable {G:Gr} {N:List Nat} {lk lk':Nat→Option Nat}
theorem GOk.path (g:GOk G N lk) {k n e:Nat} (hn:n∈N) (h:Pth lk k n e):e∈N:=by
 induction h with
 | refl=>exact hn
 | step h1 _ ih=>exact ih (g.lkN _ _ hn h1)
theorem GOk.link (g:GOk G N lk) {a b:Nat} (hb:b∈N) (ha0:lk a=none) (hb0:lk b=none) (hne:a≠b):GOk G N (lnk lk a b):=by
 refine ⟨g.par,g.ar,fun n m hn h=>?_,fun n hn=>?_⟩
 ·unfold lnk at h
  by_cases e:n=a
  ·rw [if_pos e] at h; cases h; exact hb
  ·rw [if_neg e] at h; exact g.lkN n m hn h
 ·obtain ⟨k,e,hp,he⟩:=g.end_ n hn
  by_cases ea:e=a
  ·subst ea
   refine ⟨k + 1,b,(hp.ext (Zya ha0)).trans (.step (by simp [lnk]) .refl),?_⟩
   simp only [lnk]; rw [if_neg fun e=>hne e.symm]; exact hb0
  ·exact ⟨k,e,hp.ext (Zya ha0),by simp [lnk,ea,he]⟩
def Str (G:Gr) (N:List Nat) (val:Nat→Ty):Prop:=∀ n∈N,Zbc (G.hd n)=false→(val n).hd=G.hd n∧(val n).ps=(G.ps n).map val
def Rsp (N:List Nat) (lk:Nat→Option Nat) (val:Nat→Ty):Prop:=∀ n m,n∈N→lk n=some m→val n=val m
theorem Rsp.path (g:GOk G N lk) {val:Nat→Ty} (r:Rsp N lk val) {k n e:Nat} (hn:n∈N) (h:Pth lk k n e):val n=val e:=by
 induction h with
 | refl=>rfl
 | step h1 _ ih=>rw [r _ _ hn h1]; exact ih (g.lkN _ _ hn h1)
theorem Rsp.link {val:Nat→Ty} (r:Rsp N lk val) {a b:Nat} (h:val a=val b):Rsp N (lnk lk a b) val:=by
 intro n m hn hl
 unfold lnk at hl
 by_cases e:n=a
 ·rw [if_pos e] at hl; cases hl; rw [e]; exact h
 ·rw [if_neg e] at hl; exact r n m hn hl
def Yos (G:Gr) (lk:Nat→Option Nat) (n m:Nat):Prop:=
 (Zbc (G.hd n)=false→G.hd m=G.hd n∧∀ (i p q:Nat),(G.ps n)[i]?=some p→(G.ps m)[i]?=some q→Jnd lk p q)∧(Zbc (G.hd n)=true→Zbc (G.hd m)=true→G.hd n≤G.hd m)
theorem Yos.ext (x:Zyx lk lk') {n m:Nat} (h:Yos G lk n m):Yos G lk' n m:=⟨fun hv=>⟨(h.1 hv).1,fun i p q h1 h2=>((h.1 hv).2 i p q h1 h2).ext x⟩,h.2⟩
def Cls (G:Gr) (N:List Nat) (lk:Nat→Option Nat):Prop:=∀ n m,n∈N→lk n=some m→Yos G lk n m
theorem Zuz {c:Nat} (h:Zbc c=true):arN c=0:=by unfold arN Zfi; rw [h]; simp
theorem GOk.var_ps (g:GOk G N lk) {n:Nat} (hn:n∈N) (hv:Zbc (G.hd n)=true):G.ps n=[]:=by
 have:=g.ar n hn; rw [Zuz hv] at this; exact List.eq_nil_of_length_eq_zero (by omega)
theorem Yrq (c:Nat):arN c≤2:=by
 unfold arN; split <;> try split
 all_goals try split
 all_goals omega
theorem GOk.ps_le (g:GOk G N lk) {n:Nat} (hn:n∈N):(G.ps n).length≤2:=by have:=g.ar n hn; have:=Yrq (G.hd n); omega
inductive VT (G:Gr) (lk:Nat→Option Nat) (nu:Nat→Nat):Nat→Ty→Prop
 | var {n e k:Nat}:Pth lk k n e→lk e=none→Zbc (G.hd e)=true→VT G lk nu n (.k (nu e))
 | cst {n e k:Nat}:Pth lk k n e→lk e=none→Zbc (G.hd e)=false→G.ps e=[]→VT G lk nu n (.k (G.hd e))
 | one {n e k p:Nat} {s:Ty}:Pth lk k n e→lk e=none→Zbc (G.hd e)=false→G.ps e=[p]→VT G lk nu p s→VT G lk nu n (.u (G.hd e) s)
 | two {n e k p q:Nat} {s t:Ty}:Pth lk k n e→lk e=none→Zbc (G.hd e)=false→G.ps e=[p,q]→VT G lk nu p s→VT G lk nu q t→VT G lk nu n (.w (G.hd e) s t)
variable {nu:Nat→Nat}
theorem VT.of_path {k n m:Nat} {t:Ty} (h:Pth lk k n m) (v:VT G lk nu m t):VT G lk nu n t:=by
 cases v with
 | var h1 h2 h3=>exact .var (h.trans h1) h2 h3
 | cst h1 h2 h3 h4=>exact .cst (h.trans h1) h2 h3 h4
 | one h1 h2 h3 h4 h5=>exact .one (h.trans h1) h2 h3 h4 h5
 | two h1 h2 h3 h4 h5 h6=>exact .two (h.trans h1) h2 h3 h4 h5 h6
theorem VT.to {k n m:Nat} {t:Ty} (h:Pth lk k n m) (v:VT G lk nu n t):VT G lk nu m t:=by
 cases v with
 | var h1 h2 h3=>obtain ⟨_,h⟩:=h.to_end h1 h2; exact .var h h2 h3
 | cst h1 h2 h3 h4=>obtain ⟨_,h⟩:=h.to_end h1 h2; exact .cst h h2 h3 h4
 | one h1 h2 h3 h4 h5=>obtain ⟨_,h⟩:=h.to_end h1 h2; exact .one h h2 h3 h4 h5
 | two h1 h2 h3 h4 h5 h6=>obtain ⟨_,h⟩:=h.to_end h1 h2; exact .two h h2 h3 h4 h5 h6
theorem VT.jnd {a b:Nat} {t:Ty} (h:Jnd lk a b) (v:VT G lk nu a t):VT G lk nu b t:=by
 obtain ⟨i,j,e,h1,h2⟩:=h
 exact (v.to h1).of_path h2
theorem VT.det {n:Nat} {t t':Ty} (v:VT G lk nu n t) (v':VT G lk nu n t'):t=t':=by
 induction v generalizing t' with
 | var h1 h2 h3=>
  cases v' with
  | var k1 k2 k3=>rw [h1.end_eq k1 h2 k2]
  | cst k1 k2 k3 k4=>have:=h1.end_eq k1 h2 k2; subst this; rw [h3] at k3; cases k3
  | one k1 k2 k3 k4=>have:=h1.end_eq k1 h2 k2; subst this; rw [h3] at k3; cases k3
  | two k1 k2 k3 k4=>have:=h1.end_eq k1 h2 k2; subst this; rw [h3] at k3; cases k3
 | cst h1 h2 h3 h4=>
  cases v' with
  | var k1 k2 k3=>have:=h1.end_eq k1 h2 k2; subst this; rw [h3] at k3; cases k3
  | cst k1 k2 k3 k4=>rw [h1.end_eq k1 h2 k2]
  | one k1 k2 k3 k4=>have:=h1.end_eq k1 h2 k2; subst this; rw [h4] at k4; cases k4
  | two k1 k2 k3 k4=>have:=h1.end_eq k1 h2 k2; subst this; rw [h4] at k4; cases k4
 | one h1 h2 h3 h4 h5 ih=>
  cases v' with
  | var k1 k2 k3=>have:=h1.end_eq k1 h2 k2; subst this; rw [h3] at k3; cases k3
  | cst k1 k2 k3 k4=>have:=h1.end_eq k1 h2 k2; subst this; rw [h4] at k4; cases k4
  | one k1 k2 k3 k4 k5=>have:=h1.end_eq k1 h2 k2; subst this; rw [h4] at k4; cases k4; rw [ih k5]
  | two k1 k2 k3 k4=>have:=h1.end_eq k1 h2 k2; subst this; rw [h4] at k4; cases k4
 | two h1 h2 h3 h4 h5 h6 ih1 ih2=>
  cases v' with
  | var k1 k2 k3=>have:=h1.end_eq k1 h2 k2; subst this; rw [h3] at k3; cases k3
  | cst k1 k2 k3 k4=>have:=h1.end_eq k1 h2 k2; subst this; rw [h4] at k4; cases k4
  | one k1 k2 k3 k4 k5=>have:=h1.end_eq k1 h2 k2; subst this; rw [h4] at k4; cases k4
  | two k1 k2 k3 k4 k5 k6=>have:=h1.end_eq k1 h2 k2; subst this; rw [h4] at k4; cases k4; rw [ih1 k5,ih2 k6]
theorem VT.make (g:GOk G N lk) {e:Nat} (hN:e∈N) (he:lk e=none) (h:∀ p∈G.ps e,∃ t,VT G lk nu p t):∃ t,VT G lk nu e t:=by
 cases hv:Zbc (G.hd e) with
 | true=>exact ⟨_,.var .refl he hv⟩
 | false=>
  have hl:=g.ps_le hN
  match hp:G.ps e,hl with
  | [],_=>exact ⟨_,.cst .refl he hv hp⟩
  | [p],_=>
   obtain ⟨s,hs⟩:=h p (by rw [hp]; simp)
   exact ⟨_,.one .refl he hv hp hs⟩
  | [p,q],_=>
   obtain ⟨s,hs⟩:=h p (by rw [hp]; simp)
   obtain ⟨t,ht⟩:=h q (by rw [hp]; simp)
   exact ⟨_,.two .refl he hv hp hs ht⟩
  | _ :: _ :: _ :: _,hl=>simp at hl
theorem VT.parts (g:GOk G N lk) (c:Cls G N lk) {n k e:Nat} (hp:Pth lk k n e) (he:lk e=none) (hn:n∈N) (hv:Zbc (G.hd n)=false) {t:Ty} (v:VT G lk nu n t) :
  t.hd=G.hd n∧t.ps.length=(G.ps n).length∧∀ (i p:Nat) (s:Ty),(G.ps n)[i]?=some p→t.ps[i]?=some s→VT G lk nu p s:=by
 induction hp with
 | @refl n=>
  cases v with
  | var k1 k2 k3=>have:=k1.at_end he; subst this; rw [hv] at k3; cases k3
  | cst k1 k2 k3 k4=>have:=k1.at_end he; subst this; exact ⟨rfl,by rw [k4]; rfl,fun i p s h _=>by rw [k4] at h; simp at h⟩
  | one k1 k2 k3 k4 k5=>
   have:=k1.at_end he; subst this
   refine ⟨rfl,by rw [k4]; rfl,fun i p s h h'=>?_⟩
   rw [k4] at h
   match i with
   | 0=>simp [Ty.ps] at h h'; subst h; subst h'; exact k5
   | i + 1=>simp at h
  | two k1 k2 k3 k4 k5 k6=>
   have:=k1.at_end he; subst this
   refine ⟨rfl,by rw [k4]; rfl,fun i p s h h'=>?_⟩
   rw [k4] at h
   match i with
   | 0=>simp [Ty.ps] at h h'; subst h; subst h'; exact k5
   | 1=>simp [Ty.ps] at h h'; subst h; subst h'; exact k6
   | i + 2=>simp at h
 | @step n m e k h1 h2 ih=>
  obtain ⟨h3,h4⟩:=(c n m hn h1).1 hv
  have hm:=g.lkN _ _ hn h1
  obtain ⟨i1,i2,i3⟩:=ih he hm (by rw [h3]; exact hv) (v.to (.step h1 .refl))
  have hl:(G.ps m).length=(G.ps n).length:=by have a:=g.ar n hn; have b:=g.ar m hm; rw [h3] at b; omega
  refine ⟨i1.trans h3,i2.trans hl,fun i p s h h'=>?_⟩
  have hi:i < (G.ps m).length:=by have:=(List.getElem?_eq_some_iff.1 h).1; omega
  have hq:=List.getElem?_eq_getElem hi
  exact (i3 i _ s hq h').jnd (h4 i p _ h hq).symm
inductive Raw (G:Gr) (nu:Nat→Nat):Nat→Ty→Prop
 | var {n:Nat}:Zbc (G.hd n)=true→Raw G nu n (.k (nu n))
 | cst {n:Nat}:Zbc (G.hd n)=false→G.ps n=[]→Raw G nu n (.k (G.hd n))
 | one {n p:Nat} {s:Ty}:Zbc (G.hd n)=false→G.ps n=[p]→Raw G nu p s→Raw G nu n (.u (G.hd n) s)
 | two {n p q:Nat} {s t:Ty}:Zbc (G.hd n)=false→G.ps n=[p,q]→Raw G nu p s→Raw G nu q t→Raw G nu n (.w (G.hd n) s t)
theorem Raw.det {n:Nat} {t t':Ty} (r:Raw G nu n t) (r':Raw G nu n t'):t=t':=by
 induction r generalizing t' with
 | var h=>cases r' with
  | var k=>rfl
  | cst k _=>rw [h] at k; cases k
  | one k _ _=>rw [h] at k; cases k
  | two k _ _ _=>rw [h] at k; cases k
 | cst h h1=>cases r' with
  | var k=>rw [h] at k; cases k
  | cst k _=>rfl
  | one k k1 _=>rw [h1] at k1; cases k1
  | two k k1 _ _=>rw [h1] at k1; cases k1
 | one h h1 _ ih=>cases r' with
  | var k=>rw [h] at k; cases k
  | cst k k1=>rw [h1] at k1; cases k1
  | one k k1 k2=>rw [h1] at k1; cases k1; rw [ih k2]
  | two k k1 _ _=>rw [h1] at k1; cases k1
 | two h h1 _ _ ih1 ih2=>cases r' with
  | var k=>rw [h] at k; cases k
  | cst k k1=>rw [h1] at k1; cases k1
  | one k k1 k2=>rw [h1] at k1; cases k1
  | two k k1 k2 k3=>rw [h1] at k1; cases k1; rw [ih1 k2,ih2 k3]
inductive Sub (G:Gr):Nat→Nat→Prop
 | refl {n:Nat}:Sub G n n
 | part {n p x:Nat}:p∈G.ps n→Sub G p x→Sub G n x
theorem VT.sub (g:GOk G N lk) (c:Cls G N lk) {n x:Nat} (h:Sub G n x):n∈N→∀ {t:Ty},VT G lk nu n t→∃ s,VT G lk nu x s:=by
 induction h with
 | refl=>exact fun _ t v=>⟨t,v⟩
 | @part n p x hp _ ih=>
  intro hn t v
  have hv:Zbc (G.hd n)=false:=by
   cases hv:Zbc (G.hd n) with
   | false=>rfl
   | true=>rw [g.var_ps hn hv] at hp; cases hp
  obtain ⟨k,e,h1,h2⟩:=g.end_ n hn
  obtain ⟨_,h4,h5⟩:=VT.parts g c h1 h2 hn hv v
  obtain ⟨i,hi⟩:=List.getElem?_of_mem hp
  have hl:=(List.getElem?_eq_some_iff.1 hi).1
  exact ih (g.par n hn p hp) (h5 i p _ hi (List.getElem?_eq_getElem (by omega)))
structure Yop (G:Gr) (N:List Nat) (nu:Nat→Nat) (V:Nat→Bool):Prop where
 var:∀ n∈N,Zbc (G.hd n)=true→V (nu n)=true
 cst:∀ n∈N,Zbc (G.hd n)=false→V (G.hd n)=false
 inj:∀ n∈N,∀ m∈N,Zbc (G.hd n)=true→Zbc (G.hd m)=true→nu n=nu m→n=m
variable {V:Nat→Bool}
theorem Yqn {t:Ty} (h:t.ps.length=0):t=.k t.hd:=by cases t <;> simp [Ty.ps,Ty.hd] at *
theorem Yse {t:Ty} (h:t.ps.length=1):∃ s,t.ps=[s]∧t=.u t.hd s:=by cases t <;> simp [Ty.ps,Ty.hd] at *
theorem Yrx {t:Ty} (h:t.ps.length=2):∃ s s',t.ps=[s,s']∧t=.w t.hd s s':=by cases t <;> simp [Ty.ps,Ty.hd] at *
theorem Raw.vt (g:GOk G N lk) (c:Cls G N lk) (nv:Yop G N nu V) {F:Nat→Ty} (hF:∀ x∈N,Zbc (G.hd x)=true→∀ s,VT G lk nu x s→F (nu x)=s) {n:Nat} {t:Ty} (r:Raw G nu n t) :
  n∈N→∀ {s:Ty},VT G lk nu n s→s=sb V F t:=by
 induction r with
 | @var n h=>
  intro hn s v
  rw [sb,if_pos (nv.var n hn h),hF n hn h s v]
 | @cst n h h1=>
  intro hn s v
  obtain ⟨k,e,p1,p2⟩:=g.end_ n hn
  obtain ⟨a1,a2,_⟩:=VT.parts g c p1 p2 hn h v
  rw [h1] at a2
  rw [sb,if_neg (by rw [nv.cst n hn h]; simp),Yqn a2,a1]
 | @one n p s0 h h1 _ ih=>
  intro hn s v
  obtain ⟨k,e,p1,p2⟩:=g.end_ n hn
  obtain ⟨a1,a2,a3⟩:=VT.parts g c p1 p2 hn h v
  rw [h1] at a2 a3
  obtain ⟨s1,e1,e2⟩:=Yse a2
  have:=ih (g.par n hn p (by rw [h1]; simp)) (a3 0 p s1 rfl (by rw [e1]; rfl))
  rw [e2,a1,sb,this]
 | @two n p q s0 t0 h h1 _ _ ih1 ih2=>
  intro hn s v
  obtain ⟨k,e,p1,p2⟩:=g.end_ n hn
  obtain ⟨a1,a2,a3⟩:=VT.parts g c p1 p2 hn h v
  rw [h1] at a2 a3
  obtain ⟨s1,s2,e1,e2⟩:=Yrx a2
  have i1:=ih1 (g.par n hn p (by rw [h1]; simp)) (a3 0 p s1 rfl (by rw [e1]; rfl))
  have i2:=ih2 (g.par n hn q (by rw [h1]; simp)) (a3 1 q s2 rfl (by rw [e1]; rfl))
  rw [e2,a1,sb,i1,i2]
theorem VT.val (g:GOk G N lk) (nv:Yop G N nu V) {val θ:Nat→Ty} (hs:Str G N val) (hr:Rsp N lk val) (hv:∀ x∈N,Zbc (G.hd x)=true→val x=θ (nu x)) {n:Nat} {t:Ty} (v:VT G lk nu n t):n∈N→val n=sb V θ t:=by
 induction v with
 | @var n e k h1 h2 h3=>
  intro hn
  have he:=g.path hn h1
  rw [hr.path g hn h1,hv e he h3,sb,if_pos (nv.var e he h3)]
 | @cst n e k h1 h2 h3 h4=>
  intro hn
  have he:=g.path hn h1
  obtain ⟨a1,a2⟩:=hs e he h3
  rw [h4] at a2
  rw [hr.path g hn h1,sb,if_neg (by rw [nv.cst e he h3]; simp),Yqn (t:=val e) (by rw [a2]; rfl),a1]
 | @one n e k p s h1 h2 h3 h4 _ ih=>
  intro hn
  have he:=g.path hn h1
  obtain ⟨a1,a2⟩:=hs e he h3
  rw [h4] at a2
  obtain ⟨s1,e1,e2⟩:=Yse (t:=val e) (by rw [a2]; rfl)
  rw [a2] at e1
  simp at e1
  rw [hr.path g hn h1,e2,a1,sb,← ih (g.par e he p (by rw [h4]; simp)),e1]
 | @two n e k p q s t h1 h2 h3 h4 _ _ ih1 ih2=>
  intro hn
  have he:=g.path hn h1
  obtain ⟨a1,a2⟩:=hs e he h3
  rw [h4] at a2
  obtain ⟨s1,s2,e1,e2⟩:=Yrx (t:=val e) (by rw [a2]; rfl)
  rw [a2] at e1
  simp at e1
  rw [hr.path g hn h1,e2,a1,sb,← ih1 (g.par e he p (by rw [h4]; simp)),← ih2 (g.par e he q (by rw [h4]; simp)),e1.1,e1.2]
open Classical in
noncomputable def Yis (G:Gr) (nu:Nat→Nat) (V:Nat→Bool) (θ:Nat→Ty) (n:Nat):Ty:=if h:∃ t,Raw G nu n t then sb V θ h.choose else .k 0
theorem Zjl {θ:Nat→Ty} {n:Nat} {t:Ty} (r:Raw G nu n t):Yis G nu V θ n=sb V θ t:=by
 have h:∃ t,Raw G nu n t:=⟨t,r⟩
 unfold Yis
 rw [dif_pos h,h.choose_spec.det r]
theorem Zww (nv:Yop G N nu V) (hr:∀ n∈N,∃ t,Raw G nu n t) (θ:Nat→Ty):Str G N (Yis G nu V θ):=by
 intro n hn hv
 obtain ⟨t,r⟩:=hr n hn
 rw [Zjl r]
 cases r with
 | var h=>rw [hv] at h; cases h
 | cst h h1=>rw [sb,if_neg (by rw [nv.cst n hn h]; simp),h1]; exact ⟨rfl,rfl⟩
 | one h h1 h2=>rw [h1]; exact ⟨rfl,by simp [sb,Ty.ps,Zjl h2]⟩
 | two h h1 h2 h3=>rw [h1]; exact ⟨rfl,by simp [sb,Ty.ps,Zjl h2,Zjl h3]⟩
open Classical in
noncomputable def grF (G:Gr) (N:List Nat) (lk:Nat→Option Nat) (nu:Nat→Nat) (c:Nat):Ty:=
 if h:∃ s,∃ x∈N,Zbc (G.hd x)=true∧nu x=c∧VT G lk nu x s then h.choose else .k c
theorem Yib (nv:Yop G N nu V) {x:Nat} (hx:x∈N) (hv:Zbc (G.hd x)=true) {s:Ty} (v:VT G lk nu x s):grF G N lk nu (nu x)=s:=by
 have h:∃ s,∃ y∈N,Zbc (G.hd y)=true∧nu y=nu x∧VT G lk nu y s:=⟨s,x,hx,hv,rfl,v⟩
 unfold grF
 rw [dif_pos h]
 obtain ⟨y,hy,hyv,he,v'⟩:=h.choose_spec
 have:=nv.inj y hy x hx hyv hv he
 subst this
 exact v'.det v
theorem Ymx (g:GOk G N lk) (c:Cls G N lk) (nv:Yop G N nu V) {a b:Nat} (ha:a∈N) (hb:b∈N) (hj:Jnd lk a b) {ta tb T:Ty} (ra:Raw G nu a ta) (rb:Raw G nu b tb) (v:VT G lk nu a T) :
  sb V (grF G N lk nu) ta=T∧sb V (grF G N lk nu) tb=T:=
 ⟨(ra.vt g c nv (fun x hx h s hs=>Yib nv hx h hs) ha v).symm,(rb.vt g c nv (fun x hx h s hs=>Yib nv hx h hs) hb (v.jnd hj)).symm⟩
theorem Yqf (g:GOk G N lk) {val:Nat→Ty} (hs:Str G N val) (hr:Rsp N lk val) {e p e' k:Nat} (he:e∈N) (hp:p∈G.ps e) (h:Pth lk k p e'):(val e').size < (val e).size:=by
 have hv:Zbc (G.hd e)=false:=by
  cases hv:Zbc (G.hd e) with
  | false=>rfl
  | true=>rw [g.var_ps he hv] at hp; cases hp
 obtain ⟨_,a2⟩:=hs e he hv
 rw [← hr.path g (g.par e he p hp) h]
 have hm:val p∈(val e).ps:=by rw [a2]; exact List.mem_map_of_mem hp
 generalize val p=s at hm
 generalize val e=t at hm
 cases t with
 | k c=>simp [Ty.ps] at hm
 | u c a=>simp [Ty.ps] at hm; subst hm; simp [Ty.size]
 | w c a b=>simp [Ty.ps] at hm; rcases hm with rfl | rfl <;> simp [Ty.size] <;> omega
end
end Go.Sim

set_option linter.unusedSimpArgs false
set_option linter.unusedVariables false
namespace Go.Sim

def Yku:Ty→List Nat
 | .k c=>if Zbc c then [c] else []
 | .u c a=>Yku a
 | .w c a b=>Yku a ++ Yku b
structure Ysm (m m':Bd) (a t:Ty):Prop where
 keep:∀ v u,Zkb m v=some u→Zkb m' v=some u
 sub:subst (Zkb m') a=t
 vars:∀ v,(Zkb m' v).isSome=true ↔ ((Zkb m v).isSome=true ∨ v∈Yku a)
end Go.Sim

set_option linter.unusedSimpArgs false
set_option linter.unusedVariables false
namespace Go.Sim

structure Ysk (f:Nat→Option Ty):Prop where
 nv:∀ v,Zbc v=false→f v=none
 ok:∀ v t,f v=some t→t.ok=true
noncomputable def after (f g:Nat→Option Ty) (v:Nat):Option Ty:=if Zbc v then some (subst g ((f v).getD (.k v))) else none
noncomputable def Zqe (a b:Ins):Bool:=decide (a.1.1=b.1.1) && Zvp b.1.2 a.1.2
end Go.Sim

set_option linter.unusedSimpArgs false
set_option linter.unusedVariables false
namespace Go.Sim

end Go.Sim

set_option linter.unusedSimpArgs false
set_option linter.unusedVariables false
namespace Go.Sim
end Go.Sim

set_option linter.unusedSimpArgs false
set_option linter.unusedVariables false
namespace Go.Sim

def Yrj (a b:Ty) (F:Nat→Ty):Prop:=MGU Zbc (fun c=>c) (fun θ=>sb Zbc θ a=sb Zbc θ b) F∧∀ v,Zbc v=true→(F v).ok=true
theorem Yrj.symm {a b:Ty} {F:Nat→Ty} (h:Yrj a b F):Yrj b a F:=⟨⟨h.1.sol.symm,fun θ hs=>h.1.gen θ hs.symm,h.1.inc,h.1.out⟩,h.2⟩
open Classical in
noncomputable def Zmh (s t:List Nat):Bool:=match Zhv s,Zhv t with | some a,some b=>decide (¬ ∃ f g:Nat→Ty,sb Zbc f a=sb Zbc g b) | _,_=>false
theorem Ztl {s t:List Nat} (h:(Znz s && Znz t)=false):Zmh s t=false:=by
 unfold Zmh
 split
 ·rename_i a b ha hb; rw [Zsb ha,Zsb hb] at h; cases h
 ·rfl
end Go.Sim

set_option linter.unusedSimpArgs false
set_option linter.unusedVariables false
namespace Go.Sim
def Yfu (c:Nat):Nat:=if c < 100 then c - 88 + 49 else c - 120 + 52
def Yot (d:Nat):Nat:=if d < 52 then d - 49 + 88 else d - 52 + 120
def Zta (c:Nat):Bool:=decide (49≤c∧c≤54)
def V12 (c:Nat):Bool:=Zbc c || Zta c
theorem Zkn (c:Nat):Zbc c=true ↔ (88≤c∧c≤90) ∨ (120≤c∧c≤122):=by simp [Zbc]; omega
theorem Znn {c:Nat} (h:Zbc c=true):Yot (Yfu c)=c∧Zta (Yfu c)=true∧Zbc (Yfu c)=false:=by
 rw [Zkn] at h
 unfold Yfu
 split
 ·refine ⟨by unfold Yot; split <;> omega,by unfold Zta; simp; omega,?_⟩
  cases hv:Zbc (c - 88 + 49) with
  | false=>rfl
  | true=>rw [Zkn] at hv; omega
 ·refine ⟨by unfold Yot; split <;> omega,by unfold Zta; simp; omega,?_⟩
  cases hv:Zbc (c - 120 + 52) with
  | false=>rfl
  | true=>rw [Zkn] at hv; omega
theorem Yns {c d:Nat} (hc:Zbc c=true) (hd:Zbc d=true) (h:Yfu c=Yfu d):c=d:=by rw [← (Znn hc).1,← (Znn hd).1,h]
theorem Yac {c:Nat} (h:Zfi c=true):Zta c=false:=by
 unfold Zfi at h
 simp only [Bool.or_eq_true,beq_iff_eq,Zkn] at h
 unfold Zta
 simp; omega
def Zqh:Ty→Ty
 | .k c=>.k (if Zbc c then Yfu c else c)
 | .u c a=>.u c (Zqh a)
 | .w c a b=>.w c (Zqh a) (Zqh b)
theorem Zzd (θ:Nat→Ty):∀ {a:Ty},a.ok=true→sb V12 θ a=sb Zbc θ a
 | .k c,h=>by
  simp only [Ty.ok] at h
  simp only [sb,V12,Yac h,Bool.or_false]
 | .u c a,h=>by simp only [Ty.ok,Bool.and_eq_true] at h; simp only [sb,Zzd θ h.2]
 | .w c a b,h=>by simp only [Ty.ok,Bool.and_eq_true] at h; simp only [sb,Zzd θ h.1.2,Zzd θ h.2]
theorem Yav (θ:Nat→Ty):∀ {a:Ty},a.ok=true→sb V12 θ (Zqh a)=sb Zbc (fun c=>θ (Yfu c)) a
 | .k c,h=>by
  simp only [Ty.ok] at h
  simp only [Zqh,sb]
  by_cases hv:Zbc c=true
  ·rw [if_pos hv,if_pos hv,if_pos (by simp [V12,(Znn hv).2.1])]
  ·rw [if_neg hv,if_neg hv,if_neg (by simp [V12,Yac h]; simpa using hv)]
 | .u c a,h=>by simp only [Ty.ok,Bool.and_eq_true] at h; simp only [Zqh,sb,Yav θ h.2]
 | .w c a b,h=>by simp only [Ty.ok,Bool.and_eq_true] at h; simp only [Zqh,sb,Yav θ h.1.2,Yav θ h.2]
theorem Ydj {a b:Ty} (ha:a.ok=true) (hb:b.ok=true):(∃ θ:Nat→Ty,sb V12 θ a=sb V12 θ (Zqh b)) ↔ ∃ f g:Nat→Ty,sb Zbc f a=sb Zbc g b:=by
 constructor
 ·rintro ⟨θ,h⟩
  rw [Zzd θ ha,Yav θ hb] at h
  exact ⟨_,_,h⟩
 ·rintro ⟨f,g,h⟩
  refine ⟨fun c=>if Zbc c=true then f c else g (Yot c),?_⟩
  rw [Zzd _ ha,Yav _ hb]
  have e1:sb Zbc (fun c=>if Zbc c=true then f c else g (Yot c)) a=sb Zbc f a:=Zni fun c hv _=>by simp [hv]
  have e2:sb Zbc (fun c=>(fun c=>if Zbc c=true then f c else g (Yot c)) (Yfu c)) b=sb Zbc g b:=Zni fun c hv _=>by simp [(Znn hv).2.2,(Znn hv).1]
  rw [e1,e2,h]
end Go.Sim

set_option linter.unusedSimpArgs false
set_option linter.unusedVariables false
namespace Go.Sim
def okL (lf:Nat→Bool):Ty→Bool
 | .k c=>lf c
 | .u c a=>(c == 108 || c == 109) && okL lf a
 | .w c a b=>c == 112 && okL lf a && okL lf b
theorem Yef:∀ {t:Ty},okL Zfi t=t.ok
 | .k c=>rfl
 | .u c a=>by simp only [okL,Ty.ok,Yef (t:=a)]
 | .w c a b=>by simp only [okL,Ty.ok,Yef (t:=a),Yef (t:=b)]
def Zro (c:Nat):Bool:=Zfi c || Zta c
theorem Zth {lf lf':Nat→Bool} (h:∀ c,lf c=true→lf' c=true):∀ {t:Ty},okL lf t=true→okL lf' t=true
 | .k c,ht=>h c ht
 | .u c a,ht=>by simp only [okL,Bool.and_eq_true] at ht ⊢; exact ⟨ht.1,Zth h ht.2⟩
 | .w c a b,ht=>by simp only [okL,Bool.and_eq_true] at ht ⊢; exact ⟨⟨ht.1.1,Zth h ht.1.2⟩,Zth h ht.2⟩
theorem Zxh:∀ {t:Ty},t.ok=true→okL Zro (Zqh t)=true
 | .k c,ht=>by
  simp only [Ty.ok] at ht
  simp only [Zqh,okL,Zro]
  by_cases hv:Zbc c=true
  ·rw [if_pos hv,(Znn hv).2.1,Bool.or_true]
  ·rw [if_neg hv,ht,Bool.true_or]
 | .u c a,ht=>by simp only [Ty.ok,Bool.and_eq_true] at ht; simp only [Zqh,okL,Bool.and_eq_true]; exact ⟨ht.1,Zxh ht.2⟩
 | .w c a b,ht=>by simp only [Ty.ok,Bool.and_eq_true] at ht; simp only [Zqh,okL,Bool.and_eq_true]; exact ⟨⟨ht.1.1,Zxh ht.1.2⟩,Zxh ht.2⟩
section
variable {V lf:Nat→Bool}
theorem Yiy {t:Ty} (h:okL lf t=true):∀ p∈t.ps,okL lf p=true:=by
 cases t with
 | k c=>simp [Ty.ps]
 | u c a=>simp only [okL,Bool.and_eq_true] at h; intro p hp; simp [Ty.ps] at hp; subst hp; exact h.2
 | w c a b=>simp only [okL,Bool.and_eq_true] at h; intro p hp; simp [Ty.ps] at hp; rcases hp with rfl | rfl; exact h.1.2; exact h.2
def unb (L:List Nat) (σ:Nat→Option Ty):Nat:=L.countP fun v=>(σ v).isNone
theorem Ync {L:List Nat} {σ:Nat→Option Ty} {x:Nat} {b:Ty} (hx:σ x=none) (hL:x∈L):unb L (upd σ x b) < unb L σ:=by
 unfold unb
 induction L with
 | nil=>cases hL
 | cons n N ih=>
  have hm:N.countP (fun v=>(upd σ x b v).isNone)≤N.countP fun v=>(σ v).isNone:=List.countP_mono_left fun v _ h=>by
   unfold upd at h
   split at h
   ·cases h
   ·exact h
  rw [List.countP_cons,List.countP_cons]
  by_cases e:n=x
  ·subst e
   have:(upd σ n b n).isNone=false:=by simp [upd]
   rw [this,hx]; simp; omega
  ·have:=ih ((List.mem_cons.1 hL).resolve_left fun h=>e h.symm)
   have h2:(upd σ x b n).isNone=(σ n).isNone:=by simp [upd,e]
   rw [h2]; omega
theorem Wlk.end_in {σ:Nat→Option Ty} {n:Nat} {s t:Ty} (h:Wlk σ n s t):t=s ∨ ∃ c,σ c=some t:=by
 induction h with
 | stop=>exact .inl rfl
 | @step c n u t h1 _ ih=>
  rcases ih with h | h
  ·exact .inr ⟨c,by rw [h]; exact h1⟩
  ·exact .inr h
end
end Go.Sim

set_option linter.unusedSimpArgs false
set_option linter.unusedVariables false
namespace Go.Sim
section
variable {V lf:Nat→Bool} {σ:Nat→Option Ty} {F:Nat→Ty}
theorem Rsv.free (r:Rsv V σ F) {c:Nat} (hc:V c=true):F c=.k c ↔ σ c=none:=by
 constructor
 ·intro h
  obtain ⟨n,t,hw⟩:=r.wlk c
  have hF:F c=sb V F t:=by have:=hw.sbF r; rw [sb,if_pos hc] at this; exact this
  cases t with
  | k x=>
   have hx:=hw.end_ x rfl
   rw [hF,r.var hx] at h
   cases h; exact hx
  | u x a=>rw [hF] at h; simp [sb] at h
  | w x a b=>rw [hF] at h; simp [sb] at h
 ·exact r.non c
theorem Rsv.walked (r:Rsv V σ F) (P:Ty→Prop) (hσ:∀ c t,σ c=some t→P t) {t:Ty} (ht:P t):∃ n t',Wlk σ n t t'∧P t'∧sb V F t=sb V F t':=by
 obtain ⟨n,t',hw⟩:=r.walk t
 refine ⟨n,t',hw,?_,hw.sbF r⟩
 rcases hw.end_in with h | ⟨d,h⟩
 ·rw [h]; exact ht
 ·exact hσ d t' h
theorem Yni {θ:Nat→Ty} {t:Ty} (h:t.ps≠[] ∨ V t.hd=false):(sb V θ t).hd=t.hd∧(sb V θ t).ps=t.ps.map (sb V θ):=by
 cases t with
 | k c=>
  have:V c=false:=h.resolve_left (by simp [Ty.ps])
  simp [sb,this,Ty.hd,Ty.ps]
 | u c a=>simp [sb,Ty.hd,Ty.ps]
 | w c a b=>simp [sb,Ty.hd,Ty.ps]
theorem Yld {θ:Nat→Ty} {a b:Ty} (ha:a.ps≠[] ∨ V a.hd=false) (hb:b.ps≠[] ∨ V b.hd=false) (hh:a.hd=b.hd) (hl:a.ps.length=b.ps.length) :
  sb V θ a=sb V θ b ↔ ∀ (i:Nat) (p q:Ty),a.ps[i]?=some p→b.ps[i]?=some q→sb V θ p=sb V θ q:=by
 cases a with
 | k c=>
  have hb0:b.ps=[]:=List.eq_nil_of_length_eq_zero (by rw [← hl]; rfl)
  have hb1:b=.k c:=by cases b with
   | k d=>simp [Ty.hd] at hh; rw [hh]
   | u d x=>simp [Ty.ps] at hb0
   | w d x y=>simp [Ty.ps] at hb0
  subst hb1
  exact ⟨fun _ i p q h=>by simp [Ty.ps] at h,fun _=>rfl⟩
 | u c x=>
  cases b with
  | k d=>simp [Ty.ps] at hl
  | u d y=>
   simp [Ty.hd] at hh; subst hh
   simp only [sb,Ty.u.injEq,true_and]
   constructor
   ·intro h i p q h1 h2
    match i with
    | 0=>simp [Ty.ps] at h1 h2; subst h1; subst h2; exact h
    | i + 1=>simp [Ty.ps] at h1
   ·intro h; exact h 0 x y rfl rfl
  | w d y z=>simp [Ty.ps] at hl
 | w c x x'=>
  cases b with
  | k d=>simp [Ty.ps] at hl
  | u d y=>simp [Ty.ps] at hl
  | w d y y'=>
   simp [Ty.hd] at hh; subst hh
   simp only [sb,Ty.w.injEq,true_and]
   constructor
   ·intro h i p q h1 h2
    match i with
    | 0=>simp [Ty.ps] at h1 h2; subst h1; subst h2; exact h.1
    | 1=>simp [Ty.ps] at h1 h2; subst h1; subst h2; exact h.2
    | i + 2=>simp [Ty.ps] at h1
   ·intro h; exact ⟨h 0 x y rfl rfl,h 1 x' y' rfl rfl⟩
theorem Ylt {θ:Nat→Ty} {a b:Ty} (ha:a.ps≠[] ∨ V a.hd=false) (hb:b.ps≠[] ∨ V b.hd=false) (hh:a.hd≠b.hd):sb V θ a≠sb V θ b:=by
 intro h
 have h1:=(Yni (θ:=θ) ha).1
 rw [h,(Yni hb).1] at h1
 exact hh h1.symm
theorem Ycj {v:Nat} {t:Ty} (ht:t.ps≠[] ∨ V t.hd=false) (hv:V v=true) (θ:Nat→Ty):occ v (sb V θ t)=t.ps.any fun p=>occ v (sb V θ p):=by
 cases t with
 | k c=>
  have:V c=false:=ht.resolve_left (by simp [Ty.ps])
  have hne:c≠v:=fun e=>by rw [e,hv] at this; cases this
  simp [sb,this,occ,Ty.ps,hne]
 | u c a=>simp [sb,occ,Ty.ps]
 | w c a b=>simp [sb,occ,Ty.ps]
theorem Zoe {t p:Ty} (hp:p∈t.ps) (θ:Nat→Ty):(sb V θ p).size < (sb V θ t).size:=by
 cases t with
 | k c=>simp [Ty.ps] at hp
 | u c a=>simp [Ty.ps] at hp; subst hp; simp [sb,Ty.size]
 | w c a b=>simp [Ty.ps] at hp; rcases hp with rfl | rfl <;> simp [sb,Ty.size] <;> omega
end
end Go.Sim
