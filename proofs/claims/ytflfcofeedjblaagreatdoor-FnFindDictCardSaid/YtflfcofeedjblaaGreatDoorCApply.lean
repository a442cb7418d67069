/- A part of the proof of a statement of this seat: see the text that holds the theorem. No condition. -/
import Derived.Test.YtflfcofeedjblaaGreatDoorPTCWVar2
import Derived.Test.YtflfcofeedjblaaGreatDoorCWVar2
import Derived.Test.YtflfcofeedjblaaGreatDoorNm
import Derived.Test.YtflfcofeedjblaaGreatDoorCSTy
import Derived.Test.YtflfcofeedjblaaGreatDoorSimX
import Derived.Test.YtflfcofeedjblaaGreatDoorShelf
set_option linter.unusedVariables false
set_option linter.unusedSimpArgs false
set_option linter.all false
set_option linter.unusedVariables false
set_option linter.unusedSimpArgs false
set_option maxRecDepth 20000
namespace Go.Sim
open Go Go.RowKit

structure WB (w:Wd):Prop where
 lc:w.cs.length≤1048576
 li:w.is.length≤1048576
 cs:∀ p∈w.cs,p.1.length≤1048576∧p.2.length≤1048576∧∀ b∈p.1,b < 256
 is:∀ i∈w.is,i.1.1.length≤1048576∧i.1.2.length≤1048576∧i.2.length≤1048576∧∀ p∈i.2,p.1.length≤1048576∧p.2.length≤1048576
def Zmt (a0:Pt) (n0 c0:Nat) (e0:Bool) (a1:Pt) (n1 c1:Nat) (e1:Bool):Zby:=.cells Zad [.slice a0 n0 c0 e0,.slice a1 n1 c1 e1] false
theorem Zwi {h:Zaa} {j:Nat} {a0 a1:Pt} {n0 c0 n1 c1:Nat} {e0 e1:Bool} (hj:h[j]?=some (Zmt a0 n0 c0 e0 a1 n1 c1 e1)):Zbj h (.ptr (some (j,0))) 2=some [.slice a0 n0 c0 e0,.slice a1 n1 c1 e1]:=by
 rw [Zed (show h[j]?=some (.cells Zad [.slice a0 n0 c0 e0,.slice a1 n1 c1 e1] false) from hj) (by simp)]; rfl
theorem Ztf {h:Zaa} {j o:Nat} {a0 a1:Pt} {n0 c0 n1 c1:Nat} {e0 e1:Bool} (hj:h[j]?=some (Zmt a0 n0 c0 e0 a1 n1 c1 e1)):Zae h (.ptr (some (j,o)))=([.slice a0 n0 c0 e0,.slice a1 n1 c1 e1]:List Zat)[o]?:=Zal (show h[j]?=some (.cells Zad [.slice a0 n0 c0 e0,.slice a1 n1 c1 e1] false) from hj)
theorem Zba.get {b:Nat} {h h':Zaa} {j:Nat} {x:Zby} (s:Zba b h h') (hj:h[j]?=some x) (hb:j < b):h'[j]?=some x:=by rw [s.eq j hb]; exact hj
theorem Zba.cat {h h1 h2:Zaa} (a:Zba h.length h h1) (b:Zba h1.length h1 h2):Zba h.length h h2:=a.trans (b.mono a.le)

theorem Ypj {h:Zaa} {t:TypeId} {x y:Zat}:Zbj (h ++ [.cells t [x,y] false]) (.ptr (some (h.length,0))) 2=some [x,y]:=Yec rfl
theorem Yrz {h:Zaa} {t:TypeId} {x y z:Zat}:Zbj (h ++ [.cells t [x,y,z] false]) (.ptr (some (h.length,0))) 3=some [x,y,z]:=Yec rfl
theorem Ygp {h:Zaa} {a0 a1 a2:Pt} {n0 c0 n1 c1 n2 c2 j:Nat} {e0 e1 e2:Bool} {w:Wd} {ns:List Nd} {ct tt:List Nat} (r:Zlx h a0 n0 c0 a1 n1 c1 w) (b:WB w) (hj:h[j]?=some (Zmt a0 n0 c0 e0 a1 n1 c1 e1))
  (r2:Row h.length h a2 (n2 * 2) (Zdg eP ns)) (hn2:n2≤1048576) (hns:∀ p∈ns,p.2.length≤1048576) (htt:tt.length≤1048576) :
  Zaj pg Zcm [.agg [.str ct,.str tt,.slice a2 n2 c2 e2],.ptr (some (j,0))] h fun v h'=>v=.bool (!Zmy w.cs ((ct,tt),ns))∧Zba h.length h h':=by
 apply Zlk.call
 simp only [Zax]
 have s1:Zba h.length h (h ++ [.cells Zac [.str ct,.str tt,.slice a2 n2 c2 e2] false]):=Zam
 rw [Zwi (s1.get hj (Own.lt hj)),Yrz]
 simp only [Zap,Zaf,Zao,Zah,Zag]
 have hlc:=b.lc
 have hl0:=r.len0
 refine (Zwk (r.cls.same' s1) r.le0 (by omega) (fun p hp=>(b.cs p hp).2.1) (r2.same' s1) hn2 hns htt).mono ?_
 rintro v h2 ⟨rfl,s2⟩
 simp only [Zaq]
 exact ⟨by trivial,s1.cat s2⟩
theorem Yfn {h:Zaa} {a0 a1:Pt} {n0 c0 n1 c1 j:Nat} {e0 e1:Bool} {w:Wd} (r:Zlx h a0 n0 c0 a1 n1 c1 w) (b:WB w) (hj:h[j]?=some (Zmt a0 n0 c0 e0 a1 n1 c1 e1)) :
  Zaj pg Zdn [.slice a1 n1 c1 e1,.fn Zcm [.ptr (some (j,0))]] h fun v h'=>(∃ z:Int,v=.int .i64 z∧decide (z ≥ 0)=!w.is.all (Zmy w.cs))∧Zba h.length h h':=by
 have hl:=r.len1
 have hli:=b.li
 apply Zbk.call
 refine Zbk.L2ind _ _ _ _ _ _ _ (J:=fun (g:Nat) x8 h'=>x8=(g:Int)∧g≤n1∧Zba h.length h h'∧(w.is.take g).all (Zmy w.cs)=true) (fun g=>n1 - g) ?_ 0 _ _ ⟨rfl,by omega,Zba.refl _ _,rfl⟩
 rintro g x8 h' ⟨rfl,hg,hS,hk⟩ R hR
 unfold Zbk.L2t
 refine Zau (fun hlt=>?_) (fun hge=>?_)
 ·obtain ⟨i,o,hgl,a2,n2,c2,e2,rfl,_,hr,_,_,_,hrow,hn⟩:=(r.same hS).inst (k:=g) (by omega)
  simp only [Zaw,Int.toNat_natCast,hr,Zap,Zaf,Zao,Zag,Zah]
  have hb:=b.is _ (List.getElem_mem hgl)
  refine ⟨by omega,(Ygp (r.same hS) b (hS.get hj (Own.lt hj)) hrow (by omega) (fun p hp=>(hb.2.2.2 p hp).2) hb.2.1).mono ?_⟩
  rintro v h2 ⟨rfl,s2⟩
  simp only [Zaq]
  have hS2:=hS.cat s2
  refine Zbs (fun he=>?_) (fun he=>?_)
  ·exact ⟨⟨_,rfl,by rw [Zrk hgl he]; simp⟩,hS2⟩
  ·rw [Zbq (by omega)]
   exact hR (g + 1) _ _ (by omega) ⟨rfl,by omega,hS2,Zge hgl hk he⟩
 ·apply Zbk.A2x0i
  have:g=n1:=by omega
  subst this
  rw [List.take_of_length_le (by omega)] at hk
  exact ⟨⟨_,rfl,by rw [hk]; rfl⟩,hS⟩
theorem Zty {h:Zaa} {a0 a1:Pt} {n0 c0 n1 c1:Nat} {e0 e1:Bool} {w:Wd} (r:Zlx h a0 n0 c0 a1 n1 c1 w) (b:WB w) :
  Zaj pg Zil [.agg [.slice a0 n0 c0 e0,.slice a1 n1 c1 e1]] h fun v h'=>v=.bool (Zdv w)∧Zba h.length h h':=by
 have hl0:=r.len0
 have hl1:=r.len1
 have hlc:=b.lc
 apply Zpp.call
 simp only [Zax]
 generalize hh0:h ++ [Zby.cells Zad [.slice a0 n0 c0 e0,.slice a1 n1 c1 e1] false]=h0
 have s0:Zba h.length h h0:=by rw [← hh0]; exact Zam
 have w0:h0[h.length]?=some (Zmt a0 n0 c0 e0 a1 n1 c1 e1):=by rw [← hh0]; simp [Zmt]
 rw [Zwi w0]
 simp only [Zap,Zaf,Zao,Zah]
 refine (Zvs (r.cls.same' s0) r.le0 (by omega) (fun p hp=>(b.cs p hp).2.1)).mono ?_
 rintro v h2 ⟨rfl,s2⟩
 have S2:=s0.cat s2
 have w2:=s2.get w0 (Own.lt w0)
 simp only [Zaq]
 refine Zdu (fun b1=>?_) (fun b1=>⟨by unfold Zdv; rw [b1]; rfl,S2⟩)
 simp only [Ztf w2,Nat.zero_add,List.getElem?_cons_succ,List.getElem?_cons_zero,Zah]
 refine Zau (fun b2=>?_) (fun b2=>⟨by unfold Zdv; rw [b1]; simp [show ¬ w.is.length≤10 by omega],S2⟩)
 apply Zcu.call
 refine (Yfn (r.same S2) b w2).mono ?_
 rintro v h3 ⟨⟨z,rfl,hz⟩,s3⟩
 simp only [Zas,Zaq]
 refine ⟨?_,S2.cat s3⟩
 rw [hz,Bool.not_not]
 unfold Zdv
 rw [b1]; simp [show w.is.length≤10 by omega]
theorem Zop {h:Zaa} {a0 a1:Pt} {n0 c0 n1 c1:Nat} {e0 e1:Bool} {w:Wd} (r:Zlx h a0 n0 c0 a1 n1 c1 w) (b:WB w) :
  Zaj pg Zgx [.agg [.slice a0 n0 c0 e0,.slice a1 n1 c1 e1]] h fun v h'=>v=.bool (Zdv w)∧Zba h.length h h':=by
 have hl0:=r.len0
 have hl1:=r.len1
 have hlc:=b.lc
 have hli:=b.li
 apply Zgy.call
 simp only [Zax]
 generalize hh0:h ++ [Zby.cells Zad [.slice a0 n0 c0 e0,.slice a1 n1 c1 e1] false]=h0
 have s0:Zba h.length h h0:=by rw [← hh0]; exact Zam
 have w0:h0[h.length]?=some (Zmt a0 n0 c0 e0 a1 n1 c1 e1):=by rw [← hh0]; simp [Zmt]
 simp only [Ztf w0,Nat.zero_add,List.getElem?_cons_succ,List.getElem?_cons_zero,Zah]
 refine Zgy.L2ind _ _ _ _ _ _ _ _ (J:=fun (g:Nat) x8 h'=>x8=(g:Int)∧g≤n1∧Zba h0.length h0 h'∧(w.is.take g).all (Zmy w.cs)=true) (fun g=>n1 - g) ?_ 0 _ _ ⟨rfl,by omega,Zba.refl _ _,rfl⟩
 rintro g x8 h' ⟨rfl,hg,hS,hk⟩ R hR
 have SS:=s0.cat hS
 have w1:=hS.get w0 (Own.lt w0)
 unfold Zgy.L2t
 refine Zau (fun hlt=>?_) (fun hge=>?_)
 ·obtain ⟨i,o,hgl,a2,n2,c2,e2,rfl,_,hr,_,_,_,hrow,hn⟩:=(r.same SS).inst (k:=g) (by omega)
  simp only [Zaw,Int.toNat_natCast,hr,Zap,Zaf,Zao,Zag,Zah,Zax]
  rw [Yue]
  generalize hq:h' ++ [Zby.cells Zac [.str w.is[g].1.1,.str w.is[g].1.2,.slice a2 n2 c2 e2] false]=hq'
  have sq:Zba h'.length h' hq':=by rw [← hq]; exact Zam
  simp only [Zar]
  rw [Zwi (sq.get w1 (Own.lt w1)),← hq,Yrz,hq]
  simp only [Zap,Zaf,Zao,Zag,Zah]
  have hb:=b.is _ (List.getElem_mem hgl)
  have Sq:=SS.cat sq
  refine ⟨by omega,(Zux (r.cls.same' Sq) r.le0 (by omega) (fun p hp=>(b.cs p hp).2.1) (fun p hp=>(b.cs p hp).2.2) (hrow.same' sq) (by omega) (fun p hp=>(hb.2.2.2 p hp).2) hb.2.1).mono ?_⟩
  rintro v h2 ⟨rfl,s2⟩
  simp only [Zaq]
  refine Zbs (fun he=>?_) (fun he=>?_)
  ·exact ⟨by unfold Zdv; rw [Zrk hgl he]; simp,Sq.cat s2⟩
  ·rw [Zbq (by omega)]
   exact hR (g + 1) _ _ (by omega) ⟨rfl,by omega,(hS.cat sq).cat s2,Zge hgl hk he⟩
 ·apply Zgy.A2x0i
  have:g=n1:=by omega
  subst this
  rw [List.take_of_length_le (by omega)] at hk
  simp only [Ztf w1,Nat.zero_add,List.getElem?_cons_zero,Zah]
  refine (Zwg (r.cls.same' SS) r.le0 (by omega) (fun p hp=>(b.cs p hp).2.1) (fun p hp=>(b.cs p hp).2.2)).mono ?_
  rintro v h2 ⟨rfl,s2⟩
  simp only [Zaq]
  have w2:=s2.get w1 (Own.lt w1)
  refine Zdu (fun b1=>?_) (fun b1=>⟨by unfold Zdv; rw [b1]; rfl,SS.cat s2⟩)
  simp only [Ztf w2,Nat.zero_add,List.getElem?_cons_succ,List.getElem?_cons_zero,Zah]
  refine ⟨?_,SS.cat s2⟩
  unfold Zdv
  rw [b1,hk]; congr 1; rw [Bool.eq_iff_iff]; simp; omega
theorem Ynt {h:Zaa} {a0 a1:Pt} {n0 c0 n1 c1:Nat} {e0 e1:Bool} {w:Wd} {ct tt:List Nat} (r:Zlx h a0 n0 c0 a1 n1 c1 w) (b:WB w) :
  Zaj pg Zqa [.agg [.slice a0 n0 c0 e0,.slice a1 n1 c1 e1],.agg [.str ct,.str tt]] h fun v h'=>v=.bool (Zfp w (ct,tt))∧Zba h.length h h':=by
 have hl0:=r.len0
 have hlc:=b.lc
 apply Zug.call
 simp only [Zax]
 generalize hh0:h ++ [Zby.cells Zad [.slice a0 n0 c0 e0,.slice a1 n1 c1 e1] false]=h0
 generalize hh1:h0 ++ [Zby.cells Zab [.str ct,.str tt] false]=h1
 have s0:Zba h.length h h0:=by rw [← hh0]; exact Zam
 have s1:Zba h0.length h0 h1:=by rw [← hh1]; exact Zam
 have w0:h0[h.length]?=some (Zmt a0 n0 c0 e0 a1 n1 c1 e1):=by rw [← hh0]; simp [Zmt]
 have w1:=s1.get w0 (Own.lt w0)
 have i1:h1[h0.length]?=some (.cells Zab [.str ct,.str tt] false):=by rw [← hh1]; simp
 simp only [Ztf w1,Zal i1,Nat.zero_add,List.getElem?_cons_zero,List.getElem?_cons_succ,Zah,Zag]
 refine (Zwr (r.cls.same' (s0.cat s1)) (by omega)).mono ?_
 rintro v h2 ⟨rfl,s2⟩
 simp only [Zaq]
 have i2:=s2.get i1 (Own.lt i1)
 refine Zdu (fun b1=>?_) (fun b1=>⟨by unfold Zfp; rw [b1]; rfl,(s0.cat s1).cat s2⟩)
 simp only [Zal i2,Nat.zero_add,List.getElem?_cons_zero,List.getElem?_cons_succ,Zah,Zag]
 refine (Zmb tt h2).mono ?_
 rintro v h3 ⟨rfl,s3⟩
 simp only [Zaq]
 exact ⟨by unfold Zfp; rw [b1]; rfl,((s0.cat s1).cat s2).cat s3⟩
theorem Ymv (cs:List Nd) (c:List Nat):decide (Ygm cs c ≥ 0)=Zha cs c:=by
 unfold Ygm; cases h:Zha cs c <;> simp
theorem Ynj {h:Zaa} {a0 a1:Pt} {n0 c0 n1 c1:Nat} {e0 e1:Bool} {w:Wd} {ct tt:List Nat} (r:Zlx h a0 n0 c0 a1 n1 c1 w) (b:WB w) (ht:tt.length≤1048576) :
  Zaj pg Zpr [.agg [.slice a0 n0 c0 e0,.slice a1 n1 c1 e1],.agg [.str ct,.str tt]] h fun v h'=>v=.bool (Zfp w (ct,tt))∧Zba h.length h h':=by
 have hl0:=r.len0
 have hlc:=b.lc
 apply Zut.call
 simp only [Zax]
 generalize hh0:h ++ [Zby.cells Zad [.slice a0 n0 c0 e0,.slice a1 n1 c1 e1] false]=h0
 generalize hh1:h0 ++ [Zby.cells Zab [.str ct,.str tt] false]=h1
 have s0:Zba h.length h h0:=by rw [← hh0]; exact Zam
 have s1:Zba h0.length h0 h1:=by rw [← hh1]; exact Zam
 have w0:h0[h.length]?=some (Zmt a0 n0 c0 e0 a1 n1 c1 e1):=by rw [← hh0]; simp [Zmt]
 have w1:=s1.get w0 (Own.lt w0)
 have i1:h1[h0.length]?=some (.cells Zab [.str ct,.str tt] false):=by rw [← hh1]; simp
 rw [Zwi w1]
 simp only [Zap,Zaf,Zao,Zal i1,Nat.zero_add,List.getElem?_cons_zero,List.getElem?_cons_succ,Zah,Zag]
 refine (Zsj (r.cls.same' (s0.cat s1)) (by omega)).mono ?_
 rintro v h2 ⟨rfl,s2⟩
 simp only [Zas,Ymv]
 have i2:=s2.get i1 (Own.lt i1)
 refine Zdu (fun b1=>?_) (fun b1=>⟨by unfold Zfp; rw [b1]; rfl,(s0.cat s1).cat s2⟩)
 simp only [Zal i2,Nat.zero_add,List.getElem?_cons_zero,List.getElem?_cons_succ,Zah,Zag]
 refine (Zir tt (by omega) h2).mono ?_
 rintro v h3 ⟨rfl,s3⟩
 simp only [Zaq]
 exact ⟨by unfold Zfp; rw [b1]; rfl,((s0.cat s1).cat s2).cat s3⟩
theorem Zwb {h:Zaa} {a0 a1:Pt} {n0 c0 n1 c1:Nat} {e0 e1:Bool} {w:Wd} {ct tt:List Nat} (r:Zlx h a0 n0 c0 a1 n1 c1 w) (b:WB w) (ht:tt.length≤1048576) :
  Zaj pg Zju [.agg [.slice a0 n0 c0 e0,.slice a1 n1 c1 e1],.agg [.str ct,.str tt]] h fun v h'=>v=.bool (Zdv w && Zfp w (ct,tt))∧Zba h.length h h':=by
 apply Zqv.call
 simp only [Zax]
 generalize hh0:h ++ [Zby.cells Zad [.slice a0 n0 c0 e0,.slice a1 n1 c1 e1] false]=h0
 generalize hh1:h0 ++ [Zby.cells Zab [.str ct,.str tt] false]=h1
 have s0:Zba h.length h h0:=by rw [← hh0]; exact Zam
 have s1:Zba h0.length h0 h1:=by rw [← hh1]; exact Zam
 have w0:h0[h.length]?=some (Zmt a0 n0 c0 e0 a1 n1 c1 e1):=by rw [← hh0]; simp [Zmt]
 have w1:=s1.get w0 (Own.lt w0)
 have i1:h1[h0.length]?=some (.cells Zab [.str ct,.str tt] false):=by rw [← hh1]; simp
 rw [Zwi w1]
 simp only [Zap,Zaf,Zao,Zah]
 refine (Zop (r.same (s0.cat s1)) b).mono ?_
 rintro v h2 ⟨rfl,s2⟩
 simp only [Zaq]
 have i2:=s2.get i1 (Own.lt i1)
 have w2:=s2.get w1 (Own.lt w1)
 refine Zdu (fun b1=>?_) (fun b1=>⟨by rw [b1]; rfl,(s0.cat s1).cat s2⟩)
 rw [Zwi w2,Zed i2 (by simp)]
 simp only [List.drop_zero,List.take_succ_cons,List.take_zero,Zap,Zaf,Zao,Zah,Zag]
 refine (Ynj (r.same ((s0.cat s1).cat s2)) b ht).mono ?_
 rintro v h3 ⟨rfl,s3⟩
 simp only [Zaq]
 exact ⟨by rw [b1]; rfl,((s0.cat s1).cat s2).cat s3⟩
end Go.Sim

set_option linter.unusedVariables false
set_option linter.unusedSimpArgs false
set_option maxRecDepth 20000
namespace Go.Sim
open Go Go.RowKit

end Go.Sim

set_option linter.unusedVariables false
set_option linter.unusedSimpArgs false
set_option maxRecDepth 20000
namespace Go.Sim
open Go Go.RowKit
end Go.Sim

set_option linter.unusedVariables false
set_option linter.unusedSimpArgs false
set_option maxRecDepth 20000
namespace Go.Sim
open Go Go.RowKit

def isz (i:Ins):Nat:=i.1.1.length + i.1.2.length + (i.2.length + Ymz i.2)
def Ypy (l:List Ins):Nat:=(l.map isz).sum
def wsz (w:Wd):Nat:=w.cs.length + Ymz w.cs + (w.is.length + Ypy w.is)
theorem Ylr {l:List Ins} {g:Nat} (h:g < l.length):Ypy (l.take (g + 1))=Ypy (l.take g) + isz l[g]:=by
 unfold Ypy; rw [List.take_succ_eq_append_getElem h,List.map_append,List.sum_append]; simp
theorem Ydh (l:List Ins) (g:Nat):Ypy (l.take g)≤Ypy l:=by
 conv=>rhs; rw [← List.take_append_drop g l]
 unfold Ypy; rw [List.map_append,List.sum_append]; omega
theorem Yri {l:List Ins} {g:Nat} (h:g < l.length):isz l[g]≤Ypy l:=by
 have:=Ylr h; have:=Ydh l (g + 1); omega
def Ypw (n:Nat):Prop:=n≤9223372036854775807
structure Yws (w:Wd):Prop where
 lc:Ypw w.cs.length
 li:Ypw w.is.length
 cs:∀ p∈w.cs,Ypw p.1.length∧Ypw p.2.length∧∀ b∈p.1,b < 256
 is:∀ i∈w.is,Ypw i.1.1.length∧Ypw i.1.2.length∧Ypw i.2.length∧∀ p∈i.2,Ypw p.1.length∧Ypw p.2.length
theorem WB.of {w:Wd} (b:Yws w) (h:wsz w≤1048576):WB w:=by
 have h1:∀ p∈w.cs,p.1.length + p.2.length≤Ymz w.cs:=fun p hp=>by
  obtain ⟨k,hk,rfl⟩:=List.mem_iff_getElem.1 hp; exact Yil hk
 have h2:∀ i∈w.is,isz i≤Ypy w.is:=fun p hp=>by
  obtain ⟨k,hk,rfl⟩:=List.mem_iff_getElem.1 hp; exact Yri hk
 unfold wsz at h
 refine ⟨by omega,by omega,fun p hp=>⟨by have:=h1 p hp; omega,by have:=h1 p hp; omega,(b.cs p hp).2.2⟩,fun i hi=>?_⟩
 have:=h2 i hi
 unfold isz at this
 refine ⟨by omega,by omega,by omega,fun p hp=>?_⟩
 have h3:p.1.length + p.2.length≤Ymz i.2:=by obtain ⟨k,hk,rfl⟩:=List.mem_iff_getElem.1 hp; exact Yil hk
 omega
theorem Zmv {h:Zaa} {i:Nat} {t:TypeId} {x y z:Zat} {ro:Bool} (hi:h[i]?=some (.cells t [x,y,z] ro)):Zbj h (.ptr (some (i,0))) 3=some [x,y,z]:=by
 rw [Zed hi (by simp)]; rfl
theorem Zba.set' {b i:Nat} {h h1:Zaa} {x:Zby} (s:Zba b h h1) (hi:b≤i):Zba b h (h1.set i x):=⟨by simp; exact s.le,fun j hj=>by rw [Zbo (by omega)]; exact s.eq j hj⟩
theorem Zdd.keep {α:Type} {ty:TypeId} {enc:α→List Zat} {b b':Nat} {h h':Zaa} {a:Pt} {n:Nat} {l:List α} (f:Zdd ty enc b h a n l) (hb:b'≤b) (hk:∀ i,b≤i→i < h.length→h'[i]?=h[i]?):Zdd ty enc b' h' a n l:=
 ⟨f.1,f.2.imp id fun ⟨i,ha,hbi,hi⟩=>⟨i,ha,by omega,by rw [hk i hbi (Own.lt hi)]; exact hi⟩⟩
end Go.Sim

set_option linter.unusedVariables false
set_option linter.unusedSimpArgs false
set_option maxRecDepth 20000
namespace Go.Sim
open Go Go.RowKit

theorem Zbb {h:Zaa} {i:Nat} {t:TypeId} {x y:Zat} {ro:Bool} (hi:h[i]?=some (.cells t [x,y] ro)):Zbj h (.ptr (some (i,0))) 2=some [x,y]:=by
 rw [Zed hi (by simp)]; rfl
end Go.Sim

set_option linter.unusedVariables false
set_option linter.unusedSimpArgs false
set_option maxRecDepth 20000
namespace Go.Sim
open Go Go.RowKit

theorem Ty.size_ps (t:Ty):t.size=1 + (t.ps.map Ty.size).sum:=by cases t <;> simp [Ty.size,Ty.ps] <;> omega
theorem Zhw.same {S:Nat→Prop} {h h':Zaa} (s:Zba h.length h h'):∀ {t:Ty} {v:List Zat},Zhw S h t v→Zhw S h' t v
 | .k d,_,h=>h
 | .u d x,_,⟨j,c,e,r,hv,sj,hj,hr⟩=>⟨j,c,e,r,hv,sj,s.get hj (Own.lt hj),hr.same s⟩
 | .w d x y,_,⟨j,c,e,r,r',hv,sj,hj,hr,hr'⟩=>⟨j,c,e,r,r',hv,sj,s.get hj (Own.lt hj),hr.same s,hr'.same s⟩
end Go.Sim

set_option linter.unusedVariables false
set_option linter.unusedSimpArgs false
set_option maxRecDepth 20000
namespace Go.Sim
open Go Go.RowKit

theorem Vec.lt' {ty:TypeId} {h:Zaa} {a:Pt} {i n c:Nat} {cs:List Zat} (x:Vec ty h a n c cs) (e:a=some (i,0)):i < h.length:=by subst e; exact x.lt
theorem Zsx.keep {S:Nat→Prop} {h h':Zaa} (hh:∀ j,S j→j < h.length→h'[j]?=h[j]?):∀ {t:Ty} {p:Pt},Zsx S h t p→Zsx S h' t p
 | .k d,p,⟨i,a,c,e,hp,si,hi⟩=>⟨i,a,c,e,hp,si,by rw [hh i si (Own.lt hi)]; exact hi⟩
 | .u d x,p,⟨i,j,c,e,q,hp,si,hi,sj,hj,hq⟩=>⟨i,j,c,e,q,hp,si,by rw [hh i si (Own.lt hi)]; exact hi,sj,by rw [hh j sj (Own.lt hj)]; exact hj,hq.keep hh⟩
 | .w d x y,p,⟨i,j,c,e,q,r,hp,si,hi,sj,hj,hq,hr⟩=>⟨i,j,c,e,q,r,hp,si,by rw [hh i si (Own.lt hi)]; exact hi,sj,by rw [hh j sj (Own.lt hj)]; exact hj,hq.keep hh,hr.keep hh⟩
theorem Zsx.same {S:Nat→Prop} {h h':Zaa} {t:Ty} {p:Pt} (r:Zsx S h t p) (s:Zba h.length h h'):Zsx S h' t p:=r.keep fun j _ hj=>s.eq j hj
theorem Zhw.keep {S:Nat→Prop} {h h':Zaa} (hh:∀ j,S j→j < h.length→h'[j]?=h[j]?):∀ {t:Ty} {v:List Zat},Zhw S h t v→Zhw S h' t v
 | .k d,_,h=>h
 | .u d x,_,⟨j,c,e,r,hv,sj,hj,hr⟩=>⟨j,c,e,r,hv,sj,by rw [hh j sj (Own.lt hj)]; exact hj,hr.keep hh⟩
 | .w d x y,_,⟨j,c,e,r,r',hv,sj,hj,hr,hr'⟩=>⟨j,c,e,r,r',hv,sj,by rw [hh j sj (Own.lt hj)]; exact hj,hr.keep hh,hr'.keep hh⟩
theorem Ty.txt_inter (t:Ty) (h:t.ps≠[]):t.txt=([t.hd] ++ [40]) ++ [44].intercalate (t.ps.map Ty.txt) ++ [41]:=by
 cases t with
 | k c=>simp [Ty.ps] at h
 | u c a=>simp [Ty.ps,Ty.txt,Ty.hd,List.intercalate]
 | w c a b=>simp [Ty.ps,Ty.txt,Ty.hd,List.intercalate]
theorem Ty.size_part {t x:Ty} (h:x∈t.ps):x.size < t.size:=by
 cases t with
 | k c=>simp [Ty.ps] at h
 | u c a=>simp [Ty.ps] at h; subst h; simp [Ty.size]
 | w c a b=>simp [Ty.ps] at h; rcases h with rfl | rfl <;> simp [Ty.size] <;> omega
theorem Ty.len_part {t x:Ty} (h:x∈t.ps):x.txt.length < t.txt.length:=by
 cases t with
 | k c=>simp [Ty.ps] at h
 | u c a=>simp [Ty.ps] at h; subst h; simp [Ty.txt]; omega
 | w c a b=>simp [Ty.ps] at h; rcases h with rfl | rfl <;> simp [Ty.txt] <;> omega
theorem Yom:∀ (N:Nat) {S:Nat→Prop} {h:Zaa} {t:Ty} {p:Pt},t.size≤N→t.txt.length≤1048576→Zsx S h t p→Zaj pg Zjn [.ptr p] h fun x h'=>x=.str t.txt∧Zba h.length h h'
 | 0,S,h,t,p,hN,_,_=>by have:=t.size_ps; omega
 | N + 1,S,h,t,p,hN,hB,r=>by
  obtain ⟨i,a,c,e,qs,rfl,si,hi,hrow,hS,hql,hq⟩:=r.parts
  have hps2:t.ps.length≤2:=by cases t <;> simp [Ty.ps]
  apply Zhk.call
  simp only [Zaw,Zal hi,Nat.zero_add,List.getElem?_cons_succ,List.getElem?_cons_zero,Zah,Zag]
  refine Zcs (fun hz0=>?_) (fun hz0=>?_)
  ·have:t.ps.length=0:=by omega
   refine ⟨?_,Zba.refl _ _⟩
   cases t <;> simp [Ty.ps] at this
   rfl
  ·simp only [Zax]
   generalize hh0:h ++ [Zby.cells Zbh [] false]=h0
   have s0:Zba h.length h h0:=by rw [← hh0]; exact Zam
   have i0:=s0.get hi (Own.lt hi)
   have l0:h0.length=h.length + 1:=by rw [← hh0]; simp
   have v0:h0[h.length]?=some (.cells Zbh [] false):=by rw [← hh0]; simp
   simp only [Zal i0,List.getElem?_cons_succ,List.getElem?_cons_zero,Zah]
   refine Zhk.L5ind _ _ _ _ _ _ _ (J:=fun (g:Nat) a3 n3 c3 e3 x22 h'=>x22=(g:Int)∧g≤t.ps.length∧Zba h.length h h'∧n3=g∧Vec Zbh h' a3 n3 c3 (strs ((t.ps.take g).map Ty.txt))∧(∀ i,a3=some (i,0)→h.length≤i)) (fun g=>t.ps.length - g) ?_ 0 _ _ _ _ _ _
    ⟨rfl,by omega,s0,rfl,Vec.mk1 (by simpa using v0),fun i hi=>by cases hi; omega⟩
   rintro g a3 n3 c3 e3 x22 h' ⟨rfl,hg,hSm,rfl,hv,ha⟩ R hR
   unfold Zhk.L5t
   have i1:=hSm.get hi (Own.lt hi)
   refine Zau (fun hlt=>?_) (fun hge=>?_)
   ·have hg':n3 < t.ps.length:=by omega
    obtain ⟨j,o,rfl,hj,hc⟩:=(hrow.same hSm).at hg'
    have hqg:n3 < qs.length:=by omega
    rw [List.getElem?_map,List.getElem?_eq_getElem hqg] at hc
    simp only [Zaw,Int.toNat_natCast,Nat.mul_one,hc,Option.map_some,Zeg]
    have hk:=hq n3 qs[n3] t.ps[n3] (List.getElem?_eq_getElem hqg) (List.getElem?_eq_getElem hg')
    have hm:=List.getElem_mem hg'
    have h1:=Ty.size_part hm
    have h2:=Ty.len_part hm
    refine ⟨by omega,(Yom N (by omega) (by omega) (hk.same hSm)).mono ?_⟩
    rintro x h2 ⟨rfl,s2⟩
    simp only [Zag,Zax]
    refine (hv.same s2).push Zxg Ycl Ycq Yco (by simp; omega) rfl (by omega) (fun h4 hl4 hi4 hk4=>?_)
    simp only [Zah]
    rw [Zbq (by omega)]
    have S2:=hSm.cat s2
    have hle:=S2.le
    refine hR (n3 + 1) _ _ _ _ _ _ (by omega) ⟨rfl,by omega,⟨by omega,fun j hj=>?_⟩,rfl,Vec.mk1 ?_,fun i hi=>by cases hi; omega⟩
    ·rw [hk4 j (by omega) fun i hi=>by have:=ha i hi; omega]; exact S2.eq j hj
    ·rw [hi4,List.take_succ_eq_append_getElem hg',List.map_append,Yev]; rfl
   ·apply Zhk.A5x0i
    have:n3=t.ps.length:=by omega
    subst this
    rw [List.take_length] at hv
    have hne:t.ps≠[]:=fun e=>hz0 (by rw [e]; rfl)
    have htx:=t.txt_inter hne
    have hln:=congrArg List.length htx
    simp at hln
    simp only [Zaw,Zal i1,Nat.zero_add,List.getElem?_cons_zero,Zag]
    refine ⟨by simp,?_⟩
    refine (Ypa (hv.row (by simp)) (by omega) (by omega)).mono ?_
    rintro v h3 ⟨rfl,rfl⟩
    simp only [Zag]
    refine ⟨Zal i1,by simp; omega,by simp; omega,?_⟩
    exact ⟨by rw [htx],hSm⟩
theorem Zhw.get {S:Nat→Prop} {h:Zaa} {t:Ty} {a:Pt} {vs:List (List Zat)} (hrow:Row h.length h a (t.ps.length * 2) vs.flatten) (hvl:vs.length=t.ps.length) (hp:∀ (k:Nat) (w:List Zat) (x:Ty),vs[k]?=some w→t.ps[k]?=some x→Zhw S h x w) {g:Nat} (hg':g < t.ps.length) :
  ∃ i o a2 c2 e2,a=some (i,o)∧Zbj h (.ptr (some (i,o + g * 2))) 2=some [.int .u8 (t.ps[g].hd:Int),.slice a2 t.ps[g].ps.length c2 e2]∧Zhw S h t.ps[g] [.int .u8 (t.ps[g].hd:Int),.slice a2 t.ps[g].ps.length c2 e2]:=by
 have hgv:g < vs.length:=by omega
 have hk:=hp g vs[g] t.ps[g] (List.getElem?_eq_getElem hgv) (List.getElem?_eq_getElem hg')
 have hz:∀ v∈vs,v.length=2:=fun v hv=>by
  obtain ⟨k,hk,rfl⟩:=List.mem_iff_getElem.1 hv
  exact (hp k vs[k] (t.ps[k]'(by omega)) (List.getElem?_eq_getElem hk) (List.getElem?_eq_getElem (by omega))).len
 have hfl:vs.flatten=Zdg (fun (v:{v:List Zat // v.length=2})=>v.1) (vs.attach.map fun v=>⟨v.1,hz v.1 v.2⟩):=by
  unfold Zdg; rw [List.flatMap_map]; simp
 rw [hfl] at hrow
 obtain ⟨i,o,hk',ha,_,hr,_⟩:=Row.el (enc:=fun (v:{v:List Zat // v.length=2})=>v.1) (fun x=>x.2) hrow (by simp [hvl]) (k:=g) hg' (by omega)
 obtain ⟨a2,c2,e2,hv2⟩:=hk.shape
 rw [hv2] at hk
 exact ⟨i,o,a2,c2,e2,ha,by rw [hr]; simp [hv2],hk⟩
theorem Ynm {g:Nat} (hg:g < 2):sub [40,44] (g:Int) ((g:Int) + 1)=[Zrt g]:=by
 rcases g with _ | _ | g
 ·rfl
 ·rfl
 ·omega
theorem Ty.hd_lt (t:Ty) (h:t.ok=true):t.hd < 256:=by
 have:=Ty.ok_ar h
 unfold arN Zmo Zdp at this
 simp only [Bool.or_eq_true,beq_iff_eq] at this
 split at this
 ·omega
 ·split at this
  ·omega
  ·split at this
   ·omega
   ·omega
def Zph:Nat→List Ty→List Nat
 | _,[]=>[]
 | g,x :: l=>Zrt g :: (x.txt ++ Zph (g + 1) l)
theorem Zvk:∀ (l:List Ty) (g k:Nat) (h:k < l.length),Zph g (l.take (k + 1))=Zph g (l.take k) ++ Zrt (g + k) :: l[k].txt
 | x :: l,g,0,_=>by simp [Zph]
 | x :: l,g,k + 1,h=>by
  have:=Zvk l (g + 1) k (by simpa using h)
  simp only [List.take_succ_cons,Zph,this,List.getElem_cons_succ,List.cons_append,List.append_assoc]
  rw [show g + 1 + k=g + (k + 1) by omega]
theorem Zyi:∀ (l:List Ty) (g k:Nat),(Zph g (l.take k)).length≤(Zph g l).length
 | [],g,k=>by simp [Zph]
 | x :: l,g,0=>by simp [Zph]
 | x :: l,g,k + 1=>by
  have:=Zyi l (g + 1) k
  simp only [List.take_succ_cons,Zph,List.length_cons,List.length_append]; omega
theorem Ty.txt_mids (t:Ty):t.txt=t.hd :: Zph 0 t.ps ++ (if t.ps=[] then [] else [41]):=by
 cases t <;> simp [Ty.ps,Ty.txt,Ty.hd,Zph,Zrt]
theorem Zpn:∀ (N:Nat) {S:Nat→Prop} {h:Zaa} {t:Ty} {v:List Zat},t.size≤N→t.txt.length≤1048576→t.ok=true→Zhw S h t v→Zaj pg Zgf [.agg v] h fun x h'=>x=.str t.txt∧Zba h.length h h'
 | 0,S,h,t,v,hN,_,_,_=>by have:=t.size_ps; omega
 | N + 1,S,h,t,v,hN,hB,hok,r=>by
  obtain ⟨a,c,e,vs,rfl,hrow,hS,hvl,hp⟩:=r.parts
  have hps2:t.ps.length≤2:=by cases t <;> simp [Ty.ps]
  have htx:=t.txt_mids
  have hln:=congrArg List.length htx
  rw [List.length_append,List.length_cons] at hln
  apply Zhh.call
  simp only [Zax,Zfg,Nat.zero_add,List.getElem?_cons_succ,List.getElem?_cons_zero,Zah,Zas]
  generalize hh0:h ++ [Zby.cells Zak [.int .u8 (t.hd:Int),.slice a t.ps.length c e] false]=h0
  have s0:Zba h.length h h0:=by rw [← hh0]; exact Zam
  have o0:h0[h.length]?=some (.cells Zak [.int .u8 (t.hd:Int),.slice a t.ps.length c e] false):=by rw [← hh0]; simp
  generalize hh1:h0 ++ [Zby.cells Ybc [.int .u8 (t.hd:Int)] false]=h1
  have s1:Zba h0.length h0 h1:=by rw [← hh1]; exact Zam
  have o1:=s1.get o0 (Own.lt o0)
  have hro:rowOf h1 (some (h0.length,0)) 1=some [.int .u8 (t.hd:Int)]:=by rw [← hh1]; simp [rowOf,Zbj]
  rw [hro]
  simp only [Zap,Znt,chk,decide_true]
  rw [show ((t.hd:Int)).toNat=t.hd from Int.toNat_natCast _]
  refine ⟨⟨by omega,by have:=t.hd_lt hok; omega⟩,?_⟩
  simp only [Zal o1,List.getElem?_cons_succ,List.getElem?_cons_zero,Zah]
  refine Zhh.L3ind _ _ _ _ _ _ _ _ (J:=fun (g:Nat) x3 x13 h'=>x13=(g:Int)∧g≤t.ps.length∧Zba h.length h h'∧Zba h1.length h1 h'∧x3=t.hd :: Zph 0 (t.ps.take g)) (fun g=>t.ps.length - g) ?_ 0 _ _ _ ⟨rfl,by omega,s0.cat s1,Zba.refl _ _,by simp [Zph]⟩
  rintro g x3 x13 h' ⟨rfl,hg,hSm,hS1,rfl⟩ R hR
  unfold Zhh.L3t
  have o2:=hS1.get o1 (Own.lt o1)
  refine Zau (fun hlt=>?_) (fun hge=>?_)
  ·have hg':g < t.ps.length:=by omega
   obtain ⟨i,o,a2,c2,e2,rfl,hr,hk⟩:=Zhw.get (hrow.same' hSm) hvl (fun k w x h1 h2=>(hp k w x h1 h2).same hSm) hg'
   simp only [Zaw,Int.toNat_natCast,hr,Zap,Zaf,Zao,Zas,Zah,Zax]
   rw [Zgb]
   simp only [Zar]
   rw [Ypj]
   simp only [Zap,Zaf,Zao,Zas,Zah]
   rw [Zbq (by omega),show (((g + 1:Nat):Int))=(g:Int) + 1 by omega,Ynm (by omega)]
   have hm:=List.getElem_mem hg'
   have h1:=Ty.size_part hm
   have h2:=Ty.len_part hm
   have hmt:=Zvk t.ps 0 g hg'
   have hml:(Zph 0 (t.ps.take (g + 1))).length≤(Zph 0 t.ps).length:=Zyi _ _ _
   have hmtl:=congrArg List.length hmt
   simp only [List.length_append,List.length_cons,Nat.zero_add] at hmtl
   have s2:Zba h'.length h' (h' ++ [.cells Zak [.int .u8 (t.ps[g].hd:Int),.slice a2 t.ps[g].ps.length c2 e2] false]):=Zam
   refine ⟨by omega,⟨by omega,by omega,by simp; omega⟩,by simp; omega,(Zpn N (by omega) (by omega) (Ty.ok_ps hok _ hm) (hk.same s2)).mono ?_⟩
   rintro x h3 ⟨rfl,s3⟩
   simp only [Zag]
   refine ⟨by simp; omega,?_⟩
   exact hR (g + 1) _ _ _ (by omega) ⟨by omega,by omega,(hSm.cat s2).cat s3,(hS1.cat s2).cat s3,by rw [hmt,Nat.zero_add]; simp⟩
  ·apply Zhh.A3x0i
   have:g=t.ps.length:=by omega
   subst this
   simp only [Zal o2,Nat.zero_add,List.getElem?_cons_succ,List.getElem?_cons_zero,Zah]
   rw [List.take_length]
   refine Zau (fun hpos=>?_) (fun hneg=>?_)
   ·have hne:t.ps≠[]:=fun e=>by rw [e] at hpos; simp at hpos
    rw [if_neg hne] at htx hln
    refine ⟨by simp; simp at hln; omega,?_⟩
    apply Zhh.J9i
    exact ⟨by rw [htx],hSm⟩
   ·have hne:t.ps=[]:=List.eq_nil_of_length_eq_zero (by omega)
    rw [if_pos hne,List.append_nil] at htx
    apply Zhh.J9i
    exact ⟨by rw [htx],hSm⟩
end Go.Sim

set_option linter.unusedVariables false
namespace Go.Sim
open Go Go.RowKit Go.Maps Go.Sort Go.Shelf Go.Proofs
theorem Yqa (m:Nat):AnyZ.SortsIn Tryz.prog Tryz.sorted137_ren Fence.wide m:=
 ⟨fun blk off cap ss W hH hblk hsz=>callsIn_wide.2 (Tryz.slices_Sort_string blk off cap ss W hH hblk hsz),fun p cap W=>callsIn_wide.2 (Tryz.slices_Sort_string_none p cap W)⟩
theorem Yqu {h:Zaa} {m:Option Nat}:Zaj pg Zev [.map m] h fun v h'=>v=.fn Zem [.ptr (some (h.length,0))]∧h'=h ++ [.cells Zhd [.map m] false]:=
 Zaj.keys ⟨_,Tryz.func138,by kernel_rfl,by kernel_rfl⟩ (fun mb W=>callsIn_wide.1 (AnyZ.keys_in Tryz.keys138 Fence.wide 5 trivial rfl mb W))
set_option maxHeartbeats 1000000 in
theorem Zzl {h:Zaa} {i m:Nat} {es:List ME} {clk:Nat} (hi:h[i]?=some (.cells Zhd [.map (some m)] false)) (hm:h[m]?=some (.map es clk)) {vs:List Nat} (hks:es.map (·.1)=vs.map fun v=>.str [v]) (nd:vs.Nodup) (born:(es.map (·.2.2)).Nodup) (lt:∀ e∈es,e.2.2 < clk) (hl:es.length≤1048576) :
  Zaj pg Zlf [.fn Zem [.ptr (some (i,0))]] h fun v h'=>∃ us:List Nat,us.Perm vs∧us.Pairwise (·≤·)∧((us=[]∧v=.slice none 0 0 true∧h'=h) ∨ (∃ c,v=.slice (some (h.length,0)) us.length c false∧us.length≤c∧h'=h ++ [.cells Zbh (us.map fun v=>.str [v]) false])):=
 Zaj.sortedKeys (M:=Zhd) (K:=Zbh) Tryz.underlying9 (by kernel_rfl) ⟨_,Tryz.func137,by kernel_rfl,by kernel_rfl⟩
  (fun Bm b nn D0 R w hown hBm hcell hmax hbytes=>callsIn_wide.1 (by
   have hseq:SeqGives Fence.wide 2 Tryz.prog 158 #[.pointer (some ⟨Bm,0,none⟩)] encStr (fun ss=>ss.Perm (strKeys D0)) (Maps.size D0) w:=
    AnyZ.keys_gives (ρ:=Tryz.keys138_ren) { Tryz.keys138 with } Fence.wide _ trivial rfl (by omega) Bm b nn D0 w hBm hcell hown
   exact AnyZ.sorted_in Tryz.sorted137 Fence.wide 5 trivial trivial trivial trivial rfl (by omega) (Yqa _) (enters_of Tryz.func157 (by kernel_rfl) rfl) 158 #[.pointer (some ⟨Bm,0,none⟩)] trivial (enters_of Tryz.func158 (by kernel_rfl) rfl) _ _ hmax hbytes _ hseq))
  hi hm hks nd born lt hl
end Go.Sim

set_option linter.unusedSimpArgs false
set_option linter.unusedVariables false
namespace Go.Sim

abbrev Bd:=List (Nat × Ty)
def Zgn:Bd→Nat→Option Ty
 | [],_=>none
 | (v,t) :: m,x=>if v=x then some t else Zgn m x
def Zqg (m:Bd) (v:Nat) (t:Ty):Option Bd:=match Zgn m v with | some t'=>if t'=t then some m else none | none=>some (m ++ [(v,t)])
def matchT:Bd→Ty→Ty→Option Bd
 | m,.k c,t=>if Zdp c then Zqg m c t else if c=t.hd then some m else none
 | m,.u c a,t=>if c=t.hd then (match t.ps with | [x]=>matchT m a x | _=>none) else none
 | m,.w c a b,t=>if c=t.hd then (match t.ps with | [x,y]=>(match matchT m a x with | some m1=>matchT m1 b y | none=>none) | _=>none) else none
def matchL:Bd→List Ty→List Ty→Option Bd
 | m,[],_=>some m
 | m,a :: xs,[]=>none
 | m,a :: xs,t :: ys=>match matchT m a t with | some m1=>matchL m1 xs ys | none=>none
theorem Zri {a:Ty} (h:a.ok=true) (hv:Zdp a.hd=true):a=.k a.hd:=by
 cases a with
 | k c=>rfl
 | u c a=>simp only [Ty.ok,Bool.and_eq_true,Bool.or_eq_true,beq_iff_eq] at h; rcases h.1 with rfl | rfl <;> simp [Ty.hd,Zdp] at hv
 | w c a b=>simp only [Ty.ok,Bool.and_eq_true,beq_iff_eq] at h; rcases h.1.1 with rfl; simp [Ty.hd,Zdp] at hv
theorem Yhv {a t:Ty} (ha:a.ok=true) (ht:t.ok=true) (h:a.hd=t.hd):a.ps.length=t.ps.length:=by
 have h1:=Ty.ok_ar ha; have h2:=Ty.ok_ar ht
 rw [h,h2] at h1; omega
theorem Ydl {m:Bd} {a t:Ty} (ha:a.ok=true) (ht:t.ok=true) :
  matchT m a t=if Zdp a.hd then Zqg m a.hd t else if a.hd=t.hd then matchL m a.ps t.ps else none:=by
 cases a with
 | k c=>
  show matchT m (.k c) t=if Zdp c then Zqg m c t else if c=t.hd then matchL m [] t.ps else none
  rw [matchT,matchL]
 | u c a=>
  have hnv:Zdp c=false:=by
   cases h:Zdp c with
   | false=>rfl
   | true=>have:=Zri ha h; cases this
  show matchT m (.u c a) t=if Zdp c then Zqg m c t else if c=t.hd then matchL m [a] t.ps else none
  rw [matchT,hnv,if_neg (show ¬ (false=true) by decide)]
  by_cases h:c=t.hd
  ·have hl:1=t.ps.length:=Yhv ha ht h
   rw [if_pos h,if_pos h]
   match t.ps,hl with
   | [x],_=>simp only [matchL]; cases matchT m a x <;> rfl
  ·rw [if_neg h,if_neg h]
 | w c a b=>
  have hnv:Zdp c=false:=by
   cases h:Zdp c with
   | false=>rfl
   | true=>have:=Zri ha h; cases this
  show matchT m (.w c a b) t=if Zdp c then Zqg m c t else if c=t.hd then matchL m [a,b] t.ps else none
  rw [matchT,hnv,if_neg (show ¬ (false=true) by decide)]
  by_cases h:c=t.hd
  ·have hl:2=t.ps.length:=Yhv ha ht h
   rw [if_pos h,if_pos h]
   match t.ps,hl with
   | [x,y],_=>
    simp only [matchL]
    cases matchT m a x with
    | none=>rfl
    | some m1=>simp only []; cases matchT m1 b y <;> rfl
  ·rw [if_neg h,if_neg h]
theorem Ztk:∀ (xs ys:List Ty) (m:Bd) (g:Nat) (h1:g < xs.length) (h2:g < ys.length),matchL m (xs.take (g + 1)) (ys.take (g + 1))=match matchL m (xs.take g) (ys.take g) with | some m1=>matchT m1 xs[g] ys[g] | none=>none
 | a :: xs,t :: ys,m,0,_,_=>by
  simp only [List.take_succ_cons,List.take_zero,matchL,List.getElem_cons_zero]
  cases matchT m a t <;> rfl
 | a :: xs,t :: ys,m,g + 1,h1,h2=>by
  simp only [List.length_cons,Nat.add_lt_add_iff_right] at h1 h2
  simp only [List.take_succ_cons,matchL,List.getElem_cons_succ]
  cases hm:matchT m a t with
  | none=>rfl
  | some m1=>
   have:=Ztk xs ys m1 g h1 h2
   simpa only [List.take_succ_cons] using this
theorem Ztg:∀ (xs ys:List Ty) (m:Bd) (g:Nat),xs.length=ys.length→matchL m (xs.take g) (ys.take g)=none→matchL m xs ys=none
 | [],_,m,g,_,h=>by simp [matchL] at h
 | a :: xs,[],m,g,hl,h=>by simp at hl
 | a :: xs,t :: ys,m,0,_,h=>by simp [matchL] at h
 | a :: xs,t :: ys,m,g + 1,hl,h=>by
  simp only [List.take_succ_cons,matchL] at h ⊢
  cases hm:matchT m a t with
  | none=>rfl
  | some m1=>
   rw [hm] at h
   exact Ztg xs ys m1 g (by simpa using hl) h

structure BOk (n:Nat) (m:Bd):Prop where
 var:∀ p∈m,Zdp p.1=true∧p.2.ok=true∧p.2.txt.length≤n
 nd:(m.map (·.1)).Nodup
theorem Zsh:∀ {m:Bd} {v:Nat} {t:Ty},Zgn m v=some t→(v,t)∈m
 | (w,u) :: m,v,t,h=>by
  simp only [Zgn] at h
  split at h
  ·rename_i e; cases h; subst e; simp
  ·exact List.mem_cons_of_mem _ (Zsh h)
theorem Zun:∀ {m:Bd} {v:Nat},Zgn m v=none ↔ v ∉ m.map (·.1)
 | [],v=>by simp [Zgn]
 | (w,u) :: m,v=>by
  simp only [Zgn]
  by_cases e:w=v
  ·simp [e]
  ·simp only [e,if_false,Zun (m:=m),List.map_cons,List.mem_cons,not_or]
   exact ⟨fun h=>⟨fun e'=>e e'.symm,h⟩,fun h=>h.2⟩
theorem Yfl {m:Bd} {v:Nat}:(Zgn m v).isSome=true ↔ v∈m.map (·.1):=by
 cases h:Zgn m v with
 | none=>simp [Zun.1 h]
 | some t=>simp only [Option.isSome_some,true_iff]; exact List.mem_map.2 ⟨_,Zsh h,rfl⟩
theorem Yhl {m:Bd} {v x:Nat} {t:Ty}:Zgn (m ++ [(v,t)]) x=match Zgn m x with | some u=>some u | none=>if v=x then some t else none:=by
 induction m with
 | nil=>simp [Zgn]
 | cons p m ih=>
  obtain ⟨w,u⟩:=p
  simp only [List.cons_append,Zgn,ih]
  split <;> rfl
theorem BOk.nil {n:Nat}:BOk n []:=⟨by simp,by simp⟩
theorem BOk.note {n:Nat} {m m':Bd} {v:Nat} {t:Ty} (b:BOk n m) (hv:Zdp v=true) (ht:t.ok=true) (hn:t.txt.length≤n) (h:Zqg m v t=some m'):BOk n m':=by
 unfold Zqg at h
 split at h
 ·split at h
  ·cases h; exact b
  ·cases h
 ·rename_i hg
  cases h
  refine ⟨?_,?_⟩
  ·intro p hp
   rcases List.mem_append.1 hp with hp | hp
   ·exact b.var p hp
   ·simp at hp; subst hp; exact ⟨hv,ht,hn⟩
  ·rw [List.map_append,List.nodup_append]
   refine ⟨b.nd,by simp,?_⟩
   intro x hx y hy e
   simp at hy; subst hy; subst e
   exact Zun.1 hg hx
theorem Ybn {t x:Ty} (h:x∈t.ps):x.txt.length≤t.txt.length:=by
 cases t with
 | k c=>simp [Ty.ps] at h
 | u c a=>simp [Ty.ps] at h; subst h; simp [Ty.txt]; omega
 | w c a b=>simp [Ty.ps] at h; rcases h with rfl | rfl <;> simp [Ty.txt] <;> omega
theorem BOk.matchT {n:Nat}:∀ {a t:Ty} {m m':Bd},a.ok=true→t.ok=true→t.txt.length≤n→BOk n m→Go.Sim.matchT m a t=some m'→BOk n m'
 | .k c,t,m,m',ha,ht,hn,b,h=>by
  simp only [Go.Sim.matchT] at h
  split at h
  ·rename_i hv; exact b.note hv ht hn h
  ·split at h
   ·cases h; exact b
   ·cases h
 | .u c a,t,m,m',ha,ht,hn,b,h=>by
  simp only [Ty.ok,Bool.and_eq_true] at ha
  simp only [Go.Sim.matchT] at h
  split at h
  ·split at h
   ·rename_i x hx
    have hm:x∈t.ps:=by rw [hx]; simp
    exact BOk.matchT ha.2 (Ty.ok_ps ht x hm) (Nat.le_trans (Ybn hm) hn) b h
   ·cases h
  ·cases h
 | .w c a a2,t,m,m',ha,ht,hn,b,h=>by
  simp only [Ty.ok,Bool.and_eq_true] at ha
  simp only [Go.Sim.matchT] at h
  split at h
  ·split at h
   ·rename_i x y hx
    have hm:x∈t.ps:=by rw [hx]; simp
    have hm2:y∈t.ps:=by rw [hx]; simp
    split at h
    ·rename_i m1 h1
     exact BOk.matchT ha.2 (Ty.ok_ps ht y hm2) (Nat.le_trans (Ybn hm2) hn) (BOk.matchT ha.1.2 (Ty.ok_ps ht x hm) (Nat.le_trans (Ybn hm) hn) b h1) h
    ·cases h
   ·cases h
  ·cases h
theorem BOk.matchL {n:Nat}:∀ {xs ys:List Ty} {m m':Bd},(∀ a∈xs,a.ok=true)→(∀ t∈ys,t.ok=true∧t.txt.length≤n)→BOk n m→Go.Sim.matchL m xs ys=some m'→BOk n m'
 | [],_,m,m',_,_,b,h=>by simp [Go.Sim.matchL] at h; subst h; exact b
 | a :: xs,[],m,m',_,_,b,h=>by simp [Go.Sim.matchL] at h
 | a :: xs,t :: ys,m,m',ha,ht,b,h=>by
  simp only [Go.Sim.matchL] at h
  split at h
  ·rename_i m1 h1
   exact BOk.matchL (fun a h=>ha a (by simp [h])) (fun t h=>ht t (by simp [h])) (BOk.matchT (ha a (by simp)) (ht t (by simp)).1 (ht t (by simp)).2 b h1) h
  ·cases h
def bdL (m:Bd):List Nd:=Zei.filterMap fun v=>(Zgn m v).map fun t=>([v],t.txt)
noncomputable def Zkp (p s:List Nat):Option Bd:=match Zjg p,Zjg s with | some a,some b=>matchT [] a b | _,_=>none
noncomputable def Zqz (p s:List Nat):Bool:=(Zkp p s).isSome
noncomputable def Zkg (p s:List Nat):List Nd:=match Zkp p s with | some m=>bdL m | none=>[]
theorem Zyf {p s:List Nat} {m:Bd} (h:Zkp p s=some m):BOk 60 m:=by
 unfold Zkp at h
 split at h
 ·rename_i a b ha hb
  obtain ⟨h1,_,_⟩:=Zfn.1 ha
  obtain ⟨h2,h3,h4⟩:=Zfn.1 hb
  exact BOk.matchT h1 h2 (by rw [← h3]; exact h4) BOk.nil h
 ·cases h
theorem Zpw:Zei.Nodup:=by decide
theorem Zwc:Zei.Pairwise (· < ·):=by decide
theorem Yhj (m:Bd):bdL m=(Zei.filter fun v=>(Zgn m v).isSome).map fun v=>([v],((Zgn m v).getD default).txt):=by
 unfold bdL
 induction Zei with
 | nil=>rfl
 | cons v l ih=>
  simp only [List.filterMap_cons,List.filter_cons]
  cases h:Zgn m v with
  | none=>simpa [h] using ih
  | some t=>simp [h,ih]
theorem Ygq {n:Nat} {m:Bd} (b:BOk n m) {ks:List Nat} (hp:ks.Perm (m.map (·.1))) (hs:ks.Pairwise (·≤·)):ks=Zei.filter fun v=>(Zgn m v).isSome:=by
 have hnd:ks.Nodup:=hp.nodup_iff.2 b.nd
 have h1:ks.Pairwise (· < ·):=by
  have:=List.pairwise_and_iff.2 ⟨hs,hnd⟩
  exact this.imp fun h=>by have:=h.1; have:=h.2; omega
 have h2:(Zei.filter fun v=>(Zgn m v).isSome).Pairwise (· < ·):=Zwc.filter _
 have hp2:ks.Perm (Zei.filter fun v=>(Zgn m v).isSome):=by
  rw [List.perm_ext_iff_of_nodup hnd (Zpw.filter _)]
  intro v
  rw [hp.mem_iff,List.mem_filter,Yfl]
  constructor
  ·intro hv
   obtain ⟨p,hp,rfl⟩:=List.mem_map.1 hv
   exact ⟨(Zrg _).2 (b.var p hp).1,hv⟩
  ·exact fun h=>h.2
 exact hp2.eq_of_pairwise (fun a b _ _ h1 h2=>by omega) h1 h2
theorem Yjl {α:Type} {f:α→Bool} {l:List α} {g:Nat} (hg:g < l.length) (h:(l.take g).find? f=none) (k:f l[g]=true):l.find? f=some l[g]:=by
 have h1:l=l.take g ++ l[g] :: l.drop (g + 1):=by rw [← List.drop_eq_getElem_cons hg,List.take_append_drop]
 conv=>lhs; rw [h1]
 rw [List.find?_append,h,List.find?_cons,k]; rfl
theorem Zxo {α:Type} {f:α→Bool} {l:List α} {g:Nat} (hg:g < l.length) (h:(l.take g).find? f=none) (k:f l[g]=false):(l.take (g + 1)).find? f=none:=by
 rw [List.take_succ_eq_append_getElem hg,List.find?_append,h]; simp [k]
end Go.Sim

set_option linter.unusedVariables false
set_option linter.unusedSimpArgs false
set_option maxRecDepth 20000
namespace Go.Sim
open Go Go.RowKit

def Ymo (h:Zaa) (i:Nat) (m:Bd):Prop:=∃ es clk,h[i]?=some (.map es clk)∧es.map (·.1)=m.map (fun p=>Zat.str [p.1])∧es.map (·.2.1)=m.map (fun p=>Zat.str p.2.txt)∧(es.map (·.2.2)).Nodup∧∀ e∈es,e.2.2 < clk
theorem Ymo.eq {h h':Zaa} {i:Nat} {m:Bd} (r:Ymo h i m) (he:h'[i]?=h[i]?):Ymo h' i m:=by
 obtain ⟨es,clk,h1,x⟩:=r
 exact ⟨es,clk,by rw [he]; exact h1,x⟩
theorem Ymo.lt {h:Zaa} {i:Nat} {m:Bd} (r:Ymo h i m):i < h.length:=by obtain ⟨es,clk,h1,_⟩:=r; exact Own.lt h1
theorem Zsk:∀ {es:List ME} {m:Bd} {v k:Nat} {t:Ty},es.map (·.1)=m.map (fun p=>Zat.str [p.1])→es.map (·.2.1)=m.map (fun p=>Zat.str p.2.txt)→Zgn m v=some t→∃ j b,Zvi es [v] k=some (some (k + j,.str t.txt))∧es[j]?=some (.str [v],.str t.txt,b)
 | _,[],v,k,t,_,_,h=>by simp [Zgn] at h
 | [],p :: m,v,k,t,h,_,_=>by simp at h
 | (ek,ev,eb) :: es,(w,u) :: m,v,k,t,hk,hv,h=>by
  simp only [List.map_cons,List.cons.injEq] at hk hv
  obtain ⟨rfl,hk⟩:=hk
  obtain ⟨rfl,hv⟩:=hv
  simp only [Zgn] at h
  by_cases e:w=v
  ·rw [if_pos e] at h
   cases h; subst e
   exact ⟨0,eb,by simp [Zvi],rfl⟩
  ·rw [if_neg e] at h
   obtain ⟨j,b,h1,h2⟩:=Zsk (k:=k + 1) hk hv h
   have:¬ [v]=[w]:=fun x=>e (by simpa using x.symm)
   exact ⟨j + 1,b,by simp only [Zvi,this,if_false,h1]; rw [show k + 1 + j=k + (j + 1) by omega],h2⟩
theorem Zsf:∀ {es:List ME} {m:Bd} {v k:Nat},es.map (·.1)=m.map (fun p=>Zat.str [p.1])→Zgn m v=none→Zvi es [v] k=some none
 | [],[],v,k,_,_=>rfl
 | [],p :: m,v,k,h,_=>by simp at h
 | e :: es,[],v,k,h,_=>by simp at h
 | (ek,ev,eb) :: es,(w,u) :: m,v,k,hk,h=>by
  simp only [List.map_cons,List.cons.injEq] at hk
  obtain ⟨rfl,hk⟩:=hk
  simp only [Zgn] at h
  by_cases e:w=v
  ·rw [if_pos e] at h; cases h
  ·rw [if_neg e] at h
   have:¬ [v]=[w]:=fun x=>e (by simpa using x.symm)
   simp only [Zvi,this,if_false]
   exact Zsf hk h
theorem Zyr {α:Type} {f:α→α} {e:α}:∀ {l:List α} {j:Nat},l[j]?=some e→f e=e→l.modify j f=l
 | [],j,h,_=>by simp at h
 | a :: l,0,h,hf=>by simp at h; subst h; simp [hf]
 | a :: l,j + 1,h,hf=>by simp at h; simp [Zyr h hf]
theorem Yjc (c:Nat):Zkz [c]=Zdp c:=rfl
theorem Row.keepAt {i:Nat} {h h':Zaa} {a:Pt} {n:Nat} {cs:List Zat} (r:Row h.length h a n cs) (hne:∀ j o,n≠0→a=some (j,o)→j≠i) (k:Zec i h h'):Row h'.length h' a n cs:=by
 obtain ⟨hl,r⟩:=r
 by_cases h0:n=0
 ·exact ⟨hl,.inl h0⟩
 ·refine ⟨hl,r.imp id ?_⟩
  rintro ⟨j,o',t,all,ro,ha,hi,hg,x⟩
  have:=k.le
  exact ⟨j,o',t,all,ro,ha,by omega,by rw [k.eq j hi (hne j o' h0 ha)]; exact hg,x⟩
def Yvp (h:Zaa) (i:Nat) (r:Option Bd) (v:Zat) (h':Zaa):Prop:=Zec i h h'∧(match r with | some m'=>v=.bool true∧Ymo h' i m' | none=>v=.bool false)
theorem Yiq:∀ (N:Nat) {a t:Ty} {S:Nat→Prop} {h:Zaa} {p q:Pt} {i n:Nat} {m:Bd},a.size≤N→a.ok=true→t.ok=true→t.txt.length≤1048576→t.txt.length≤n→BOk n m→(∀ j,S j→j≠i)→Zsx S h a p→Zsx S h t q→Ymo h i m →
  Zaj pg Zio [.ptr p,.ptr q,.map (some i)] h (Yvp h i (matchT m a t))
 | 0,a,t,S,h,p,q,i,n,m,hN,_,_,_,_,_,_,_,_,_=>by have:=a.size_ps; omega
 | N + 1,a,t,S,h,p,q,i,n,m,hN,ha,ht,hB,hn,bo,hSi,ra,rt,rm=>by
  have hcase:=Ydl (m:=m) ha ht
  obtain ⟨ia,aa,ca,ea,qa,rfl,sia,hia,rowa,hSa,hqal,hqa⟩:=ra.parts
  obtain ⟨it,at',ct,et,qt,rfl,sit,hit,rowt,hSt,hqtl,hqt⟩:=id rt.parts
  have hps2:a.ps.length≤2:=by cases a <;> simp [Ty.ps]
  apply Zfe.call
  simp only [Zaw,Zal hia,Nat.zero_add,List.getElem?_cons_succ,List.getElem?_cons_zero,Zah,Zag]
  refine (Ybl [a.hd]).mono ?_
  rintro v h1 ⟨rfl,rfl⟩
  simp only [Zaq,Yjc]
  refine Zdu (fun hv=>?_) (fun hv=>?_)
  ·rw [hv] at hcase
   simp only [if_true] at hcase
   refine (Yom _ (Nat.le_refl _) hB rt).mono ?_
   rintro v h2 ⟨rfl,s2⟩
   have hia2:=s2.get hia (Own.lt hia)
   obtain ⟨es,clk,hm,hk,hvv,hb,hlt⟩:=id rm
   have hm2:=s2.get hm (Own.lt hm)
   have rm2:Ymo h2 i m:=rm.eq (s2.eq i (Own.lt hm))
   simp only [Zag,Zal hia2,List.getElem?_cons_succ,List.getElem?_cons_zero,Zif,hm2,Zzh]
   have K2:Zec i h1 h2:=⟨s2.le,fun j hj _=>s2.eq j hj⟩
   have hput:∀ r:Option Bd,(∀ (es':List ME) (k':Nat),Yox es clk [a.hd] (.str t.txt) (fun x y=>x=es'∧y=k')→Yvp h1 i r (.bool true) (h2.set i (.map es' k')))→Zfe.J6 (Yvp h1 i r) (some i) (some (ia,0)) t.txt h2:=by
    intro r hr
    apply Zfe.J6i
    simp only [Zaw,Zal hia2,Nat.zero_add,List.getElem?_cons_zero,Zag,xMp,Zif,hm2,Zax]
    unfold Yox at hr ⊢
    cases hg:Zgn m a.hd with
    | none=>
     rw [Zsf hk hg] at hr ⊢
     exact hr _ _ ⟨rfl,rfl⟩
    | some u=>
     obtain ⟨j,b,hf,_⟩:=Zsk (k:=0) hk hvv hg
     rw [hf] at hr ⊢
     exact hr _ _ ⟨rfl,rfl⟩
   have KS:∀ x,Zec i h1 (h2.set i x):=fun x=>K2.trans (Zec.set i h2 x)
   have hil:=Own.lt hm2
   cases hg:Zgn m a.hd with
   | none=>
    have hbn:Zqg m a.hd t=some (m ++ [(a.hd,t)]):=by unfold Zqg; rw [hg]
    rw [hbn] at hcase
    rw [hcase,Zsf hk hg]
    simp only [Option.getD_none,Zag,Option.isSome_none,Zbz]
    refine hput _ fun es' k' hp=>⟨KS _,rfl,?_⟩
    unfold Yox at hp
    rw [Zsf hk hg] at hp
    obtain ⟨rfl,rfl⟩:=hp
    refine ⟨_,_,List.getElem?_set_self hil,by simp [hk],by simp [hvv],?_,?_⟩
    ·rw [List.map_append,List.nodup_append]
     refine ⟨hb,by simp,?_⟩
     intro x hx y hy e
     simp at hy
     obtain ⟨z,hz,rfl⟩:=List.mem_map.1 hx
     have:=hlt z hz; omega
    ·intro e he
     rcases List.mem_append.1 he with he | he
     ·have:=hlt e he; omega
     ·simp at he; subst he; simp
   | some u=>
    obtain ⟨j,b,hf,hj⟩:=Zsk (k:=0) hk hvv hg
    rw [hf]
    simp only [Option.getD_some,Zag,Option.isSome_some,Zcp]
    have hu:u.ok=true ∨ True:=.inr trivial
    by_cases he:u=t
    ·subst he
     have hbn:Zqg m a.hd u=some m:=by unfold Zqg; rw [hg]; simp
     rw [hbn] at hcase
     rw [hcase]
     simp only [decide_true,Bool.not_true,Zbz]
     refine hput _ fun es' k' hp=>⟨KS _,rfl,?_⟩
     unfold Yox at hp
     rw [hf] at hp
     obtain ⟨rfl,rfl⟩:=hp
     rw [Nat.zero_add,Zyr hj rfl]
     exact ⟨es,clk,List.getElem?_set_self hil,hk,hvv,hb,hlt⟩
    ·have hu:=(bo.var _ (Zsh hg)).2.1
     have hne:¬ u.txt=t.txt:=fun e=>he (Ty.txt_inj' hu ht e)
     have hbn:Zqg m a.hd t=none:=by unfold Zqg; rw [hg]; simp [he]
     rw [hbn] at hcase
     rw [hcase]
     simp only [hne,decide_false,Bool.not_false,Zcp]
     exact ⟨K2,rfl⟩
  ·rw [hv] at hcase
   simp only [Bool.false_eq_true,if_false] at hcase
   simp only [Zaw,Zal hia,Zal hit,Nat.zero_add,List.getElem?_cons_succ,List.getElem?_cons_zero,Zah,Zag,true_and]
   refine Yaq (fun hne=>?_) (fun he=>?_)
   ·rw [if_neg (fun e=>hne (by rw [e]))] at hcase
    rw [hcase]
    exact ⟨Zec.refl _ _,rfl⟩
   ·have he':a.hd=t.hd:=by simpa using he
    rw [if_pos he'] at hcase
    rw [hcase]
    have hlen:=Yhv ha ht he'
    refine Zfe.L11ind _ _ _ _ _ _ _ _ (J:=fun (g:Nat) x54 h'=>x54=(g:Int)∧g≤a.ps.length∧Zec i h1 h'∧∃ m1,matchL m (a.ps.take g) (t.ps.take g)=some m1∧Ymo h' i m1) (fun g=>a.ps.length - g) ?_ 0 _ _ ⟨rfl,by omega,Zec.refl _ _,m,by simp [matchL],rm⟩
    rintro g x54 h' ⟨rfl,hg,hK,m1,hm1,rm1⟩ R hR
    unfold Zfe.L11t
    refine Zau (fun hlt=>?_) (fun hge=>?_)
    ·have hga:g < a.ps.length:=by omega
     have hgt:g < t.ps.length:=by omega
     have hit1:h'[it]?=some (.cells Zfh [.str [t.hd],.slice at' t.ps.length ct et,.ptr none] false):=by rw [hK.eq _ (Own.lt hit) (hSi _ sit)]; exact hit
     obtain ⟨ja,oa,rfl,_,hca⟩:=(rowa.keepAt (i:=i) (fun j o h0 e=>hSi j (hSa j o h0 e)) hK).at hga
     obtain ⟨jt,ot,rfl,_,hct⟩:=(rowt.keepAt (i:=i) (fun j o h0 e=>hSi j (hSt j o h0 e)) hK).at hgt
     have hqag:g < qa.length:=by omega
     have hqtg:g < qt.length:=by omega
     rw [List.getElem?_map,List.getElem?_eq_getElem hqag] at hca
     rw [List.getElem?_map,List.getElem?_eq_getElem hqtg] at hct
     simp only [Zaw,Int.toNat_natCast,Nat.mul_one,hca,hct,Option.map_some,Zeg,Zal hit1,Nat.zero_add,List.getElem?_cons_succ,List.getElem?_cons_zero,Zah]
     have hma:=List.getElem_mem hga
     have hmt:=List.getElem_mem hgt
     have h1:=Ty.size_part hma
     have h2:=Ty.len_part hmt
     have bo1:BOk n m1:=BOk.matchL (fun x hx=>Ty.ok_ps ha x (List.mem_of_mem_take hx)) (fun x hx=>⟨Ty.ok_ps ht x (List.mem_of_mem_take hx),by have:=Ty.len_part (List.mem_of_mem_take hx); omega⟩) bo hm1
     have htk:=Ztk a.ps t.ps m g hga hgt
     rw [hm1] at htk
     simp only at htk
     refine ⟨by omega,by omega,(Yiq N (by omega) (Ty.ok_ps ha _ hma) (Ty.ok_ps ht _ hmt) (by omega) (by omega) bo1 hSi ((hqa g _ _ (List.getElem?_eq_getElem hqag) (List.getElem?_eq_getElem hga)).keep fun j hj hl=>hK.eq j hl (hSi j hj)) ((hqt g _ _ (List.getElem?_eq_getElem hqtg) (List.getElem?_eq_getElem hgt)).keep fun j hj hl=>hK.eq j hl (hSi j hj)) rm1).mono ?_⟩
     rintro v h3 ⟨K3,hres⟩
     cases hmm:matchT m1 a.ps[g] t.ps[g] with
     | none=>
      rw [hmm] at hres htk
      subst hres
      simp only [Zaq,Bool.not_false,Zcp]
      rw [Ztg a.ps t.ps m (g + 1) hlen htk]
      exact ⟨hK.trans K3,rfl⟩
     | some m2=>
      rw [hmm] at hres htk
      obtain ⟨rfl,rm2⟩:=hres
      simp only [Zaq,Bool.not_true,Zbz]
      rw [Zbq (by omega)]
      exact hR (g + 1) _ _ (by omega) ⟨rfl,by omega,hK.trans K3,m2,htk,rm2⟩
    ·apply Zfe.A11x0i
     have:g=a.ps.length:=by omega
     subst this
     rw [List.take_length,hlen,List.take_length] at hm1
     rw [hm1]
     exact ⟨hK,rfl,rm1⟩
end Go.Sim

set_option linter.unusedVariables false
set_option linter.unusedSimpArgs false
set_option maxRecDepth 20000
namespace Go.Sim
open Go Go.RowKit

theorem Zxu:pg.underlying Zmi=some (.slice Zbl):=by kernel_rfl
theorem Ycz:pg.cellsOf Zbl=2:=by kernel_rfl
theorem Yct:pg.okElem Zbl=true:=by kernel_rfl
theorem Yeh:pg.bytesOf Zbl≤127:=Nat.le_of_ble_eq_true (by kernel_rfl)
theorem Vec.fresh {α:Type} {ty:TypeId} {enc:α→List Zat} {b:Nat} {h:Zaa} {a:Pt} {n c:Nat} {l:List α} (v:Vec ty h a n c (Zdg enc l)) (hn:n=l.length) (ha:∀ i,a=some (i,0)→b≤i):Zdd ty enc b h a n l:=by
 refine ⟨hn.symm,?_⟩
 rcases v with ⟨rfl,h0,_⟩ | ⟨i,rfl,hi⟩
 ·exact .inl h0
 ·exact .inr ⟨i,rfl,ha i rfl,hi⟩
theorem Ymf (m:Bd):(bdL m).length≤6:=by
 rw [Yhj,List.length_map]; exact Nat.le_trans (List.length_filter_le _ _) (by decide)
theorem Yfo {h:Zaa} {i:Nat} {m:Bd} (rm:Ymo h i m) (bo:BOk 60 m) :
  Zaj pg Znu [.map (some i)] h fun v h'=>Zba h.length h h'∧∃ a n c e,v=.slice a n c e∧n≤c∧Zdd Zbl eP h.length h' a n (bdL m):=by
 have hml:m.length≤6:=by
  have hp:(m.map (·.1)).Perm (Zei.filter fun v=>decide (v∈m.map (·.1))):=by
   rw [List.perm_ext_iff_of_nodup bo.nd (Zpw.filter _)]
   intro v
   rw [List.mem_filter]
   constructor
   ·intro hv
    obtain ⟨p,hp,rfl⟩:=List.mem_map.1 hv
    exact ⟨(Zrg _).2 (bo.var p hp).1,by simpa using hv⟩
   ·exact fun h=>by simpa using h.2
  have h1:=hp.length_eq
  have h2:=List.length_filter_le (fun v=>decide (v∈m.map (·.1))) Zei
  rw [List.length_map] at h1
  have h3:Zei.length=6:=rfl
  omega
 apply Zih.call
 simp only [Zax]
 generalize hh0:h ++ [Zby.cells Zbl [] false]=h0
 have s0:Zba h.length h h0:=by rw [← hh0]; exact Zam
 have l0:h0.length=h.length + 1:=by rw [← hh0]; simp
 have o0:h0[h.length]?=some (.cells Zbl [] false):=by rw [← hh0]; simp
 refine Yqu.mono ?_
 rintro v h2 ⟨rfl,hh2⟩
 simp only [Zzn]
 have s2:Zba h0.length h0 h2:=by rw [hh2]; exact Zam
 have hc2:h2[h0.length]?=some (.cells Zhd [.map (some i)] false):=by rw [hh2]; simp
 obtain ⟨es,clk,hm,hk,hvv,hb,hlt⟩:=id rm
 have S2:=s0.cat s2
 have hm2:=S2.get hm (Own.lt hm)
 have hel:es.length=m.length:=by have:=congrArg List.length hk; simpa using this
 refine (Zzl hc2 hm2 (vs:=m.map (·.1)) (by rw [hk,List.map_map]; rfl) bo.nd hb hlt (by omega)).mono ?_
 rintro v h3 ⟨us,hp,hsrt,hcase⟩
 have hus:=Ygq bo hp hsrt
 have hbd:bdL m=us.map fun v=>([v],((Zgn m v).getD default).txt):=by rw [Yhj,hus]
 have hul:us.length≤6:=by rw [hp.length_eq]; simpa using hml
 have hmem:∀ v∈us,∃ t,Zgn m v=some t:=fun v hv=>by
  rw [hus,List.mem_filter] at hv; exact Option.isSome_iff_exists.1 hv.2
 have hgen:∃ a c e,v=.slice a us.length c e∧Row h3.length h3 a us.length (us.map fun v=>Zat.str [v])∧Zba h2.length h2 h3:=by
  rcases hcase with ⟨rfl,rfl,rfl⟩ | ⟨c,rfl,hc,rfl⟩
  ·exact ⟨_,_,_,rfl,Row.nil,Zba.refl _ _⟩
  ·refine ⟨_,_,_,rfl,⟨by simp,.inr ⟨h2.length,0,Zbh,_,false,rfl,by simp,by simp; rfl,by simp,by rw [List.drop_zero,List.take_of_length_le (by simp)]⟩⟩,Zam⟩
 obtain ⟨a9,c9,e9,rfl,hrow,s3⟩:=hgen
 simp only [Zah]
 have S3:=S2.cat s3
 have hS3le:=S3.le
 have o3:h3[h.length]?=some (.cells Zbl [] false):=s3.get (s2.get o0 (Own.lt o0)) (by have:=Own.lt o0; have:=s2.le; omega)
 refine Zih.L3ind _ _ _ _ _ _ _ (J:=fun (g:Nat) a3 n3 c3 e3 x11 h'=>x11=(g:Int)∧g≤us.length∧Zba h.length h h'∧(∀ j,j < h3.length→j≠h.length→h'[j]?=h3[j]?)∧h3.length≤h'.length∧n3=g∧n3≤c3∧Vec Zbl h' a3 n3 c3 (Zdg eP ((bdL m).take g))∧(∀ i,a3=some (i,0)→i=h.length ∨ h3.length≤i)) (fun g=>us.length - g) ?_ 0 _ _ _ _ _ _
  ⟨rfl,by omega,S3,fun _ _ _=>rfl,Nat.le_refl _,rfl,Nat.le_refl _,Vec.mk1 (by simpa using o3),fun i hi=>by cases hi; exact .inl rfl⟩
 rintro g a3 n3 c3 e3 x11 h' ⟨rfl,hg,hSm,hK,hle3,rfl,hnc,hv,ha⟩ R hR
 unfold Zih.L3t
 have hbl:(bdL m).length=us.length:=by rw [hbd]; simp
 refine Zau (fun hlt=>?_) (fun hge=>?_)
 ·have hg':n3 < us.length:=by omega
  obtain ⟨j,o,rfl,hj,hc⟩:=hrow.at hg'
  rw [List.getElem?_map,List.getElem?_eq_getElem hg',Option.map_some] at hc
  -- the row of keys has not turned: it lies apart from the row of bindings
  have hjr:j≠h.length:=by
   rcases hcase with ⟨h0,_⟩ | ⟨c,hsl,_,_⟩
   ·rw [h0] at hg'; simp at hg'
   ·simp only [Zat.slice.injEq,Option.some.injEq,Prod.mk.injEq] at hsl
    have:=s2.le; omega
  have hc':Zae h' (.ptr (some (j,o + n3)))=some (.str [us[n3]]):=by
   rw [← hc]; simp only [Zae,hK j hj hjr]
  obtain ⟨t,ht⟩:=hmem _ (List.getElem_mem hg')
  have hm':=hSm.get hm (Own.lt hm)
  obtain ⟨jj,bb,hf,_⟩:=Zsk (k:=0) hk hvv ht
  simp only [Zaw,Int.toNat_natCast,Nat.mul_one,hc',Zag,Zif,hm',Zzh,hf,Option.getD_some,Zax]
  have htk:(bdL m).take (n3 + 1)=(bdL m).take n3 ++ [([us[n3]],t.txt)]:=by
   rw [List.take_succ_eq_append_getElem (by omega)]
   congr 2
   have:(bdL m)[n3]?=some ([us[n3]],t.txt):=by
    rw [hbd,List.getElem?_map,List.getElem?_eq_getElem hg',Option.map_some,ht,Option.getD_some]
   exact (List.getElem?_eq_some_iff.1 this).2
  refine ⟨by omega,?_⟩
  refine hv.pushN Zxu Ycz Yct Yeh (by rw [Zav Zcz,List.length_take]; omega) rfl (by omega) rfl (by omega) (fun h6 hl6 hi6 hk6=>?_)
  simp only [Zah]
  rw [Zbq (by omega)]
  have hle:=hSm.le
  have hb9:∀ i,a3=some (i,0)→h.length≤i:=fun i hi=>by rcases ha i hi with hh | hh <;> omega
  refine hR (n3 + 1) _ _ _ _ _ _ (by omega) ⟨rfl,by omega,⟨by omega,fun j hj=>?_⟩,fun j hj hne=>?_,by omega,rfl,Nat.le_refl _,Vec.mk1 ?_,fun i hi=>by cases hi; right; omega⟩
  ·rw [hk6 j (by omega) fun i hi=>by have:=hb9 i hi; omega]; exact hSm.eq j hj
  ·rw [hk6 j (by omega) fun i hi=>by rcases ha i hi with hh | hh <;> omega]; exact hK j hj hne
  ·rw [hi6,htk,Zii]; rfl
 ·apply Zih.A3x0i
  have:n3=us.length:=by omega
  subst this
  rw [show (bdL m).take us.length=bdL m from List.take_of_length_le (by omega)] at hv
  exact ⟨hSm,_,_,_,_,rfl,hnc,hv.fresh (b:=h.length) hbl.symm fun i hi=>by rcases ha i hi with hh | hh <;> omega⟩
def Yhd (p s:List Nat) (h:Zaa) (v:Zat) (h':Zaa):Prop:=Zba h.length h h'∧∃ a n c e,v=.tup [.slice a n c e,.bool (Zqz p s)]∧n≤c∧Zdd Zbl eP h.length h' a n (Zkg p s)
theorem Zwf (p s:List Nat) (h:Zaa):Zaj pg Zjo [.str p,.str s] h (Yhd p s h):=by
 apply Zmg.call
 refine (Zyq p h).mono ?_
 rintro v h1 ⟨s1,q1,rfl,r1⟩
 simp only [Zeg]
 refine (Zyq s h1).mono ?_
 rintro v h2 ⟨s2,q2,rfl,r2⟩
 simp only [Zeg,Zax]
 have S2:=s1.cat s2
 have s3:Zba h2.length h2 (h2 ++ [.map [] 0]):=Zam
 have S3:=S2.cat s3
 have no:Zkp p s=none→Yhd p s h (.tup [.slice none 0 0 true,.bool false]) (h2 ++ [.map [] 0]):=fun hn=>
  ⟨S3,none,0,0,true,by unfold Zqz; rw [hn]; rfl,Nat.le_refl _,by unfold Zkg; rw [hn]; exact ⟨rfl,.inl rfl⟩⟩
 cases hp:Zjg p with
 | none=>
  rw [hp] at r1; simp only at r1; subst r1
  simp only [Option.isNone_none,Zcp]
  exact no (by unfold Zkp; rw [hp])
 | some a=>
  rw [hp] at r1; simp only at r1
  obtain ⟨i1,rfl,b1,l1⟩:=r1.lt
  simp only [Option.isNone_some,Zbz]
  cases ht:Zjg s with
  | none=>
   rw [ht] at r2; simp only at r2; subst r2
   simp only [Option.isNone_none,Zcp]
   exact no (by unfold Zkp; rw [hp,ht])
  | some t=>
   rw [ht] at r2; simp only at r2
   obtain ⟨i2,rfl,b2,l2⟩:=r2.lt
   simp only [Option.isNone_some,Zbz]
   obtain ⟨ha1,ha2,ha3⟩:=Zfn.1 hp
   obtain ⟨ht1,ht2,ht3⟩:=Zfn.1 ht
   have hms:Zkp p s=matchT [] a t:=by unfold Zkp; rw [hp,ht]
   have hl1:=s1.le; have hl2:=s2.le
   have R1:=((r1.same s2).same s3).mono (S':=fun j=>j≠h2.length) (fun j hj=>by have:=hj.2; omega)
   have R2:=(r2.same s3).mono (S':=fun j=>j≠h2.length) (fun j hj=>by have:=hj.2; omega)
   have rm:Ymo (h2 ++ [.map [] 0]) h2.length []:=⟨[],0,by simp,rfl,rfl,by simp,by simp⟩
   refine (Yiq _ (Nat.le_refl _) ha1 ht1 (by rw [← ht2]; omega) (n:=60) (by rw [← ht2]; exact ht3) BOk.nil (fun j hj=>hj) R1 R2 rm).mono ?_
   rintro v h4 ⟨K4,hres⟩
   have S4:Zba h.length h h4:=⟨by have:=K4.le; have:=S3.le; omega,fun j hj=>by rw [K4.eq j (by have:=S3.le; omega) (by have:=S2.le; omega)]; exact S3.eq j hj⟩
   cases hm:matchT [] a t with
   | none=>
    rw [hm] at hres hms
    subst hres
    simp only [Zaq,Bool.not_false,Zcp]
    exact ⟨S4,none,0,0,true,by unfold Zqz; rw [hms]; rfl,Nat.le_refl _,by unfold Zkg; rw [hms]; exact ⟨rfl,.inl rfl⟩⟩
   | some m=>
    rw [hm] at hres hms
    obtain ⟨rfl,rm4⟩:=hres
    simp only [Zaq,Bool.not_true,Zbz]
    apply Zmg.J4i
    refine (Yfo rm4 (Zyf hms)).mono ?_
    rintro v h5 ⟨s5,a5,n5,c5,e5,rfl,hc5,f5⟩
    simp only [Zah]
    refine ⟨S4.cat s5,a5,n5,c5,e5,by unfold Zqz; rw [hms]; rfl,hc5,?_⟩
    unfold Zkg; rw [hms]
    exact ⟨f5.1,f5.2.imp id fun ⟨i,ha,hb,hi⟩=>⟨i,ha,by have:=S4.le; omega,hi⟩⟩
theorem Zup (p s:List Nat) (h:Zaa):Zaj pg Zit [.str p,.str s] h fun v h'=>v=.bool (Zqz p s)∧Zba h.length h h':=by
 apply Zoz.call
 refine (Zwf p s h).mono ?_
 rintro v h1 ⟨s1,a,n,c,e,rfl,_⟩
 simp only [Zci,Zaf,Zah,Zaq,Zao]
 exact ⟨by trivial,s1⟩
end Go.Sim

set_option linter.unusedSimpArgs false
set_option linter.unusedVariables false
namespace Go.Sim

noncomputable def Zrc (l:List Nd) (i:Nat):Bool:=Zkz (l.getD i ([],[])).1 && Zmr (l.getD i ([],[])).2 && (i == 0 || Zer (l.getD (i - 1) ([],[])).1 (l.getD i ([],[])).1)
noncomputable def Zic (l:List Nd):Bool:=(List.range l.length).all (Zrc l)
def Zzd (l:List Nd) (c:Nat):List Nat:=match l.find? fun p=>decide (p.1=[c]) with | some p=>p.2 | none=>[c]
def Zkt (l:List Nd) (t:List Nat):List Nat:=t.flatMap (Zzd l)
noncomputable def Zrr (l:List Nd) (c:Nat):Option Ty:=match l.find? fun p=>decide (p.1=[c]) with | some p=>Zjg p.2 | none=>none
noncomputable def subst (f:Nat→Option Ty):Ty→Ty
 | .k c=>(f c).getD (.k c)
 | .u c a=>.u c (subst f a)
 | .w c a b=>.w c (subst f a) (subst f b)
noncomputable def Zfs (l:List Nd) (t:List Nat):Option (List Nat):=if Zic l && Zmr t && decide ((Zkt l t).length≤60) then some (Zkt l t) else none
theorem Zyg {l:List Nd} (h:Zic l=true) {i:Nat} (hi:i < l.length):Zkz l[i].1=true∧Zmr l[i].2=true∧(i=0 ∨ Zer (l.getD (i - 1) ([],[])).1 l[i].1=true):=by
 unfold Zic at h
 rw [List.all_eq_true] at h
 have:=h i (List.mem_range.2 hi)
 unfold Zrc at this
 rw [Zfu hi] at this
 simp only [Bool.and_eq_true,Bool.or_eq_true,beq_iff_eq] at this
 exact ⟨this.1.1,this.1.2,this.2⟩
theorem Zrw {l:List Nd} (h:Zic l=true) {p:Nd} (hp:p∈l):Zkz p.1=true∧Zmr p.2=true:=by
 obtain ⟨i,hi,rfl⟩:=List.getElem_of_mem hp
 exact ⟨(Zyg h hi).1,(Zyg h hi).2.1⟩
theorem Zul {l:List Nd} (h:Zic l=true) {c:Nat} (hc:Zdp c=false):Zzd l c=[c]∧Zrr l c=none:=by
 have:l.find? (fun p=>decide (p.1=[c]))=none:=by
  rw [List.find?_eq_none]
  intro p hp e
  have:=(Zrw h hp).1
  rw [of_decide_eq_true e] at this
  simp [Zkz,hc] at this
 unfold Zzd Zrr
 rw [this]; exact ⟨rfl,rfl⟩
theorem Zvb {l:List Nd} (h:Zic l=true) (c:Nat):Zzd l c=((Zrr l c).getD (.k c)).txt∧∀ t,Zrr l c=some t→t.ok=true∧t.txt.length≤60:=by
 unfold Zzd Zrr
 cases hf:l.find? (fun p=>decide (p.1=[c])) with
 | none=>exact ⟨rfl,fun t ht=>by cases ht⟩
 | some p=>
  have hp:=List.mem_of_find?_eq_some hf
  obtain ⟨t,ht⟩:=Zts (Zrw h hp).2
  obtain ⟨h1,h2,h3⟩:=Zfn.1 ht
  simp only [ht]
  refine ⟨by simpa using h2,fun u hu=>?_⟩
  cases hu
  exact ⟨h1,by rw [← h2]; exact h3⟩
theorem Znn {l:List Nd} (h:Zic l=true) {c:Nat} (hc:Ydz c=true):Zzd l c=[c]:=by
 refine (Zul h ?_).1
 simp only [Ydz,Bool.or_eq_true,beq_iff_eq] at hc
 rcases hc with (rfl | rfl) | rfl <;> rfl
theorem Ysv {c:Nat} {a:Ty} (h:(Ty.u c a).ok=true):Zdp c=false:=by
 cases hv:Zdp c with
 | false=>rfl
 | true=>have:=Zri h hv; cases this
theorem Ysj {c:Nat} {a b:Ty} (h:(Ty.w c a b).ok=true):Zdp c=false:=by
 cases hv:Zdp c with
 | false=>rfl
 | true=>have:=Zri h hv; cases this
theorem Zpo {l:List Nd} (h:Zic l=true):∀ {t:Ty},t.ok=true→Zkt l t.txt=(subst (Zrr l) t).txt∧(subst (Zrr l) t).ok=true
 | .k c,ht=>by
  have:=Zvb h c
  simp only [Zkt,Ty.txt,List.flatMap_cons,List.flatMap_nil,List.append_nil,subst]
  refine ⟨this.1,?_⟩
  cases hb:Zrr l c with
  | none=>exact ht
  | some t=>exact (this.2 t hb).1
 | .u c a,ht=>by
  have hv:=Ysv ht
  have hh:=ht
  simp only [Ty.ok,Bool.and_eq_true] at ht
  have ih:=Zpo h ht.2
  simp only [Zkt] at ih
  simp only [Zkt,Ty.txt,List.flatMap_cons,List.flatMap_append,List.flatMap_nil,List.append_nil,subst,(Zul h hv).1,Znn h Ty.m40,Znn h Ty.m41,ih.1,List.cons_append,List.nil_append]
  refine ⟨by trivial,?_⟩
  simp only [Ty.ok,Bool.and_eq_true]; exact ⟨ht.1,ih.2⟩
 | .w c a b,ht=>by
  have hv:=Ysj ht
  simp only [Ty.ok,Bool.and_eq_true] at ht
  have ih:=Zpo h ht.1.2
  have ih2:=Zpo h ht.2
  simp only [Zkt] at ih ih2
  simp only [Zkt,Ty.txt,List.flatMap_cons,List.flatMap_append,List.flatMap_nil,List.append_nil,subst,(Zul h hv).1,Znn h Ty.m40,Znn h Ty.m41,Znn h Ty.m44,ih.1,ih2.1,List.cons_append,List.nil_append]
  refine ⟨by trivial,?_⟩
  simp only [Ty.ok,Bool.and_eq_true]; exact ⟨⟨ht.1.1,ih.2⟩,ih2.2⟩
theorem Zyk (a b:Nat):Zer [a] [b]=decide (a < b):=by
 simp [Zer]
theorem Ykc {m:Bd} (b:BOk 60 m):Zic (bdL m)=true:=by
 rw [Yhj]
 generalize hvs:(Zei.filter fun v=>(Zgn m v).isSome)=vs
 have hs:vs.Pairwise (· < ·):=by rw [← hvs]; exact Zwc.filter _
 have hm:∀ v∈vs,Zdp v=true∧∃ t,Zgn m v=some t:=by
  intro v hv
  rw [← hvs,List.mem_filter] at hv
  exact ⟨(Zrg v).1 hv.1,Option.isSome_iff_exists.1 hv.2⟩
 unfold Zic
 rw [List.all_eq_true]
 intro i hi
 rw [List.mem_range,List.length_map] at hi
 unfold Zrc
 rw [Zfu (by simpa using hi),List.getElem_map]
 obtain ⟨h1,t,h2⟩:=hm _ (List.getElem_mem hi)
 have h3:=b.var _ (Zsh h2)
 simp only [h2,Option.getD_some,Zkz,h1,Bool.true_and,Bool.and_eq_true,Bool.or_eq_true,beq_iff_eq]
 refine ⟨Zsl.2 ⟨t,h3.2.1,rfl,h3.2.2⟩,?_⟩
 cases i with
 | zero=>exact .inl rfl
 | succ j=>
  right
  rw [Nat.add_sub_cancel,Zfu (by simp; omega),List.getElem_map,Zyk]
  exact decide_eq_true (List.pairwise_iff_getElem.1 hs j (j + 1) (by omega) hi (by omega))
noncomputable def Zhb (i:Ins) (t:List Nat):Option (List Nd):=
 match Zkp i.1.2 t with
 | none=>none
 | some m=>if i.2.all fun n=>(Zfs (bdL m) n.2).isSome then some (i.2.map fun n=>(n.1,Zkt (bdL m) n.2)) else none
end Go.Sim

set_option linter.unusedVariables false
set_option linter.unusedSimpArgs false
set_option maxRecDepth 20000
namespace Go.Sim
open Go Go.RowKit

theorem Zzz {k:Nat} (h0:0 < k) (hn:k≤9223372036854775807):IntKind.wrap .i64 ((k:Int) - 1)=((k - 1:Nat):Int):=by rw [IntWalk.i64_in _ (by omega)]; omega
theorem Zwo {h:Zaa} {a:Pt} {n c:Nat} {e:Bool} {l:List Nd} (r:Row h.length h a (n * 2) (Zdg eP l)) (hn:n≤1048576) :
  Zaj pg Ziy [.slice a n c e] h fun v h'=>v=.bool (Zic l)∧Zba h.length h h':=by
 have hl:l.length=n:=by have:=r.1; rw [Zav Zcz] at this; omega
 apply Zel.call
 refine Zel.L2ind _ _ _ _ _ _ _ _ _ _ (J:=fun (g:Nat) x7 h'=>x7=(g:Int)∧g≤n∧Zba h.length h h'∧(List.range g).all (Zrc l)=true) (fun g=>n - g) ?_ 0 _ _ ⟨rfl,by omega,Zba.refl _ _,rfl⟩
 rintro g x7 h' ⟨rfl,hg,hS,hk⟩ R hR
 unfold Zel.L2t
 refine Zau (fun hlt=>?_) (fun hge=>?_)
 ·obtain ⟨i,o,hgl,rfl,hi,hr,_,_⟩:=(r.same hS).pr (k:=g) (by omega)
  have hat:Zrc l g=(Zkz l[g].1 && Zmr l[g].2 && (g == 0 || Zer (l.getD (g - 1) ([],[])).1 l[g].1)):=by unfold Zrc; rw [Zfu hgl]
  have no:Zrc l g=false→Zic l=false:=fun hno=>Zko hgl hno
  simp only [Zaw,Int.toNat_natCast,hr,Zap,Zaf,Zao,Zag,Zax]
  rw [Zgb]
  generalize hq:h' ++ [Zby.cells Zbl [.str l[g].1,.str l[g].2] false]=hq'
  have sq:Zba h'.length h' hq':=by rw [← hq]; exact Zam
  have oq:hq'[h'.length]?=some (.cells Zbl [.str l[g].1,.str l[g].2] false):=by rw [← hq]; simp
  simp only [Zar,Zal oq,Nat.zero_add,List.getElem?_cons_succ,List.getElem?_cons_zero,Zag]
  refine ⟨by omega,(Ybl l[g].1).mono ?_⟩
  rintro v h2 ⟨rfl,rfl⟩
  have Sq:=hS.cat sq
  simp only [Zaq,true_and]
  refine Zbs (fun b1=>⟨by rw [no (by rw [hat,b1]; rfl)],Sq⟩) (fun b1=>?_)
  simp only [Zal oq,List.getElem?_cons_succ,List.getElem?_cons_zero,Zag]
  refine (Zmb l[g].2 h2).mono ?_
  rintro v h3 ⟨rfl,s3⟩
  simp only [Zaq]
  have S3:=Sq.cat s3
  refine Zbs (fun b2=>⟨by rw [no (by rw [hat,b1,b2]; rfl)],S3⟩) (fun b2=>?_)
  have go:(g=0 ∨ Zer (l.getD (g - 1) ([],[])).1 l[g].1=true)→Zel.J6 (fun v h'=>v=.bool (Zic l)∧Zba h.length h h') R (g:Int) (((n:Nat):Int)) (some (i,o)) n c e (some (i,o)) n c e h3:=by
   intro hz
   apply Zel.J6i
   rw [Zbq (by omega)]
   refine hR (g + 1) _ _ (by omega) ⟨rfl,by omega,S3,Zhp hk ?_⟩
   rw [hat,b1,b2]
   rcases hz with rfl | hz
   ·rfl
   ·rw [hz]; simp
  refine Zau (fun hpos=>?_) (fun hz=>go (.inl (by omega)))
  have hg0:0 < g:=by omega
  obtain ⟨i',o',hgl',he,_,_,hc',_⟩:=(r.same S3).pr (k:=g - 1) (by omega)
  cases he
  rw [Zzz hg0 (by omega)]
  simp only [Zaw,Int.toNat_natCast,Nat.add_zero,hc',Zal (s3.get oq (Own.lt oq)),List.getElem?_cons_zero,Zag,true_and]
  have hgd:l.getD (g - 1) ([],[])=l[g - 1]:=Zfu hgl'
  refine ⟨by omega,Zbs (fun b3=>⟨by rw [no (by rw [hat,b1,b2,hgd,b3]; simp; omega)],S3⟩) (fun b3=>go (.inr (by rw [hgd]; exact b3)))⟩
 ·apply Zel.A2x0i
  have:g=n:=by omega
  subst this
  exact ⟨by unfold Zic; rw [hl,hk],hS⟩
theorem Yua {s:List Nat} {g:Nat} (hg:g < s.length):sub s (g:Int) (((g + 1:Nat):Int))=[s[g]]:=by
 unfold sub
 rw [Int.toNat_natCast,Int.toNat_natCast,List.take_succ_eq_append_getElem hg,List.drop_append_of_le_length (by simp; omega),List.drop_of_length_le (by simp; omega)]; rfl
theorem Ydb {l:List Nd} (h:Zic l=true) (c:Nat):(Zzd l c).length≤60:=by
 obtain ⟨h1,h2⟩:=Zvb h c
 rw [h1]
 cases hb:Zrr l c with
 | none=>simp [Ty.txt]
 | some t=>exact (h2 t hb).2
theorem Zvc {l:List Nd} (h:Zic l=true):∀ (t:List Nat),(Zkt l t).length≤60 * t.length
 | []=>by simp [Zkt]
 | c :: t=>by
  have h1:=Ydb h c
  have h2:=Zvc h t
  simp only [Zkt,List.flatMap_cons,List.length_append,List.length_cons] at h2 ⊢
  omega
theorem Ygj {l:List Nd} {t:List Nat} {g:Nat} (hg:g < t.length):Zkt l (t.take (g + 1))=Zkt l (t.take g) ++ Zzd l t[g]:=by
 unfold Zkt; rw [List.take_succ_eq_append_getElem hg,List.flatMap_append]; simp
noncomputable def Zni (l:List Nd) (t:List Nat):Zat:=match Zfs l t with | some u=>.tup [.str u,.bool true] | none=>.tup [.str [],.bool false]
theorem Zwp {h:Zaa} {a:Pt} {n c:Nat} {e:Bool} {l:List Nd} {t:List Nat} (r:Row h.length h a (n * 2) (Zdg eP l)) (hn:n≤1048576) :
  Zaj pg Zjc [.slice a n c e,.str t] h fun v h'=>v=Zni l t∧Zba h.length h h':=by
 have hl:l.length=n:=by have:=r.1; rw [Zav Zcz] at this; omega
 apply Zdj.call
 refine (Zwo r hn).mono ?_
 rintro v h1 ⟨rfl,s1⟩
 simp only [Zaq]
 refine Zbs (fun b1=>⟨by unfold Zni Zfs; rw [b1]; rfl,s1⟩) (fun b1=>?_)
 refine (Zmb t h1).mono ?_
 rintro v h2 ⟨rfl,s2⟩
 simp only [Zaq]
 have S2:=s1.cat s2
 refine Zbs (fun b2=>⟨by unfold Zni Zfs; rw [b1,b2]; rfl,S2⟩) (fun b2=>?_)
 have ht60:=Zwq b2
 apply Zdj.J3i
 refine Zdj.L5ind _ _ _ _ _ _ _ (J:=fun (g:Nat) x6 x21 h'=>x21=(g:Int)∧g≤t.length∧Zba h.length h h'∧x6=Zkt l (t.take g)) (fun g=>t.length - g) ?_ 0 _ _ _ ⟨rfl,by omega,S2,by simp [Zkt]⟩
 rintro g x6 x21 h' ⟨rfl,hg,hS,rfl⟩ R hR
 unfold Zdj.L5t
 refine Zau (fun hlt=>?_) (fun hge=>?_)
 ·have hgt:g < t.length:=by omega
  rw [Zbq (by omega),Yua hgt]
  refine ⟨⟨by omega,by omega,by omega⟩,?_⟩
  have hal:=Zvc b1 (t.take g)
  rw [List.length_take] at hal
  have fin:∀ (h3:Zaa) (x8:List Nat),Zba h.length h h3→x8=Zzd l t[g]→Zdj.A9x2 (fun v h'=>v=Zni l t∧Zba h.length h h') R (Zkt l (t.take g)) x8 (g:Int) (((t.length:Nat):Int)) t a n c e h3:=by
   intro h3 x8 s3 hx
   apply Zdj.A9x2i
   have:=Ydb b1 t[g]
   rw [hx,Zbq (by omega)]
   exact ⟨by omega,hR (g + 1) _ _ _ (by omega) ⟨rfl,by omega,s3,(Ygj hgt).symm⟩⟩
  refine Zdj.L9ind _ _ _ _ _ _ _ _ _ _ _ _ _ _ _ (J:=fun (q:Nat) x8 x31 h3=>x31=(q:Int)∧q≤n∧Zba h.length h h3∧x8=[t[g]]∧(l.take q).find? (fun p=>decide (p.1=[t[g]]))=none) (fun q=>n - q) ?_ 0 _ _ _ ⟨rfl,by omega,hS,rfl,rfl⟩
  rintro q x8 x31 h3 ⟨rfl,hq,hS3,rfl,hf⟩ R9 hR9
  unfold Zdj.L9t
  refine Zau (fun hlt3=>?_) (fun hge3=>?_)
  ·obtain ⟨i,o,hql,rfl,hi,hr,_,_⟩:=(r.same hS3).pr (k:=q) (by omega)
   simp only [Zaw,Int.toNat_natCast,hr,Zap,Zaf,Zao,Zag,Zax]
   rw [Zgb]
   have sq:Zba h3.length h3 (h3 ++ [Zby.cells Zbl [.str l[q].1,.str l[q].2] false]):=Zam
   simp only [Zar,Zfg,Nat.zero_add,List.getElem?_cons_succ,List.getElem?_cons_zero,Zag]
   refine ⟨by omega,Zau (fun he=>?_) (fun he=>?_)⟩
   ·refine fin _ _ (hS3.cat sq) ?_
    unfold Zzd
    rw [Yjl hql hf (by simp [he])]
   ·rw [Zbq (by omega)]
    exact hR9 (q + 1) _ _ _ (by omega) ⟨rfl,by omega,hS3.cat sq,rfl,Zxo hql hf (by simp [he])⟩
  ·have:q=n:=by omega
   subst this
   rw [List.take_of_length_le (by omega)] at hf
   exact fin _ _ hS3 (by unfold Zzd; rw [hf])
 ·apply Zdj.A5x0i
  have:g=t.length:=by omega
  subst this
  rw [List.take_length]
  refine Zau (fun hbig=>⟨?_,hS⟩) (fun hsm=>⟨?_,hS⟩)
  ·unfold Zni Zfs
   rw [if_neg (by simp; omega)]
  ·unfold Zni Zfs
   rw [if_pos (by rw [b1,b2]; simp; omega)]
def Yoo (i:Ins) (t:List Nat) (h:Zaa) (v:Zat) (h':Zaa):Prop:=Zba h.length h h'∧∃ a n c e,v=.tup [.slice a n c e,.bool (Zhb i t).isSome]∧Zdd Zab eP h.length h' a n ((Zhb i t).getD [])
theorem Ycg:pg.underlying Zbm=some (.slice Zab):=by kernel_rfl
theorem Ylt:pg.cellsOf Zab=2:=by kernel_rfl
theorem Ymm:pg.okElem Zab=true:=by kernel_rfl
theorem Ynu:pg.bytesOf Zab≤127:=Nat.le_of_ble_eq_true (by kernel_rfl)
noncomputable def Yru (l:List Nd) (n:Nd):Nd:=(n.1,(Zfs l n.2).getD [])
theorem Yhs {l:List Nd} {ns:List Nd} (h:ns.all (fun n=>(Zfs l n.2).isSome)=true):ns.map (Yru l)=ns.map fun n=>(n.1,Zkt l n.2):=by
 apply List.map_congr_left
 intro n hn
 have:=List.all_eq_true.1 h n hn
 obtain ⟨u,hu⟩:=Option.isSome_iff_exists.1 this
 unfold Yru
 rw [hu]
 unfold Zfs at hu
 split at hu
 ·cases hu; rfl
 ·cases hu
theorem Yhf {h:Zaa} {a:Pt} {n c:Nat} {e:Bool} {i:Ins} {t:List Nat} (r:Row h.length h a (n * 2) (Zdg eP i.2)) (hn:n≤1048576) :
  Zaj pg Zgl [.agg [.str i.1.1,.str i.1.2,.slice a n c e],.str t] h (Yoo i t h):=by
 have hl:i.2.length=n:=by have:=r.1; rw [Zav Zcz] at this; omega
 apply Zds.call
 simp only [Zax]
 generalize hh0:h ++ [Zby.cells Zac [.str i.1.1,.str i.1.2,.slice a n c e] false]=h0
 have s0:Zba h.length h h0:=by rw [← hh0]; exact Zam
 have o0:h0[h.length]?=some (.cells Zac [.str i.1.1,.str i.1.2,.slice a n c e] false):=by rw [← hh0]; simp
 simp only [Zal o0,Nat.zero_add,List.getElem?_cons_succ,List.getElem?_cons_zero,Zag]
 refine (Zwf i.1.2 t h0).mono ?_
 rintro v h1 ⟨s1,ma,mn,mc,me,rfl,hmc,fm⟩
 simp only [Zci,Zaf,Zah,Zaq,Zao]
 generalize hh2:h1 ++ [Zby.cells Zab [] false]=h2
 have s2:Zba h1.length h1 h2:=by rw [← hh2]; exact Zam
 have o2:h2[h1.length]?=some (.cells Zab [] false):=by rw [← hh2]; simp
 have S2:=(s0.cat s1).cat s2
 have hml:(Zkg i.1.2 t).length≤6:=by unfold Zkg; split <;> first | exact Ymf _ | simp
 have hmn:=fm.1
 have x2:=s2.get (s1.get o0 (Own.lt o0)) (by have:=Own.lt o0; have:=s1.le; omega)
 simp only [Zal x2,List.getElem?_cons_succ,List.getElem?_cons_zero,Zah]
 have hS1le:h.length≤h1.length:=(s0.cat s1).le
 generalize hml':Zkg i.1.2 t=ml at *
 refine Zds.L4ind _ _ _ _ _ _ _ _ _ _ (J:=fun (g:Nat) x7 a8 n8 c8 e8 x25 h'=>x25=(g:Int)∧g≤n∧Zba h.length h h'∧h1.length < h'.length∧Row h'.length h' ma (mn * 2) (Zdg eP ml)∧x7=(Zqz i.1.2 t && (i.2.take g).all fun p=>(Zfs ml p.2).isSome)∧n8=g∧Vec Zab h' a8 n8 c8 (Zdg eP ((i.2.take g).map (Yru ml)))∧(∀ j,a8=some (j,0)→h1.length≤j)) (fun g=>n - g) ?_ 0 _ _ _ _ _ _ _
  ⟨rfl,by omega,S2,Own.lt o2,(fm.row Zcz).same' s2,by simp,rfl,Vec.mk1 (by simpa using o2),fun j hj=>by cases hj; omega⟩
 rintro g x7 a8 n8 c8 e8 x25 h' ⟨rfl,hg,hS,hlt1,hrm,rfl,rfl,hv,ha⟩ R hR
 unfold Zds.L4t
 refine Zau (fun hlt=>?_) (fun hge=>?_)
 ·obtain ⟨j,o,hgl,rfl,hj,hr,_,_⟩:=(r.same hS).pr (k:=n8) (by omega)
  simp only [Zaw,Int.toNat_natCast,hr,Zap,Zaf,Zao,Zag,Zax]
  rw [Zgb]
  generalize hq:h' ++ [Zby.cells Zab [.str i.2[n8].1,.str i.2[n8].2] false]=hq'
  have sq:Zba h'.length h' hq':=by rw [← hq]; exact Zam
  have oq:hq'[h'.length]?=some (.cells Zab [.str i.2[n8].1,.str i.2[n8].2] false):=by rw [← hq]; simp
  simp only [Zar,Zal oq,Nat.zero_add,List.getElem?_cons_succ,List.getElem?_cons_zero,Zag]
  refine ⟨by omega,(Zwp (hrm.same' sq) (by omega)).mono ?_⟩
  rintro v h3 ⟨rfl,s3⟩
  have hshape:Zni ml i.2[n8].2=.tup [.str ((Zfs ml i.2[n8].2).getD []),.bool (Zfs ml i.2[n8].2).isSome]:=by
   unfold Zni; cases Zfs ml i.2[n8].2 <;> rfl
  rw [hshape]
  simp only [Zci,Zaf,Zag,Zaq,Zao]
  have S3:=(hS.cat sq).cat s3
  have o3:=s3.get oq (Own.lt oq)
  have tk:(i.2.take (n8 + 1)).all (fun p=>(Zfs ml p.2).isSome)=((i.2.take n8).all (fun p=>(Zfs ml p.2).isSome) && (Zfs ml i.2[n8].2).isSome):=by
   rw [List.take_succ_eq_append_getElem hgl,List.all_append]; simp
  have go:∀ b9,b9=(Zqz i.1.2 t && (i.2.take (n8 + 1)).all fun p=>(Zfs ml p.2).isSome)→Zds.J8 (Yoo i t h) R a8 n8 c8 e8 h'.length 0 ((Zfs ml i.2[n8].2).getD []) (n8:Int) (((n:Nat):Int)) (some (j,o)) n c e ma mn mc me b9 h3:=by
   intro b9 hb9
   apply Zds.J8i
   simp only [Zal o3,Nat.zero_add,List.getElem?_cons_zero,Zag,Zax]
   refine ((hv.same sq).same s3).pushN Ycg Ylt Ymm Ynu (by rw [Zav Zcz]; simp; omega) rfl (by omega) rfl (by omega) (fun h6 hl6 hi6 hk6=>?_)
   simp only [Zah]
   apply Zds.J9i
   rw [Zbq (by omega)]
   have hle:=S3.le
   refine hR (n8 + 1) _ _ _ _ _ _ _ (by omega) ⟨rfl,by omega,⟨by omega,fun j hj=>?_⟩,by have:=sq.le; have:=s3.le; omega,?_,hb9,rfl,Vec.mk1 ?_,fun j hj=>by cases hj; have:=sq.le; have:=s3.le; omega⟩
   ·rw [hk6 j (by omega) fun q hq=>by have:=ha q hq; omega]; exact S3.eq j hj
   ·have hr3:=(hrm.same' sq).same' s3
    obtain ⟨hx1,hx2⟩:=hr3
    rcases fm.2 with h0 | ⟨q2,hq2,_,hq3⟩
    ·exact ⟨hx1,.inl (by omega)⟩
    ·refine ⟨hx1,hx2.imp id ?_⟩
     rintro ⟨q,o',ty,all,ro,hqa,hqb,hqg,hq4,hq5⟩
     refine ⟨q,o',ty,all,ro,hqa,by omega,?_,hq4,hq5⟩
     rw [hk6 q hqb fun q' hq'=>?_]
     ·exact hqg
     ·intro e
      subst e
      have h1l:=ha q hq'
      rw [hqa] at hq2; cases hq2
      have:=Own.lt hq3; omega
   ·rw [hi6,List.take_succ_eq_append_getElem hgl,List.map_append,Zii]; rfl
  refine Zdu (fun hb=>go _ (by rw [tk,← Bool.and_assoc,hb]; rfl)) (fun hb=>go _ (by rw [tk,← Bool.and_assoc,hb]; rfl))
 ·apply Zds.A4x0i
  have:n8=n:=by omega
  subst this
  rw [show i.2.take n8=i.2 from List.take_of_length_le (by omega)] at hv ⊢
  have hnw:Zhb i t=if Zqz i.1.2 t && i.2.all (fun p=>(Zfs ml p.2).isSome) then some (i.2.map (Yru ml)) else none:=by
   unfold Zhb Zqz
   unfold Zkg at hml'
   cases hm:Zkp i.1.2 t with
   | none=>rfl
   | some m=>
    rw [hm] at hml'
    simp only at hml'
    subst hml'
    simp only [Option.isSome_some,Bool.true_and]
    by_cases hall:i.2.all (fun p=>(Zfs (bdL m) p.2).isSome)=true
    ·rw [if_pos hall,if_pos hall,Yhs hall]
    ·rw [if_neg hall,if_neg hall]
  refine Zbs (fun hb=>?_) (fun hb=>?_)
  ·have:Zhb i t=none:=by rw [hnw,hb]; rfl
   exact ⟨hS,none,0,0,true,by rw [this]; rfl,by rw [this]; exact ⟨rfl,.inl rfl⟩⟩
  ·have:Zhb i t=some (i.2.map (Yru ml)):=by rw [hnw,hb]; rfl
   refine ⟨hS,a8,n8,c8,e8,by rw [this]; rfl,?_⟩
   rw [this]
   exact hv.fresh (b:=h.length) (by simp; omega) fun j hj=>by have:=ha j hj; omega
end Go.Sim
