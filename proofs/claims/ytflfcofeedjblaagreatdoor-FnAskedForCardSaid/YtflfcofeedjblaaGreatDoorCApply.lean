/- A part of the proof of a statement of this seat: see the text that holds the theorem. No condition. -/
import Derived.Test.YtflfcofeedjblaaGreatDoorPTCWVal
import Derived.Test.YtflfcofeedjblaaGreatDoorCWVar2
import Derived.Test.YtflfcofeedjblaaGreatDoorNm
import Derived.Test.YtflfcofeedjblaaGreatDoorCSTy
import Derived.Test.YtflfcofeedjblaaGreatDoorSimX
import Derived.Test.YtflfcofeedjblaaGreatDoorShelf
set_option linter.unusedVariables false
set_option linter.unusedSimpArgs false
set_option linter.all false
set_option linter.unusedVariables false
set_option linter.unusedSimpArgs false
set_option maxRecDepth 20000
namespace Go.Sim
open Go Go.RowKit

structure WB (w:Wd):Prop where
 lc:w.cs.length≤1048576
 li:w.is.length≤1048576
 cs:∀ p∈w.cs,p.1.length≤1048576∧p.2.length≤1048576∧∀ b∈p.1,b < 256
 is:∀ i∈w.is,i.1.1.length≤1048576∧i.1.2.length≤1048576∧i.2.length≤1048576∧∀ p∈i.2,p.1.length≤1048576∧p.2.length≤1048576
def Zlu (a0:Pt) (n0 c0:Nat) (e0:Bool) (a1:Pt) (n1 c1:Nat) (e1:Bool):Zcb:=.cells Zac [.slice a0 n0 c0 e0,.slice a1 n1 c1 e1] false
theorem Zth {h:Zaa} {j:Nat} {a0 a1:Pt} {n0 c0 n1 c1:Nat} {e0 e1:Bool} (hj:h[j]?=some (Zlu a0 n0 c0 e0 a1 n1 c1 e1)):Zbe h (.ptr (some (j,0))) 2=some [.slice a0 n0 c0 e0,.slice a1 n1 c1 e1]:=by
 rw [Zew (show h[j]?=some (.cells Zac [.slice a0 n0 c0 e0,.slice a1 n1 c1 e1] false) from hj) (by simp)]; rfl
theorem Zra {h:Zaa} {j o:Nat} {a0 a1:Pt} {n0 c0 n1 c1:Nat} {e0 e1:Bool} (hj:h[j]?=some (Zlu a0 n0 c0 e0 a1 n1 c1 e1)):Zag h (.ptr (some (j,o)))=([.slice a0 n0 c0 e0,.slice a1 n1 c1 e1]:List Zay)[o]?:=Zan (show h[j]?=some (.cells Zac [.slice a0 n0 c0 e0,.slice a1 n1 c1 e1] false) from hj)
theorem Zbc.get {b:Nat} {h h':Zaa} {j:Nat} {x:Zcb} (s:Zbc b h h') (hj:h[j]?=some x) (hb:j < b):h'[j]?=some x:=by rw [s.eq j hb]; exact hj
theorem Zbc.cat {h h1 h2:Zaa} (a:Zbc h.length h h1) (b:Zbc h1.length h1 h2):Zbc h.length h h2:=a.trans (b.mono a.le)

theorem Zzn {h:Zaa} {t:TypeId} {x y:Zay}:Zbe (h ++ [.cells t [x,y] false]) (.ptr (some (h.length,0))) 2=some [x,y]:=Yhg rfl
theorem Yxw {h:Zaa} {t:TypeId} {x y z:Zay}:Zbe (h ++ [.cells t [x,y,z] false]) (.ptr (some (h.length,0))) 3=some [x,y,z]:=Yhg rfl
theorem Ykk {h:Zaa} {a0 a1 a2:Pt} {n0 c0 n1 c1 n2 c2 j:Nat} {e0 e1 e2:Bool} {w:Wd} {ns:List Nd} {ct tt:List Nat} (r:Zkr h a0 n0 c0 a1 n1 c1 w) (b:WB w) (hj:h[j]?=some (Zlu a0 n0 c0 e0 a1 n1 c1 e1))
  (r2:Row h.length h a2 (n2 * 2) (Zdb eP ns)) (hn2:n2≤1048576) (hns:∀ p∈ns,p.2.length≤1048576) (htt:tt.length≤1048576) :
  Zak pg Zct [.agg [.str ct,.str tt,.slice a2 n2 c2 e2],.ptr (some (j,0))] h fun v h'=>v=.bool (!Zoz w.cs ((ct,tt),ns))∧Zbc h.length h h':=by
 apply Znc.call
 simp only [Zaw]
 have s1:Zbc h.length h (h ++ [.cells Zad [.str ct,.str tt,.slice a2 n2 c2 e2] false]):=Zal
 rw [Zth (s1.get hj (Own.lt hj)),Yxw]
 simp only [Zao,Zae,Zam,Zaj,Zah]
 have hlc:=b.lc
 have hl0:=r.len0
 refine (Zzp (r.cls.same' s1) r.le0 (by omega) (fun p hp=>(b.cs p hp).2.1) (r2.same' s1) hn2 hns htt).mono ?_
 rintro v h2 ⟨rfl,s2⟩
 simp only [Zaq]
 exact ⟨by trivial,s1.cat s2⟩
theorem Yjb {h:Zaa} {a0 a1:Pt} {n0 c0 n1 c1 j:Nat} {e0 e1:Bool} {w:Wd} (r:Zkr h a0 n0 c0 a1 n1 c1 w) (b:WB w) (hj:h[j]?=some (Zlu a0 n0 c0 e0 a1 n1 c1 e1)) :
  Zak pg Zdx [.slice a1 n1 c1 e1,.fn Zct [.ptr (some (j,0))]] h fun v h'=>(∃ z:Int,v=.int .i64 z∧decide (z ≥ 0)=!w.is.all (Zoz w.cs))∧Zbc h.length h h':=by
 have hl:=r.len1
 have hli:=b.li
 apply Zbr.call
 refine Zbr.L2ind _ _ _ _ _ _ _ (J:=fun (g:Nat) x8 h'=>x8=(g:Int)∧g≤n1∧Zbc h.length h h'∧(w.is.take g).all (Zoz w.cs)=true) (fun g=>n1 - g) ?_ 0 _ _ ⟨rfl,by omega,Zbc.refl _ _,rfl⟩
 rintro g x8 h' ⟨rfl,hg,hS,hk⟩ R hR
 unfold Zbr.L2t
 refine Zar (fun hlt=>?_) (fun hge=>?_)
 ·obtain ⟨i,o,hgl,a2,n2,c2,e2,rfl,_,hr,_,_,_,hrow,hn⟩:=(r.same hS).inst (k:=g) (by omega)
  simp only [Zau,Int.toNat_natCast,hr,Zao,Zae,Zam,Zah,Zaj]
  have hb:=b.is _ (List.getElem_mem hgl)
  refine ⟨by omega,(Ykk (r.same hS) b (hS.get hj (Own.lt hj)) hrow (by omega) (fun p hp=>(hb.2.2.2 p hp).2) hb.2.1).mono ?_⟩
  rintro v h2 ⟨rfl,s2⟩
  simp only [Zaq]
  have hS2:=hS.cat s2
  refine Zbs (fun he=>?_) (fun he=>?_)
  ·exact ⟨⟨_,rfl,by rw [Zqz hgl he]; simp⟩,hS2⟩
  ·rw [Zbm (by omega)]
   exact hR (g + 1) _ _ (by omega) ⟨rfl,by omega,hS2,Zgp hgl hk he⟩
 ·apply Zbr.A2x0i
  have:g=n1:=by omega
  subst this
  rw [List.take_of_length_le (by omega)] at hk
  exact ⟨⟨_,rfl,by rw [hk]; rfl⟩,hS⟩
theorem Zsk {h:Zaa} {a0 a1:Pt} {n0 c0 n1 c1:Nat} {e0 e1:Bool} {w:Wd} (r:Zkr h a0 n0 c0 a1 n1 c1 w) (b:WB w) :
  Zak pg Zid [.agg [.slice a0 n0 c0 e0,.slice a1 n1 c1 e1]] h fun v h'=>v=.bool (Zcz w)∧Zbc h.length h h':=by
 have hl0:=r.len0
 have hl1:=r.len1
 have hlc:=b.lc
 apply Zrg.call
 simp only [Zaw]
 generalize hh0:h ++ [Zcb.cells Zac [.slice a0 n0 c0 e0,.slice a1 n1 c1 e1] false]=h0
 have s0:Zbc h.length h h0:=by rw [← hh0]; exact Zal
 have w0:h0[h.length]?=some (Zlu a0 n0 c0 e0 a1 n1 c1 e1):=by rw [← hh0]; simp [Zlu]
 rw [Zth w0]
 simp only [Zao,Zae,Zam,Zaj]
 refine (Zzh (r.cls.same' s0) r.le0 (by omega) (fun p hp=>(b.cs p hp).2.1)).mono ?_
 rintro v h2 ⟨rfl,s2⟩
 have S2:=s0.cat s2
 have w2:=s2.get w0 (Own.lt w0)
 simp only [Zaq]
 refine Zdj (fun b1=>?_) (fun b1=>⟨by unfold Zcz; rw [b1]; rfl,S2⟩)
 simp only [Zra w2,Nat.zero_add,List.getElem?_cons_succ,List.getElem?_cons_zero,Zaj]
 refine Zar (fun b2=>?_) (fun b2=>⟨by unfold Zcz; rw [b1]; simp [show ¬ w.is.length≤10 by omega],S2⟩)
 apply Zdc.call
 refine (Yjb (r.same S2) b w2).mono ?_
 rintro v h3 ⟨⟨z,rfl,hz⟩,s3⟩
 simp only [Zax,Zaq]
 refine ⟨?_,S2.cat s3⟩
 rw [hz,Bool.not_not]
 unfold Zcz
 rw [b1]; simp [show w.is.length≤10 by omega]
theorem Zkw {h:Zaa} {a0 a1:Pt} {n0 c0 n1 c1:Nat} {e0 e1:Bool} {w:Wd} (r:Zkr h a0 n0 c0 a1 n1 c1 w) (b:WB w) :
  Zak pg Zgk [.agg [.slice a0 n0 c0 e0,.slice a1 n1 c1 e1]] h fun v h'=>v=.bool (Zcz w)∧Zbc h.length h h':=by
 have hl0:=r.len0
 have hl1:=r.len1
 have hlc:=b.lc
 have hli:=b.li
 apply Zic.call
 simp only [Zaw]
 generalize hh0:h ++ [Zcb.cells Zac [.slice a0 n0 c0 e0,.slice a1 n1 c1 e1] false]=h0
 have s0:Zbc h.length h h0:=by rw [← hh0]; exact Zal
 have w0:h0[h.length]?=some (Zlu a0 n0 c0 e0 a1 n1 c1 e1):=by rw [← hh0]; simp [Zlu]
 simp only [Zra w0,Nat.zero_add,List.getElem?_cons_succ,List.getElem?_cons_zero,Zaj]
 refine Zic.L2ind _ _ _ _ _ _ _ _ (J:=fun (g:Nat) x8 h'=>x8=(g:Int)∧g≤n1∧Zbc h0.length h0 h'∧(w.is.take g).all (Zoz w.cs)=true) (fun g=>n1 - g) ?_ 0 _ _ ⟨rfl,by omega,Zbc.refl _ _,rfl⟩
 rintro g x8 h' ⟨rfl,hg,hS,hk⟩ R hR
 have SS:=s0.cat hS
 have w1:=hS.get w0 (Own.lt w0)
 unfold Zic.L2t
 refine Zar (fun hlt=>?_) (fun hge=>?_)
 ·obtain ⟨i,o,hgl,a2,n2,c2,e2,rfl,_,hr,_,_,_,hrow,hn⟩:=(r.same SS).inst (k:=g) (by omega)
  simp only [Zau,Int.toNat_natCast,hr,Zao,Zae,Zam,Zah,Zaj,Zaw]
  rw [Yyw]
  generalize hq:h' ++ [Zcb.cells Zad [.str w.is[g].1.1,.str w.is[g].1.2,.slice a2 n2 c2 e2] false]=hq'
  have sq:Zbc h'.length h' hq':=by rw [← hq]; exact Zal
  simp only [Zas]
  rw [Zth (sq.get w1 (Own.lt w1)),← hq,Yxw,hq]
  simp only [Zao,Zae,Zam,Zah,Zaj]
  have hb:=b.is _ (List.getElem_mem hgl)
  have Sq:=SS.cat sq
  refine ⟨by omega,(Zyk (r.cls.same' Sq) r.le0 (by omega) (fun p hp=>(b.cs p hp).2.1) (fun p hp=>(b.cs p hp).2.2) (hrow.same' sq) (by omega) (fun p hp=>(hb.2.2.2 p hp).2) hb.2.1).mono ?_⟩
  rintro v h2 ⟨rfl,s2⟩
  simp only [Zaq]
  refine Zbs (fun he=>?_) (fun he=>?_)
  ·exact ⟨by unfold Zcz; rw [Zqz hgl he]; simp,Sq.cat s2⟩
  ·rw [Zbm (by omega)]
   exact hR (g + 1) _ _ (by omega) ⟨rfl,by omega,(hS.cat sq).cat s2,Zgp hgl hk he⟩
 ·apply Zic.A2x0i
  have:g=n1:=by omega
  subst this
  rw [List.take_of_length_le (by omega)] at hk
  simp only [Zra w1,Nat.zero_add,List.getElem?_cons_zero,Zaj]
  refine (Zyx (r.cls.same' SS) r.le0 (by omega) (fun p hp=>(b.cs p hp).2.1) (fun p hp=>(b.cs p hp).2.2)).mono ?_
  rintro v h2 ⟨rfl,s2⟩
  simp only [Zaq]
  have w2:=s2.get w1 (Own.lt w1)
  refine Zdj (fun b1=>?_) (fun b1=>⟨by unfold Zcz; rw [b1]; rfl,SS.cat s2⟩)
  simp only [Zra w2,Nat.zero_add,List.getElem?_cons_succ,List.getElem?_cons_zero,Zaj]
  refine ⟨?_,SS.cat s2⟩
  unfold Zcz
  rw [b1,hk]; congr 1; rw [Bool.eq_iff_iff]; simp; omega
theorem Yak {h:Zaa} {a0 a1:Pt} {n0 c0 n1 c1:Nat} {e0 e1:Bool} {w:Wd} {ct tt:List Nat} (r:Zkr h a0 n0 c0 a1 n1 c1 w) (b:WB w) :
  Zak pg Zmj [.agg [.slice a0 n0 c0 e0,.slice a1 n1 c1 e1],.agg [.str ct,.str tt]] h fun v h'=>v=.bool (Zdq w (ct,tt))∧Zbc h.length h h':=by
 have hl0:=r.len0
 have hlc:=b.lc
 apply Zws.call
 simp only [Zaw]
 generalize hh0:h ++ [Zcb.cells Zac [.slice a0 n0 c0 e0,.slice a1 n1 c1 e1] false]=h0
 generalize hh1:h0 ++ [Zcb.cells Zab [.str ct,.str tt] false]=h1
 have s0:Zbc h.length h h0:=by rw [← hh0]; exact Zal
 have s1:Zbc h0.length h0 h1:=by rw [← hh1]; exact Zal
 have w0:h0[h.length]?=some (Zlu a0 n0 c0 e0 a1 n1 c1 e1):=by rw [← hh0]; simp [Zlu]
 have w1:=s1.get w0 (Own.lt w0)
 have i1:h1[h0.length]?=some (.cells Zab [.str ct,.str tt] false):=by rw [← hh1]; simp
 simp only [Zra w1,Zan i1,Nat.zero_add,List.getElem?_cons_zero,List.getElem?_cons_succ,Zaj,Zah]
 refine (Zxk (r.cls.same' (s0.cat s1)) (by omega)).mono ?_
 rintro v h2 ⟨rfl,s2⟩
 simp only [Zaq]
 have i2:=s2.get i1 (Own.lt i1)
 refine Zdj (fun b1=>?_) (fun b1=>⟨by unfold Zdq; rw [b1]; rfl,(s0.cat s1).cat s2⟩)
 simp only [Zan i2,Nat.zero_add,List.getElem?_cons_zero,List.getElem?_cons_succ,Zaj,Zah]
 refine (Zny tt h2).mono ?_
 rintro v h3 ⟨rfl,s3⟩
 simp only [Zaq]
 exact ⟨by unfold Zdq; rw [b1]; rfl,((s0.cat s1).cat s2).cat s3⟩
theorem Yhj (cs:List Nd) (c:List Nat):decide (Yay cs c ≥ 0)=Zgg cs c:=by
 unfold Yay; cases h:Zgg cs c <;> simp
theorem Ysr {h:Zaa} {a0 a1:Pt} {n0 c0 n1 c1:Nat} {e0 e1:Bool} {w:Wd} {ct tt:List Nat} (r:Zkr h a0 n0 c0 a1 n1 c1 w) (b:WB w) (ht:tt.length≤1048576) :
  Zak pg Zsm [.agg [.slice a0 n0 c0 e0,.slice a1 n1 c1 e1],.agg [.str ct,.str tt]] h fun v h'=>v=.bool (Zdq w (ct,tt))∧Zbc h.length h h':=by
 have hl0:=r.len0
 have hlc:=b.lc
 apply Zwr.call
 simp only [Zaw]
 generalize hh0:h ++ [Zcb.cells Zac [.slice a0 n0 c0 e0,.slice a1 n1 c1 e1] false]=h0
 generalize hh1:h0 ++ [Zcb.cells Zab [.str ct,.str tt] false]=h1
 have s0:Zbc h.length h h0:=by rw [← hh0]; exact Zal
 have s1:Zbc h0.length h0 h1:=by rw [← hh1]; exact Zal
 have w0:h0[h.length]?=some (Zlu a0 n0 c0 e0 a1 n1 c1 e1):=by rw [← hh0]; simp [Zlu]
 have w1:=s1.get w0 (Own.lt w0)
 have i1:h1[h0.length]?=some (.cells Zab [.str ct,.str tt] false):=by rw [← hh1]; simp
 rw [Zth w1]
 simp only [Zao,Zae,Zam,Zan i1,Nat.zero_add,List.getElem?_cons_zero,List.getElem?_cons_succ,Zaj,Zah]
 refine (Znl (r.cls.same' (s0.cat s1)) (by omega)).mono ?_
 rintro v h2 ⟨rfl,s2⟩
 simp only [Zax,Yhj]
 have i2:=s2.get i1 (Own.lt i1)
 refine Zdj (fun b1=>?_) (fun b1=>⟨by unfold Zdq; rw [b1]; rfl,(s0.cat s1).cat s2⟩)
 simp only [Zan i2,Nat.zero_add,List.getElem?_cons_zero,List.getElem?_cons_succ,Zaj,Zah]
 refine (Zkc tt (by omega) h2).mono ?_
 rintro v h3 ⟨rfl,s3⟩
 simp only [Zaq]
 exact ⟨by unfold Zdq; rw [b1]; rfl,((s0.cat s1).cat s2).cat s3⟩
theorem Zud {h:Zaa} {a0 a1:Pt} {n0 c0 n1 c1:Nat} {e0 e1:Bool} {w:Wd} {ct tt:List Nat} (r:Zkr h a0 n0 c0 a1 n1 c1 w) (b:WB w) (ht:tt.length≤1048576) :
  Zak pg Ziv [.agg [.slice a0 n0 c0 e0,.slice a1 n1 c1 e1],.agg [.str ct,.str tt]] h fun v h'=>v=.bool (Zcz w && Zdq w (ct,tt))∧Zbc h.length h h':=by
 apply Zsv.call
 simp only [Zaw]
 generalize hh0:h ++ [Zcb.cells Zac [.slice a0 n0 c0 e0,.slice a1 n1 c1 e1] false]=h0
 generalize hh1:h0 ++ [Zcb.cells Zab [.str ct,.str tt] false]=h1
 have s0:Zbc h.length h h0:=by rw [← hh0]; exact Zal
 have s1:Zbc h0.length h0 h1:=by rw [← hh1]; exact Zal
 have w0:h0[h.length]?=some (Zlu a0 n0 c0 e0 a1 n1 c1 e1):=by rw [← hh0]; simp [Zlu]
 have w1:=s1.get w0 (Own.lt w0)
 have i1:h1[h0.length]?=some (.cells Zab [.str ct,.str tt] false):=by rw [← hh1]; simp
 rw [Zth w1]
 simp only [Zao,Zae,Zam,Zaj]
 refine (Zkw (r.same (s0.cat s1)) b).mono ?_
 rintro v h2 ⟨rfl,s2⟩
 simp only [Zaq]
 have i2:=s2.get i1 (Own.lt i1)
 have w2:=s2.get w1 (Own.lt w1)
 refine Zdj (fun b1=>?_) (fun b1=>⟨by rw [b1]; rfl,(s0.cat s1).cat s2⟩)
 rw [Zth w2,Zew i2 (by simp)]
 simp only [List.drop_zero,List.take_succ_cons,List.take_zero,Zao,Zae,Zam,Zaj,Zah]
 refine (Ysr (r.same ((s0.cat s1).cat s2)) b ht).mono ?_
 rintro v h3 ⟨rfl,s3⟩
 simp only [Zaq]
 exact ⟨by rw [b1]; rfl,((s0.cat s1).cat s2).cat s3⟩
end Go.Sim

set_option linter.unusedVariables false
set_option linter.unusedSimpArgs false
set_option maxRecDepth 20000
namespace Go.Sim
open Go Go.RowKit

end Go.Sim

set_option linter.unusedVariables false
set_option linter.unusedSimpArgs false
set_option maxRecDepth 20000
namespace Go.Sim
open Go Go.RowKit
end Go.Sim

set_option linter.unusedVariables false
set_option linter.unusedSimpArgs false
set_option maxRecDepth 20000
namespace Go.Sim
open Go Go.RowKit

def isz (i:Ins):Nat:=i.1.1.length + i.1.2.length + (i.2.length + Yro i.2)
def Yvk (l:List Ins):Nat:=(l.map isz).sum
def wsz (w:Wd):Nat:=w.cs.length + Yro w.cs + (w.is.length + Yvk w.is)
theorem Ypr {l:List Ins} {g:Nat} (h:g < l.length):Yvk (l.take (g + 1))=Yvk (l.take g) + isz l[g]:=by
 unfold Yvk; rw [List.take_succ_eq_append_getElem h,List.map_append,List.sum_append]; simp
theorem Yic (l:List Ins) (g:Nat):Yvk (l.take g)≤Yvk l:=by
 conv=>rhs; rw [← List.take_append_drop g l]
 unfold Yvk; rw [List.map_append,List.sum_append]; omega
theorem Yuk {l:List Ins} {g:Nat} (h:g < l.length):isz l[g]≤Yvk l:=by
 have:=Ypr h; have:=Yic l (g + 1); omega
def Yud (n:Nat):Prop:=n≤9223372036854775807
structure Xbx (w:Wd):Prop where
 lc:Yud w.cs.length
 li:Yud w.is.length
 cs:∀ p∈w.cs,Yud p.1.length∧Yud p.2.length∧∀ b∈p.1,b < 256
 is:∀ i∈w.is,Yud i.1.1.length∧Yud i.1.2.length∧Yud i.2.length∧∀ p∈i.2,Yud p.1.length∧Yud p.2.length
theorem WB.of {w:Wd} (b:Xbx w) (h:wsz w≤1048576):WB w:=by
 have h1:∀ p∈w.cs,p.1.length + p.2.length≤Yro w.cs:=fun p hp=>by
  obtain ⟨k,hk,rfl⟩:=List.mem_iff_getElem.1 hp; exact Ymu hk
 have h2:∀ i∈w.is,isz i≤Yvk w.is:=fun p hp=>by
  obtain ⟨k,hk,rfl⟩:=List.mem_iff_getElem.1 hp; exact Yuk hk
 unfold wsz at h
 refine ⟨by omega,by omega,fun p hp=>⟨by have:=h1 p hp; omega,by have:=h1 p hp; omega,(b.cs p hp).2.2⟩,fun i hi=>?_⟩
 have:=h2 i hi
 unfold isz at this
 refine ⟨by omega,by omega,by omega,fun p hp=>?_⟩
 have h3:p.1.length + p.2.length≤Yro i.2:=by obtain ⟨k,hk,rfl⟩:=List.mem_iff_getElem.1 hp; exact Ymu hk
 omega
theorem Zpb {h:Zaa} {i:Nat} {t:TypeId} {x y z:Zay} {ro:Bool} (hi:h[i]?=some (.cells t [x,y,z] ro)):Zbe h (.ptr (some (i,0))) 3=some [x,y,z]:=by
 rw [Zew hi (by simp)]; rfl
theorem Zbc.set' {b i:Nat} {h h1:Zaa} {x:Zcb} (s:Zbc b h h1) (hi:b≤i):Zbc b h (h1.set i x):=⟨by simp; exact s.le,fun j hj=>by rw [Zbw (by omega)]; exact s.eq j hj⟩
theorem Zds.keep {α:Type} {ty:TypeId} {enc:α→List Zay} {b b':Nat} {h h':Zaa} {a:Pt} {n:Nat} {l:List α} (f:Zds ty enc b h a n l) (hb:b'≤b) (hk:∀ i,b≤i→i < h.length→h'[i]?=h[i]?):Zds ty enc b' h' a n l:=
 ⟨f.1,f.2.imp id fun ⟨i,ha,hbi,hi⟩=>⟨i,ha,by omega,by rw [hk i hbi (Own.lt hi)]; exact hi⟩⟩
end Go.Sim

set_option linter.unusedVariables false
set_option linter.unusedSimpArgs false
set_option maxRecDepth 20000
namespace Go.Sim
open Go Go.RowKit

theorem Zaz {h:Zaa} {i:Nat} {t:TypeId} {x y:Zay} {ro:Bool} (hi:h[i]?=some (.cells t [x,y] ro)):Zbe h (.ptr (some (i,0))) 2=some [x,y]:=by
 rw [Zew hi (by simp)]; rfl
end Go.Sim

set_option linter.unusedVariables false
set_option linter.unusedSimpArgs false
set_option maxRecDepth 20000
namespace Go.Sim
open Go Go.RowKit

theorem Ty.size_ps (t:Ty):t.size=1 + (t.ps.map Ty.size).sum:=by cases t <;> simp [Ty.size,Ty.ps] <;> omega
theorem Zji.same {S:Nat→Prop} {h h':Zaa} (s:Zbc h.length h h'):∀ {t:Ty} {v:List Zay},Zji S h t v→Zji S h' t v
 | .k d,_,h=>h
 | .u d x,_,⟨j,c,e,r,hv,sj,hj,hr⟩=>⟨j,c,e,r,hv,sj,s.get hj (Own.lt hj),hr.same s⟩
 | .w d x y,_,⟨j,c,e,r,r',hv,sj,hj,hr,hr'⟩=>⟨j,c,e,r,r',hv,sj,s.get hj (Own.lt hj),hr.same s,hr'.same s⟩
end Go.Sim

set_option linter.unusedVariables false
set_option linter.unusedSimpArgs false
set_option maxRecDepth 20000
namespace Go.Sim
open Go Go.RowKit

theorem Vec.lt' {ty:TypeId} {h:Zaa} {a:Pt} {i n c:Nat} {cs:List Zay} (x:Vec ty h a n c cs) (e:a=some (i,0)):i < h.length:=by subst e; exact x.lt
theorem Zvu.keep {S:Nat→Prop} {h h':Zaa} (hh:∀ j,S j→j < h.length→h'[j]?=h[j]?):∀ {t:Ty} {p:Pt},Zvu S h t p→Zvu S h' t p
 | .k d,p,⟨i,a,c,e,hp,si,hi⟩=>⟨i,a,c,e,hp,si,by rw [hh i si (Own.lt hi)]; exact hi⟩
 | .u d x,p,⟨i,j,c,e,q,hp,si,hi,sj,hj,hq⟩=>⟨i,j,c,e,q,hp,si,by rw [hh i si (Own.lt hi)]; exact hi,sj,by rw [hh j sj (Own.lt hj)]; exact hj,hq.keep hh⟩
 | .w d x y,p,⟨i,j,c,e,q,r,hp,si,hi,sj,hj,hq,hr⟩=>⟨i,j,c,e,q,r,hp,si,by rw [hh i si (Own.lt hi)]; exact hi,sj,by rw [hh j sj (Own.lt hj)]; exact hj,hq.keep hh,hr.keep hh⟩
theorem Zvu.same {S:Nat→Prop} {h h':Zaa} {t:Ty} {p:Pt} (r:Zvu S h t p) (s:Zbc h.length h h'):Zvu S h' t p:=r.keep fun j _ hj=>s.eq j hj
theorem Zji.keep {S:Nat→Prop} {h h':Zaa} (hh:∀ j,S j→j < h.length→h'[j]?=h[j]?):∀ {t:Ty} {v:List Zay},Zji S h t v→Zji S h' t v
 | .k d,_,h=>h
 | .u d x,_,⟨j,c,e,r,hv,sj,hj,hr⟩=>⟨j,c,e,r,hv,sj,by rw [hh j sj (Own.lt hj)]; exact hj,hr.keep hh⟩
 | .w d x y,_,⟨j,c,e,r,r',hv,sj,hj,hr,hr'⟩=>⟨j,c,e,r,r',hv,sj,by rw [hh j sj (Own.lt hj)]; exact hj,hr.keep hh,hr'.keep hh⟩
theorem Ty.txt_inter (t:Ty) (h:t.ps≠[]):t.txt=([t.hd] ++ [40]) ++ [44].intercalate (t.ps.map Ty.txt) ++ [41]:=by
 cases t with
 | k c=>simp [Ty.ps] at h
 | u c a=>simp [Ty.ps,Ty.txt,Ty.hd,List.intercalate]
 | w c a b=>simp [Ty.ps,Ty.txt,Ty.hd,List.intercalate]
theorem Ty.size_part {t x:Ty} (h:x∈t.ps):x.size < t.size:=by
 cases t with
 | k c=>simp [Ty.ps] at h
 | u c a=>simp [Ty.ps] at h; subst h; simp [Ty.size]
 | w c a b=>simp [Ty.ps] at h; rcases h with rfl | rfl <;> simp [Ty.size] <;> omega
theorem Ty.len_part {t x:Ty} (h:x∈t.ps):x.txt.length < t.txt.length:=by
 cases t with
 | k c=>simp [Ty.ps] at h
 | u c a=>simp [Ty.ps] at h; subst h; simp [Ty.txt]; omega
 | w c a b=>simp [Ty.ps] at h; rcases h with rfl | rfl <;> simp [Ty.txt] <;> omega
theorem Ytr:∀ (N:Nat) {S:Nat→Prop} {h:Zaa} {t:Ty} {p:Pt},t.size≤N→t.txt.length≤1048576→Zvu S h t p→Zak pg Zlh [.ptr p] h fun x h'=>x=.str t.txt∧Zbc h.length h h'
 | 0,S,h,t,p,hN,_,_=>by have:=t.size_ps; omega
 | N + 1,S,h,t,p,hN,hB,r=>by
  obtain ⟨i,a,c,e,qs,rfl,si,hi,hrow,hS,hql,hq⟩:=r.parts
  have hps2:t.ps.length≤2:=by cases t <;> simp [Ty.ps]
  apply Ziu.call
  simp only [Zau,Zan hi,Nat.zero_add,List.getElem?_cons_succ,List.getElem?_cons_zero,Zaj,Zah]
  refine Zcw (fun hz0=>?_) (fun hz0=>?_)
  ·have:t.ps.length=0:=by omega
   refine ⟨?_,Zbc.refl _ _⟩
   cases t <;> simp [Ty.ps] at this
   rfl
  ·simp only [Zaw]
   generalize hh0:h ++ [Zcb.cells Zbi [] false]=h0
   have s0:Zbc h.length h h0:=by rw [← hh0]; exact Zal
   have i0:=s0.get hi (Own.lt hi)
   have l0:h0.length=h.length + 1:=by rw [← hh0]; simp
   have v0:h0[h.length]?=some (.cells Zbi [] false):=by rw [← hh0]; simp
   simp only [Zan i0,List.getElem?_cons_succ,List.getElem?_cons_zero,Zaj]
   refine Ziu.L5ind _ _ _ _ _ _ _ (J:=fun (g:Nat) a3 n3 c3 e3 x22 h'=>x22=(g:Int)∧g≤t.ps.length∧Zbc h.length h h'∧n3=g∧Vec Zbi h' a3 n3 c3 (strs ((t.ps.take g).map Ty.txt))∧(∀ i,a3=some (i,0)→h.length≤i)) (fun g=>t.ps.length - g) ?_ 0 _ _ _ _ _ _
    ⟨rfl,by omega,s0,rfl,Vec.mk1 (by simpa using v0),fun i hi=>by cases hi; omega⟩
   rintro g a3 n3 c3 e3 x22 h' ⟨rfl,hg,hSm,rfl,hv,ha⟩ R hR
   unfold Ziu.L5t
   have i1:=hSm.get hi (Own.lt hi)
   refine Zar (fun hlt=>?_) (fun hge=>?_)
   ·have hg':n3 < t.ps.length:=by omega
    obtain ⟨j,o,rfl,hj,hc⟩:=(hrow.same hSm).at hg'
    have hqg:n3 < qs.length:=by omega
    rw [List.getElem?_map,List.getElem?_eq_getElem hqg] at hc
    simp only [Zau,Int.toNat_natCast,Nat.mul_one,hc,Option.map_some,Zer]
    have hk:=hq n3 qs[n3] t.ps[n3] (List.getElem?_eq_getElem hqg) (List.getElem?_eq_getElem hg')
    have hm:=List.getElem_mem hg'
    have h1:=Ty.size_part hm
    have h2:=Ty.len_part hm
    refine ⟨by omega,(Ytr N (by omega) (by omega) (hk.same hSm)).mono ?_⟩
    rintro x h2 ⟨rfl,s2⟩
    simp only [Zah,Zaw]
    refine (hv.same s2).push Zwc Yau Yct Ycq (by simp; omega) rfl (by omega) (fun h4 hl4 hi4 hk4=>?_)
    simp only [Zaj]
    rw [Zbm (by omega)]
    have S2:=hSm.cat s2
    have hle:=S2.le
    refine hR (n3 + 1) _ _ _ _ _ _ (by omega) ⟨rfl,by omega,⟨by omega,fun j hj=>?_⟩,rfl,Vec.mk1 ?_,fun i hi=>by cases hi; omega⟩
    ·rw [hk4 j (by omega) fun i hi=>by have:=ha i hi; omega]; exact S2.eq j hj
    ·rw [hi4,List.take_succ_eq_append_getElem hg',List.map_append,Ykw]; rfl
   ·apply Ziu.A5x0i
    have:n3=t.ps.length:=by omega
    subst this
    rw [List.take_length] at hv
    have hne:t.ps≠[]:=fun e=>hz0 (by rw [e]; rfl)
    have htx:=t.txt_inter hne
    have hln:=congrArg List.length htx
    simp at hln
    simp only [Zau,Zan i1,Nat.zero_add,List.getElem?_cons_zero,Zah]
    refine ⟨by simp,?_⟩
    refine (Yun (hv.row (by simp)) (by omega) (by omega)).mono ?_
    rintro v h3 ⟨rfl,rfl⟩
    simp only [Zah]
    refine ⟨Zan i1,by simp; omega,by simp; omega,?_⟩
    exact ⟨by rw [htx],hSm⟩
theorem Zji.get {S:Nat→Prop} {h:Zaa} {t:Ty} {a:Pt} {vs:List (List Zay)} (hrow:Row h.length h a (t.ps.length * 2) vs.flatten) (hvl:vs.length=t.ps.length) (hp:∀ (k:Nat) (w:List Zay) (x:Ty),vs[k]?=some w→t.ps[k]?=some x→Zji S h x w) {g:Nat} (hg':g < t.ps.length) :
  ∃ i o a2 c2 e2,a=some (i,o)∧Zbe h (.ptr (some (i,o + g * 2))) 2=some [.int .u8 (t.ps[g].hd:Int),.slice a2 t.ps[g].ps.length c2 e2]∧Zji S h t.ps[g] [.int .u8 (t.ps[g].hd:Int),.slice a2 t.ps[g].ps.length c2 e2]:=by
 have hgv:g < vs.length:=by omega
 have hk:=hp g vs[g] t.ps[g] (List.getElem?_eq_getElem hgv) (List.getElem?_eq_getElem hg')
 have hz:∀ v∈vs,v.length=2:=fun v hv=>by
  obtain ⟨k,hk,rfl⟩:=List.mem_iff_getElem.1 hv
  exact (hp k vs[k] (t.ps[k]'(by omega)) (List.getElem?_eq_getElem hk) (List.getElem?_eq_getElem (by omega))).len
 have hfl:vs.flatten=Zdb (fun (v:{v:List Zay // v.length=2})=>v.1) (vs.attach.map fun v=>⟨v.1,hz v.1 v.2⟩):=by
  unfold Zdb; rw [List.flatMap_map]; simp
 rw [hfl] at hrow
 obtain ⟨i,o,hk',ha,_,hr,_⟩:=Row.el (enc:=fun (v:{v:List Zay // v.length=2})=>v.1) (fun x=>x.2) hrow (by simp [hvl]) (k:=g) hg' (by omega)
 obtain ⟨a2,c2,e2,hv2⟩:=hk.shape
 rw [hv2] at hk
 exact ⟨i,o,a2,c2,e2,ha,by rw [hr]; simp [hv2],hk⟩
theorem Ysp {g:Nat} (hg:g < 2):sub [40,44] (g:Int) ((g:Int) + 1)=[Ztk g]:=by
 rcases g with _ | _ | g
 ·rfl
 ·rfl
 ·omega
theorem Ty.hd_lt (t:Ty) (h:t.ok=true):t.hd < 256:=by
 have:=Ty.ok_ar h
 unfold arN Zoo Zee at this
 simp only [Bool.or_eq_true,beq_iff_eq] at this
 split at this
 ·omega
 ·split at this
  ·omega
  ·split at this
   ·omega
   ·omega
def Zrf:Nat→List Ty→List Nat
 | _,[]=>[]
 | g,x :: l=>Ztk g :: (x.txt ++ Zrf (g + 1) l)
theorem Zxs:∀ (l:List Ty) (g k:Nat) (h:k < l.length),Zrf g (l.take (k + 1))=Zrf g (l.take k) ++ Ztk (g + k) :: l[k].txt
 | x :: l,g,0,_=>by simp [Zrf]
 | x :: l,g,k + 1,h=>by
  have:=Zxs l (g + 1) k (by simpa using h)
  simp only [List.take_succ_cons,Zrf,this,List.getElem_cons_succ,List.cons_append,List.append_assoc]
  rw [show g + 1 + k=g + (k + 1) by omega]
theorem Yci:∀ (l:List Ty) (g k:Nat),(Zrf g (l.take k)).length≤(Zrf g l).length
 | [],g,k=>by simp [Zrf]
 | x :: l,g,0=>by simp [Zrf]
 | x :: l,g,k + 1=>by
  have:=Yci l (g + 1) k
  simp only [List.take_succ_cons,Zrf,List.length_cons,List.length_append]; omega
theorem Ty.txt_mids (t:Ty):t.txt=t.hd :: Zrf 0 t.ps ++ (if t.ps=[] then [] else [41]):=by
 cases t <;> simp [Ty.ps,Ty.txt,Ty.hd,Zrf,Ztk]
theorem Zrv:∀ (N:Nat) {S:Nat→Prop} {h:Zaa} {t:Ty} {v:List Zay},t.size≤N→t.txt.length≤1048576→t.ok=true→Zji S h t v→Zak pg Zhp [.agg v] h fun x h'=>x=.str t.txt∧Zbc h.length h h'
 | 0,S,h,t,v,hN,_,_,_=>by have:=t.size_ps; omega
 | N + 1,S,h,t,v,hN,hB,hok,r=>by
  obtain ⟨a,c,e,vs,rfl,hrow,hS,hvl,hp⟩:=r.parts
  have hps2:t.ps.length≤2:=by cases t <;> simp [Ty.ps]
  have htx:=t.txt_mids
  have hln:=congrArg List.length htx
  rw [List.length_append,List.length_cons] at hln
  apply Zim.call
  simp only [Zaw,Zgm,Nat.zero_add,List.getElem?_cons_succ,List.getElem?_cons_zero,Zaj,Zax]
  generalize hh0:h ++ [Zcb.cells Zap [.int .u8 (t.hd:Int),.slice a t.ps.length c e] false]=h0
  have s0:Zbc h.length h h0:=by rw [← hh0]; exact Zal
  have o0:h0[h.length]?=some (.cells Zap [.int .u8 (t.hd:Int),.slice a t.ps.length c e] false):=by rw [← hh0]; simp
  generalize hh1:h0 ++ [Zcb.cells Yas [.int .u8 (t.hd:Int)] false]=h1
  have s1:Zbc h0.length h0 h1:=by rw [← hh1]; exact Zal
  have o1:=s1.get o0 (Own.lt o0)
  have hro:rowOf h1 (some (h0.length,0)) 1=some [.int .u8 (t.hd:Int)]:=by rw [← hh1]; simp [rowOf,Zbe]
  rw [hro]
  simp only [Zao,Zoc,chk,decide_true]
  rw [show ((t.hd:Int)).toNat=t.hd from Int.toNat_natCast _]
  refine ⟨⟨by omega,by have:=t.hd_lt hok; omega⟩,?_⟩
  simp only [Zan o1,List.getElem?_cons_succ,List.getElem?_cons_zero,Zaj]
  refine Zim.L3ind _ _ _ _ _ _ _ _ (J:=fun (g:Nat) x3 x13 h'=>x13=(g:Int)∧g≤t.ps.length∧Zbc h.length h h'∧Zbc h1.length h1 h'∧x3=t.hd :: Zrf 0 (t.ps.take g)) (fun g=>t.ps.length - g) ?_ 0 _ _ _ ⟨rfl,by omega,s0.cat s1,Zbc.refl _ _,by simp [Zrf]⟩
  rintro g x3 x13 h' ⟨rfl,hg,hSm,hS1,rfl⟩ R hR
  unfold Zim.L3t
  have o2:=hS1.get o1 (Own.lt o1)
  refine Zar (fun hlt=>?_) (fun hge=>?_)
  ·have hg':g < t.ps.length:=by omega
   obtain ⟨i,o,a2,c2,e2,rfl,hr,hk⟩:=Zji.get (hrow.same' hSm) hvl (fun k w x h1 h2=>(hp k w x h1 h2).same hSm) hg'
   simp only [Zau,Int.toNat_natCast,hr,Zao,Zae,Zam,Zax,Zaj,Zaw]
   rw [Zfb]
   simp only [Zas]
   rw [Zzn]
   simp only [Zao,Zae,Zam,Zax,Zaj]
   rw [Zbm (by omega),show (((g + 1:Nat):Int))=(g:Int) + 1 by omega,Ysp (by omega)]
   have hm:=List.getElem_mem hg'
   have h1:=Ty.size_part hm
   have h2:=Ty.len_part hm
   have hmt:=Zxs t.ps 0 g hg'
   have hml:(Zrf 0 (t.ps.take (g + 1))).length≤(Zrf 0 t.ps).length:=Yci _ _ _
   have hmtl:=congrArg List.length hmt
   simp only [List.length_append,List.length_cons,Nat.zero_add] at hmtl
   have s2:Zbc h'.length h' (h' ++ [.cells Zap [.int .u8 (t.ps[g].hd:Int),.slice a2 t.ps[g].ps.length c2 e2] false]):=Zal
   refine ⟨by omega,⟨by omega,by omega,by simp; omega⟩,by simp; omega,(Zrv N (by omega) (by omega) (Ty.ok_ps hok _ hm) (hk.same s2)).mono ?_⟩
   rintro x h3 ⟨rfl,s3⟩
   simp only [Zah]
   refine ⟨by simp; omega,?_⟩
   exact hR (g + 1) _ _ _ (by omega) ⟨by omega,by omega,(hSm.cat s2).cat s3,(hS1.cat s2).cat s3,by rw [hmt,Nat.zero_add]; simp⟩
  ·apply Zim.A3x0i
   have:g=t.ps.length:=by omega
   subst this
   simp only [Zan o2,Nat.zero_add,List.getElem?_cons_succ,List.getElem?_cons_zero,Zaj]
   rw [List.take_length]
   refine Zar (fun hpos=>?_) (fun hneg=>?_)
   ·have hne:t.ps≠[]:=fun e=>by rw [e] at hpos; simp at hpos
    rw [if_neg hne] at htx hln
    refine ⟨by simp; simp at hln; omega,?_⟩
    apply Zim.J9i
    exact ⟨by rw [htx],hSm⟩
   ·have hne:t.ps=[]:=List.eq_nil_of_length_eq_zero (by omega)
    rw [if_pos hne,List.append_nil] at htx
    apply Zim.J9i
    exact ⟨by rw [htx],hSm⟩
end Go.Sim

set_option linter.unusedVariables false
namespace Go.Sim
open Go Go.RowKit Go.Maps Go.Sort Go.Shelf Go.Proofs
theorem Yuj (m:Nat):AnyZ.SortsIn Tryz.prog Tryz.sorted137_ren Fence.wide m:=
 ⟨fun blk off cap ss W hH hblk hsz=>callsIn_wide.2 (Tryz.slices_Sort_string blk off cap ss W hH hblk hsz),fun p cap W=>callsIn_wide.2 (Tryz.slices_Sort_string_none p cap W)⟩
theorem Yui {h:Zaa} {m:Option Nat}:Zak pg Zfu [.map m] h fun v h'=>v=.fn Zfi [.ptr (some (h.length,0))]∧h'=h ++ [.cells Zip [.map m] false]:=
 Zak.keys ⟨_,Tryz.func138,by kernel_rfl,by kernel_rfl⟩ (fun mb W=>callsIn_wide.1 (AnyZ.keys_in Tryz.keys138 Fence.wide 5 trivial rfl mb W))
set_option maxHeartbeats 1000000 in
theorem Yda {h:Zaa} {i m:Nat} {es:List ME} {clk:Nat} (hi:h[i]?=some (.cells Zip [.map (some m)] false)) (hm:h[m]?=some (.map es clk)) {vs:List Nat} (hks:es.map (·.1)=vs.map fun v=>.str [v]) (nd:vs.Nodup) (born:(es.map (·.2.2)).Nodup) (lt:∀ e∈es,e.2.2 < clk) (hl:es.length≤1048576) :
  Zak pg Znd [.fn Zfi [.ptr (some (i,0))]] h fun v h'=>∃ us:List Nat,us.Perm vs∧us.Pairwise (·≤·)∧((us=[]∧v=.slice none 0 0 true∧h'=h) ∨ (∃ c,v=.slice (some (h.length,0)) us.length c false∧us.length≤c∧h'=h ++ [.cells Zbi (us.map fun v=>.str [v]) false])):=
 Zak.sortedKeys (M:=Zip) (K:=Zbi) Tryz.underlying9 (by kernel_rfl) ⟨_,Tryz.func137,by kernel_rfl,by kernel_rfl⟩
  (fun Bm b nn D0 R w hown hBm hcell hmax hbytes=>callsIn_wide.1 (by
   have hseq:SeqGives Fence.wide 2 Tryz.prog 158 #[.pointer (some ⟨Bm,0,none⟩)] encStr (fun ss=>ss.Perm (strKeys D0)) (Maps.size D0) w:=
    AnyZ.keys_gives (ρ:=Tryz.keys138_ren) { Tryz.keys138 with } Fence.wide _ trivial rfl (by omega) Bm b nn D0 w hBm hcell hown
   exact AnyZ.sorted_in Tryz.sorted137 Fence.wide 5 trivial trivial trivial trivial rfl (by omega) (Yuj _) (enters_of Tryz.func157 (by kernel_rfl) rfl) 158 #[.pointer (some ⟨Bm,0,none⟩)] trivial (enters_of Tryz.func158 (by kernel_rfl) rfl) _ _ hmax hbytes _ hseq))
  hi hm hks nd born lt hl
end Go.Sim

set_option linter.unusedSimpArgs false
set_option linter.unusedVariables false
namespace Go.Sim

abbrev Bd:=List (Nat × Ty)
def Zht:Bd→Nat→Option Ty
 | [],_=>none
 | (v,t) :: m,x=>if v=x then some t else Zht m x
def Zsa (m:Bd) (v:Nat) (t:Ty):Option Bd:=match Zht m v with | some t'=>if t'=t then some m else none | none=>some (m ++ [(v,t)])
def matchT:Bd→Ty→Ty→Option Bd
 | m,.k c,t=>if Zee c then Zsa m c t else if c=t.hd then some m else none
 | m,.u c a,t=>if c=t.hd then (match t.ps with | [x]=>matchT m a x | _=>none) else none
 | m,.w c a b,t=>if c=t.hd then (match t.ps with | [x,y]=>(match matchT m a x with | some m1=>matchT m1 b y | none=>none) | _=>none) else none
def matchL:Bd→List Ty→List Ty→Option Bd
 | m,[],_=>some m
 | m,a :: xs,[]=>none
 | m,a :: xs,t :: ys=>match matchT m a t with | some m1=>matchL m1 xs ys | none=>none
theorem Zto {a:Ty} (h:a.ok=true) (hv:Zee a.hd=true):a=.k a.hd:=by
 cases a with
 | k c=>rfl
 | u c a=>simp only [Ty.ok,Bool.and_eq_true,Bool.or_eq_true,beq_iff_eq] at h; rcases h.1 with rfl | rfl <;> simp [Ty.hd,Zee] at hv
 | w c a b=>simp only [Ty.ok,Bool.and_eq_true,beq_iff_eq] at h; rcases h.1.1 with rfl; simp [Ty.hd,Zee] at hv
theorem Ymc {a t:Ty} (ha:a.ok=true) (ht:t.ok=true) (h:a.hd=t.hd):a.ps.length=t.ps.length:=by
 have h1:=Ty.ok_ar ha; have h2:=Ty.ok_ar ht
 rw [h,h2] at h1; omega
theorem Ygy {m:Bd} {a t:Ty} (ha:a.ok=true) (ht:t.ok=true) :
  matchT m a t=if Zee a.hd then Zsa m a.hd t else if a.hd=t.hd then matchL m a.ps t.ps else none:=by
 cases a with
 | k c=>
  show matchT m (.k c) t=if Zee c then Zsa m c t else if c=t.hd then matchL m [] t.ps else none
  rw [matchT,matchL]
 | u c a=>
  have hnv:Zee c=false:=by
   cases h:Zee c with
   | false=>rfl
   | true=>have:=Zto ha h; cases this
  show matchT m (.u c a) t=if Zee c then Zsa m c t else if c=t.hd then matchL m [a] t.ps else none
  rw [matchT,hnv,if_neg (show ¬ (false=true) by decide)]
  by_cases h:c=t.hd
  ·have hl:1=t.ps.length:=Ymc ha ht h
   rw [if_pos h,if_pos h]
   match t.ps,hl with
   | [x],_=>simp only [matchL]; cases matchT m a x <;> rfl
  ·rw [if_neg h,if_neg h]
 | w c a b=>
  have hnv:Zee c=false:=by
   cases h:Zee c with
   | false=>rfl
   | true=>have:=Zto ha h; cases this
  show matchT m (.w c a b) t=if Zee c then Zsa m c t else if c=t.hd then matchL m [a,b] t.ps else none
  rw [matchT,hnv,if_neg (show ¬ (false=true) by decide)]
  by_cases h:c=t.hd
  ·have hl:2=t.ps.length:=Ymc ha ht h
   rw [if_pos h,if_pos h]
   match t.ps,hl with
   | [x,y],_=>
    simp only [matchL]
    cases matchT m a x with
    | none=>rfl
    | some m1=>simp only []; cases matchT m1 b y <;> rfl
  ·rw [if_neg h,if_neg h]
theorem Zwe:∀ (xs ys:List Ty) (m:Bd) (g:Nat) (h1:g < xs.length) (h2:g < ys.length),matchL m (xs.take (g + 1)) (ys.take (g + 1))=match matchL m (xs.take g) (ys.take g) with | some m1=>matchT m1 xs[g] ys[g] | none=>none
 | a :: xs,t :: ys,m,0,_,_=>by
  simp only [List.take_succ_cons,List.take_zero,matchL,List.getElem_cons_zero]
  cases matchT m a t <;> rfl
 | a :: xs,t :: ys,m,g + 1,h1,h2=>by
  simp only [List.length_cons,Nat.add_lt_add_iff_right] at h1 h2
  simp only [List.take_succ_cons,matchL,List.getElem_cons_succ]
  cases hm:matchT m a t with
  | none=>rfl
  | some m1=>
   have:=Zwe xs ys m1 g h1 h2
   simpa only [List.take_succ_cons] using this
theorem Zwb:∀ (xs ys:List Ty) (m:Bd) (g:Nat),xs.length=ys.length→matchL m (xs.take g) (ys.take g)=none→matchL m xs ys=none
 | [],_,m,g,_,h=>by simp [matchL] at h
 | a :: xs,[],m,g,hl,h=>by simp at hl
 | a :: xs,t :: ys,m,0,_,h=>by simp [matchL] at h
 | a :: xs,t :: ys,m,g + 1,hl,h=>by
  simp only [List.take_succ_cons,matchL] at h ⊢
  cases hm:matchT m a t with
  | none=>rfl
  | some m1=>
   rw [hm] at h
   exact Zwb xs ys m1 g (by simpa using hl) h

structure BOk (n:Nat) (m:Bd):Prop where
 var:∀ p∈m,Zee p.1=true∧p.2.ok=true∧p.2.txt.length≤n
 nd:(m.map (·.1)).Nodup
theorem Zus:∀ {m:Bd} {v:Nat} {t:Ty},Zht m v=some t→(v,t)∈m
 | (w,u) :: m,v,t,h=>by
  simp only [Zht] at h
  split at h
  ·rename_i e; cases h; subst e; simp
  ·exact List.mem_cons_of_mem _ (Zus h)
theorem Zxg:∀ {m:Bd} {v:Nat},Zht m v=none ↔ v ∉ m.map (·.1)
 | [],v=>by simp [Zht]
 | (w,u) :: m,v=>by
  simp only [Zht]
  by_cases e:w=v
  ·simp [e]
  ·simp only [e,if_false,Zxg (m:=m),List.map_cons,List.mem_cons,not_or]
   exact ⟨fun h=>⟨fun e'=>e e'.symm,h⟩,fun h=>h.2⟩
theorem Ykv {m:Bd} {v:Nat}:(Zht m v).isSome=true ↔ v∈m.map (·.1):=by
 cases h:Zht m v with
 | none=>simp [Zxg.1 h]
 | some t=>simp only [Option.isSome_some,true_iff]; exact List.mem_map.2 ⟨_,Zus h,rfl⟩
theorem Ymb {m:Bd} {v x:Nat} {t:Ty}:Zht (m ++ [(v,t)]) x=match Zht m x with | some u=>some u | none=>if v=x then some t else none:=by
 induction m with
 | nil=>simp [Zht]
 | cons p m ih=>
  obtain ⟨w,u⟩:=p
  simp only [List.cons_append,Zht,ih]
  split <;> rfl
theorem BOk.nil {n:Nat}:BOk n []:=⟨by simp,by simp⟩
theorem BOk.note {n:Nat} {m m':Bd} {v:Nat} {t:Ty} (b:BOk n m) (hv:Zee v=true) (ht:t.ok=true) (hn:t.txt.length≤n) (h:Zsa m v t=some m'):BOk n m':=by
 unfold Zsa at h
 split at h
 ·split at h
  ·cases h; exact b
  ·cases h
 ·rename_i hg
  cases h
  refine ⟨?_,?_⟩
  ·intro p hp
   rcases List.mem_append.1 hp with hp | hp
   ·exact b.var p hp
   ·simp at hp; subst hp; exact ⟨hv,ht,hn⟩
  ·rw [List.map_append,List.nodup_append]
   refine ⟨b.nd,by simp,?_⟩
   intro x hx y hy e
   simp at hy; subst hy; subst e
   exact Zxg.1 hg hx
theorem Yft {t x:Ty} (h:x∈t.ps):x.txt.length≤t.txt.length:=by
 cases t with
 | k c=>simp [Ty.ps] at h
 | u c a=>simp [Ty.ps] at h; subst h; simp [Ty.txt]; omega
 | w c a b=>simp [Ty.ps] at h; rcases h with rfl | rfl <;> simp [Ty.txt] <;> omega
theorem BOk.matchT {n:Nat}:∀ {a t:Ty} {m m':Bd},a.ok=true→t.ok=true→t.txt.length≤n→BOk n m→Go.Sim.matchT m a t=some m'→BOk n m'
 | .k c,t,m,m',ha,ht,hn,b,h=>by
  simp only [Go.Sim.matchT] at h
  split at h
  ·rename_i hv; exact b.note hv ht hn h
  ·split at h
   ·cases h; exact b
   ·cases h
 | .u c a,t,m,m',ha,ht,hn,b,h=>by
  simp only [Ty.ok,Bool.and_eq_true] at ha
  simp only [Go.Sim.matchT] at h
  split at h
  ·split at h
   ·rename_i x hx
    have hm:x∈t.ps:=by rw [hx]; simp
    exact BOk.matchT ha.2 (Ty.ok_ps ht x hm) (Nat.le_trans (Yft hm) hn) b h
   ·cases h
  ·cases h
 | .w c a a2,t,m,m',ha,ht,hn,b,h=>by
  simp only [Ty.ok,Bool.and_eq_true] at ha
  simp only [Go.Sim.matchT] at h
  split at h
  ·split at h
   ·rename_i x y hx
    have hm:x∈t.ps:=by rw [hx]; simp
    have hm2:y∈t.ps:=by rw [hx]; simp
    split at h
    ·rename_i m1 h1
     exact BOk.matchT ha.2 (Ty.ok_ps ht y hm2) (Nat.le_trans (Yft hm2) hn) (BOk.matchT ha.1.2 (Ty.ok_ps ht x hm) (Nat.le_trans (Yft hm) hn) b h1) h
    ·cases h
   ·cases h
  ·cases h
theorem BOk.matchL {n:Nat}:∀ {xs ys:List Ty} {m m':Bd},(∀ a∈xs,a.ok=true)→(∀ t∈ys,t.ok=true∧t.txt.length≤n)→BOk n m→Go.Sim.matchL m xs ys=some m'→BOk n m'
 | [],_,m,m',_,_,b,h=>by simp [Go.Sim.matchL] at h; subst h; exact b
 | a :: xs,[],m,m',_,_,b,h=>by simp [Go.Sim.matchL] at h
 | a :: xs,t :: ys,m,m',ha,ht,b,h=>by
  simp only [Go.Sim.matchL] at h
  split at h
  ·rename_i m1 h1
   exact BOk.matchL (fun a h=>ha a (by simp [h])) (fun t h=>ht t (by simp [h])) (BOk.matchT (ha a (by simp)) (ht t (by simp)).1 (ht t (by simp)).2 b h1) h
  ·cases h
def bdL (m:Bd):List Nd:=Zfh.filterMap fun v=>(Zht m v).map fun t=>([v],t.txt)
noncomputable def Zmq (p s:List Nat):Option Bd:=match Zkt p,Zkt s with | some a,some b=>matchT [] a b | _,_=>none
noncomputable def Zti (p s:List Nat):Bool:=(Zmq p s).isSome
noncomputable def Zmu (p s:List Nat):List Nd:=match Zmq p s with | some m=>bdL m | none=>[]
theorem Ycl {p s:List Nat} {m:Bd} (h:Zmq p s=some m):BOk 60 m:=by
 unfold Zmq at h
 split at h
 ·rename_i a b ha hb
  obtain ⟨h1,_,_⟩:=Zgu.1 ha
  obtain ⟨h2,h3,h4⟩:=Zgu.1 hb
  exact BOk.matchT h1 h2 (by rw [← h3]; exact h4) BOk.nil h
 ·cases h
theorem Zsi:Zfh.Nodup:=by decide
theorem Zzd:Zfh.Pairwise (· < ·):=by decide
theorem Yma (m:Bd):bdL m=(Zfh.filter fun v=>(Zht m v).isSome).map fun v=>([v],((Zht m v).getD default).txt):=by
 unfold bdL
 induction Zfh with
 | nil=>rfl
 | cons v l ih=>
  simp only [List.filterMap_cons,List.filter_cons]
  cases h:Zht m v with
  | none=>simpa [h] using ih
  | some t=>simp [h,ih]
theorem Yjw {n:Nat} {m:Bd} (b:BOk n m) {ks:List Nat} (hp:ks.Perm (m.map (·.1))) (hs:ks.Pairwise (·≤·)):ks=Zfh.filter fun v=>(Zht m v).isSome:=by
 have hnd:ks.Nodup:=hp.nodup_iff.2 b.nd
 have h1:ks.Pairwise (· < ·):=by
  have:=List.pairwise_and_iff.2 ⟨hs,hnd⟩
  exact this.imp fun h=>by have:=h.1; have:=h.2; omega
 have h2:(Zfh.filter fun v=>(Zht m v).isSome).Pairwise (· < ·):=Zzd.filter _
 have hp2:ks.Perm (Zfh.filter fun v=>(Zht m v).isSome):=by
  rw [List.perm_ext_iff_of_nodup hnd (Zsi.filter _)]
  intro v
  rw [hp.mem_iff,List.mem_filter,Ykv]
  constructor
  ·intro hv
   obtain ⟨p,hp,rfl⟩:=List.mem_map.1 hv
   exact ⟨(Ztx _).2 (b.var p hp).1,hv⟩
  ·exact fun h=>h.2
 exact hp2.eq_of_pairwise (fun a b _ _ h1 h2=>by omega) h1 h2
theorem Yoi {α:Type} {f:α→Bool} {l:List α} {g:Nat} (hg:g < l.length) (h:(l.take g).find? f=none) (k:f l[g]=true):l.find? f=some l[g]:=by
 have h1:l=l.take g ++ l[g] :: l.drop (g + 1):=by rw [← List.drop_eq_getElem_cons hg,List.take_append_drop]
 conv=>lhs; rw [h1]
 rw [List.find?_append,h,List.find?_cons,k]; rfl
theorem Ybv {α:Type} {f:α→Bool} {l:List α} {g:Nat} (hg:g < l.length) (h:(l.take g).find? f=none) (k:f l[g]=false):(l.take (g + 1)).find? f=none:=by
 rw [List.take_succ_eq_append_getElem hg,List.find?_append,h]; simp [k]
end Go.Sim

set_option linter.unusedVariables false
set_option linter.unusedSimpArgs false
set_option maxRecDepth 20000
namespace Go.Sim
open Go Go.RowKit

def Ytk (h:Zaa) (i:Nat) (m:Bd):Prop:=∃ es clk,h[i]?=some (.map es clk)∧es.map (·.1)=m.map (fun p=>Zay.str [p.1])∧es.map (·.2.1)=m.map (fun p=>Zay.str p.2.txt)∧(es.map (·.2.2)).Nodup∧∀ e∈es,e.2.2 < clk
theorem Ytk.eq {h h':Zaa} {i:Nat} {m:Bd} (r:Ytk h i m) (he:h'[i]?=h[i]?):Ytk h' i m:=by
 obtain ⟨es,clk,h1,x⟩:=r
 exact ⟨es,clk,by rw [he]; exact h1,x⟩
theorem Ytk.lt {h:Zaa} {i:Nat} {m:Bd} (r:Ytk h i m):i < h.length:=by obtain ⟨es,clk,h1,_⟩:=r; exact Own.lt h1
theorem Zuu:∀ {es:List ME} {m:Bd} {v k:Nat} {t:Ty},es.map (·.1)=m.map (fun p=>Zay.str [p.1])→es.map (·.2.1)=m.map (fun p=>Zay.str p.2.txt)→Zht m v=some t→∃ j b,Zya es [v] k=some (some (k + j,.str t.txt))∧es[j]?=some (.str [v],.str t.txt,b)
 | _,[],v,k,t,_,_,h=>by simp [Zht] at h
 | [],p :: m,v,k,t,h,_,_=>by simp at h
 | (ek,ev,eb) :: es,(w,u) :: m,v,k,t,hk,hv,h=>by
  simp only [List.map_cons,List.cons.injEq] at hk hv
  obtain ⟨rfl,hk⟩:=hk
  obtain ⟨rfl,hv⟩:=hv
  simp only [Zht] at h
  by_cases e:w=v
  ·rw [if_pos e] at h
   cases h; subst e
   exact ⟨0,eb,by simp [Zya],rfl⟩
  ·rw [if_neg e] at h
   obtain ⟨j,b,h1,h2⟩:=Zuu (k:=k + 1) hk hv h
   have:¬ [v]=[w]:=fun x=>e (by simpa using x.symm)
   exact ⟨j + 1,b,by simp only [Zya,this,if_false,h1]; rw [show k + 1 + j=k + (j + 1) by omega],h2⟩
theorem Zuw:∀ {es:List ME} {m:Bd} {v k:Nat},es.map (·.1)=m.map (fun p=>Zay.str [p.1])→Zht m v=none→Zya es [v] k=some none
 | [],[],v,k,_,_=>rfl
 | [],p :: m,v,k,h,_=>by simp at h
 | e :: es,[],v,k,h,_=>by simp at h
 | (ek,ev,eb) :: es,(w,u) :: m,v,k,hk,h=>by
  simp only [List.map_cons,List.cons.injEq] at hk
  obtain ⟨rfl,hk⟩:=hk
  simp only [Zht] at h
  by_cases e:w=v
  ·rw [if_pos e] at h; cases h
  ·rw [if_neg e] at h
   have:¬ [v]=[w]:=fun x=>e (by simpa using x.symm)
   simp only [Zya,this,if_false]
   exact Zuw hk h
theorem Ybc {α:Type} {f:α→α} {e:α}:∀ {l:List α} {j:Nat},l[j]?=some e→f e=e→l.modify j f=l
 | [],j,h,_=>by simp at h
 | a :: l,0,h,hf=>by simp at h; subst h; simp [hf]
 | a :: l,j + 1,h,hf=>by simp at h; simp [Ybc h hf]
theorem Ynl (c:Nat):Zmi [c]=Zee c:=rfl
theorem Row.keepAt {i:Nat} {h h':Zaa} {a:Pt} {n:Nat} {cs:List Zay} (r:Row h.length h a n cs) (hne:∀ j o,n≠0→a=some (j,o)→j≠i) (k:Zem i h h'):Row h'.length h' a n cs:=by
 obtain ⟨hl,r⟩:=r
 by_cases h0:n=0
 ·exact ⟨hl,.inl h0⟩
 ·refine ⟨hl,r.imp id ?_⟩
  rintro ⟨j,o',t,all,ro,ha,hi,hg,x⟩
  have:=k.le
  exact ⟨j,o',t,all,ro,ha,by omega,by rw [k.eq j hi (hne j o' h0 ha)]; exact hg,x⟩
def Xbd (h:Zaa) (i:Nat) (r:Option Bd) (v:Zay) (h':Zaa):Prop:=Zem i h h'∧(match r with | some m'=>v=.bool true∧Ytk h' i m' | none=>v=.bool false)
theorem Yll:∀ (N:Nat) {a t:Ty} {S:Nat→Prop} {h:Zaa} {p q:Pt} {i n:Nat} {m:Bd},a.size≤N→a.ok=true→t.ok=true→t.txt.length≤1048576→t.txt.length≤n→BOk n m→(∀ j,S j→j≠i)→Zvu S h a p→Zvu S h t q→Ytk h i m →
  Zak pg Zkg [.ptr p,.ptr q,.map (some i)] h (Xbd h i (matchT m a t))
 | 0,a,t,S,h,p,q,i,n,m,hN,_,_,_,_,_,_,_,_,_=>by have:=a.size_ps; omega
 | N + 1,a,t,S,h,p,q,i,n,m,hN,ha,ht,hB,hn,bo,hSi,ra,rt,rm=>by
  have hcase:=Ygy (m:=m) ha ht
  obtain ⟨ia,aa,ca,ea,qa,rfl,sia,hia,rowa,hSa,hqal,hqa⟩:=ra.parts
  obtain ⟨it,at',ct,et,qt,rfl,sit,hit,rowt,hSt,hqtl,hqt⟩:=id rt.parts
  have hps2:a.ps.length≤2:=by cases a <;> simp [Ty.ps]
  apply Zgj.call
  simp only [Zau,Zan hia,Nat.zero_add,List.getElem?_cons_succ,List.getElem?_cons_zero,Zaj,Zah]
  refine (Yer [a.hd]).mono ?_
  rintro v h1 ⟨rfl,rfl⟩
  simp only [Zaq,Ynl]
  refine Zdj (fun hv=>?_) (fun hv=>?_)
  ·rw [hv] at hcase
   simp only [if_true] at hcase
   refine (Ytr _ (Nat.le_refl _) hB rt).mono ?_
   rintro v h2 ⟨rfl,s2⟩
   have hia2:=s2.get hia (Own.lt hia)
   obtain ⟨es,clk,hm,hk,hvv,hb,hlt⟩:=id rm
   have hm2:=s2.get hm (Own.lt hm)
   have rm2:Ytk h2 i m:=rm.eq (s2.eq i (Own.lt hm))
   simp only [Zah,Zan hia2,List.getElem?_cons_succ,List.getElem?_cons_zero,Zju,hm2,Ydg]
   have K2:Zem i h1 h2:=⟨s2.le,fun j hj _=>s2.eq j hj⟩
   have hput:∀ r:Option Bd,(∀ (es':List ME) (k':Nat),Ytv es clk [a.hd] (.str t.txt) (fun x y=>x=es'∧y=k')→Xbd h1 i r (.bool true) (h2.set i (.map es' k')))→Zgj.J6 (Xbd h1 i r) (some i) (some (ia,0)) t.txt h2:=by
    intro r hr
    apply Zgj.J6i
    simp only [Zau,Zan hia2,Nat.zero_add,List.getElem?_cons_zero,Zah,xMp,Zju,hm2,Zaw]
    unfold Ytv at hr ⊢
    cases hg:Zht m a.hd with
    | none=>
     rw [Zuw hk hg] at hr ⊢
     exact hr _ _ ⟨rfl,rfl⟩
    | some u=>
     obtain ⟨j,b,hf,_⟩:=Zuu (k:=0) hk hvv hg
     rw [hf] at hr ⊢
     exact hr _ _ ⟨rfl,rfl⟩
   have KS:∀ x,Zem i h1 (h2.set i x):=fun x=>K2.trans (Zem.set i h2 x)
   have hil:=Own.lt hm2
   cases hg:Zht m a.hd with
   | none=>
    have hbn:Zsa m a.hd t=some (m ++ [(a.hd,t)]):=by unfold Zsa; rw [hg]
    rw [hbn] at hcase
    rw [hcase,Zuw hk hg]
    simp only [Option.getD_none,Zah,Option.isSome_none,Zca]
    refine hput _ fun es' k' hp=>⟨KS _,rfl,?_⟩
    unfold Ytv at hp
    rw [Zuw hk hg] at hp
    obtain ⟨rfl,rfl⟩:=hp
    refine ⟨_,_,List.getElem?_set_self hil,by simp [hk],by simp [hvv],?_,?_⟩
    ·rw [List.map_append,List.nodup_append]
     refine ⟨hb,by simp,?_⟩
     intro x hx y hy e
     simp at hy
     obtain ⟨z,hz,rfl⟩:=List.mem_map.1 hx
     have:=hlt z hz; omega
    ·intro e he
     rcases List.mem_append.1 he with he | he
     ·have:=hlt e he; omega
     ·simp at he; subst he; simp
   | some u=>
    obtain ⟨j,b,hf,hj⟩:=Zuu (k:=0) hk hvv hg
    rw [hf]
    simp only [Option.getD_some,Zah,Option.isSome_some,Zcv]
    have hu:u.ok=true ∨ True:=.inr trivial
    by_cases he:u=t
    ·subst he
     have hbn:Zsa m a.hd u=some m:=by unfold Zsa; rw [hg]; simp
     rw [hbn] at hcase
     rw [hcase]
     simp only [decide_true,Bool.not_true,Zca]
     refine hput _ fun es' k' hp=>⟨KS _,rfl,?_⟩
     unfold Ytv at hp
     rw [hf] at hp
     obtain ⟨rfl,rfl⟩:=hp
     rw [Nat.zero_add,Ybc hj rfl]
     exact ⟨es,clk,List.getElem?_set_self hil,hk,hvv,hb,hlt⟩
    ·have hu:=(bo.var _ (Zus hg)).2.1
     have hne:¬ u.txt=t.txt:=fun e=>he (Ty.txt_inj' hu ht e)
     have hbn:Zsa m a.hd t=none:=by unfold Zsa; rw [hg]; simp [he]
     rw [hbn] at hcase
     rw [hcase]
     simp only [hne,decide_false,Bool.not_false,Zcv]
     exact ⟨K2,rfl⟩
  ·rw [hv] at hcase
   simp only [Bool.false_eq_true,if_false] at hcase
   simp only [Zau,Zan hia,Zan hit,Nat.zero_add,List.getElem?_cons_succ,List.getElem?_cons_zero,Zaj,Zah,true_and]
   refine Yei (fun hne=>?_) (fun he=>?_)
   ·rw [if_neg (fun e=>hne (by rw [e]))] at hcase
    rw [hcase]
    exact ⟨Zem.refl _ _,rfl⟩
   ·have he':a.hd=t.hd:=by simpa using he
    rw [if_pos he'] at hcase
    rw [hcase]
    have hlen:=Ymc ha ht he'
    refine Zgj.L11ind _ _ _ _ _ _ _ _ (J:=fun (g:Nat) x54 h'=>x54=(g:Int)∧g≤a.ps.length∧Zem i h1 h'∧∃ m1,matchL m (a.ps.take g) (t.ps.take g)=some m1∧Ytk h' i m1) (fun g=>a.ps.length - g) ?_ 0 _ _ ⟨rfl,by omega,Zem.refl _ _,m,by simp [matchL],rm⟩
    rintro g x54 h' ⟨rfl,hg,hK,m1,hm1,rm1⟩ R hR
    unfold Zgj.L11t
    refine Zar (fun hlt=>?_) (fun hge=>?_)
    ·have hga:g < a.ps.length:=by omega
     have hgt:g < t.ps.length:=by omega
     have hit1:h'[it]?=some (.cells Zgi [.str [t.hd],.slice at' t.ps.length ct et,.ptr none] false):=by rw [hK.eq _ (Own.lt hit) (hSi _ sit)]; exact hit
     obtain ⟨ja,oa,rfl,_,hca⟩:=(rowa.keepAt (i:=i) (fun j o h0 e=>hSi j (hSa j o h0 e)) hK).at hga
     obtain ⟨jt,ot,rfl,_,hct⟩:=(rowt.keepAt (i:=i) (fun j o h0 e=>hSi j (hSt j o h0 e)) hK).at hgt
     have hqag:g < qa.length:=by omega
     have hqtg:g < qt.length:=by omega
     rw [List.getElem?_map,List.getElem?_eq_getElem hqag] at hca
     rw [List.getElem?_map,List.getElem?_eq_getElem hqtg] at hct
     simp only [Zau,Int.toNat_natCast,Nat.mul_one,hca,hct,Option.map_some,Zer,Zan hit1,Nat.zero_add,List.getElem?_cons_succ,List.getElem?_cons_zero,Zaj]
     have hma:=List.getElem_mem hga
     have hmt:=List.getElem_mem hgt
     have h1:=Ty.size_part hma
     have h2:=Ty.len_part hmt
     have bo1:BOk n m1:=BOk.matchL (fun x hx=>Ty.ok_ps ha x (List.mem_of_mem_take hx)) (fun x hx=>⟨Ty.ok_ps ht x (List.mem_of_mem_take hx),by have:=Ty.len_part (List.mem_of_mem_take hx); omega⟩) bo hm1
     have htk:=Zwe a.ps t.ps m g hga hgt
     rw [hm1] at htk
     simp only at htk
     refine ⟨by omega,by omega,(Yll N (by omega) (Ty.ok_ps ha _ hma) (Ty.ok_ps ht _ hmt) (by omega) (by omega) bo1 hSi ((hqa g _ _ (List.getElem?_eq_getElem hqag) (List.getElem?_eq_getElem hga)).keep fun j hj hl=>hK.eq j hl (hSi j hj)) ((hqt g _ _ (List.getElem?_eq_getElem hqtg) (List.getElem?_eq_getElem hgt)).keep fun j hj hl=>hK.eq j hl (hSi j hj)) rm1).mono ?_⟩
     rintro v h3 ⟨K3,hres⟩
     cases hmm:matchT m1 a.ps[g] t.ps[g] with
     | none=>
      rw [hmm] at hres htk
      subst hres
      simp only [Zaq,Bool.not_false,Zcv]
      rw [Zwb a.ps t.ps m (g + 1) hlen htk]
      exact ⟨hK.trans K3,rfl⟩
     | some m2=>
      rw [hmm] at hres htk
      obtain ⟨rfl,rm2⟩:=hres
      simp only [Zaq,Bool.not_true,Zca]
      rw [Zbm (by omega)]
      exact hR (g + 1) _ _ (by omega) ⟨rfl,by omega,hK.trans K3,m2,htk,rm2⟩
    ·apply Zgj.A11x0i
     have:g=a.ps.length:=by omega
     subst this
     rw [List.take_length,hlen,List.take_length] at hm1
     rw [hm1]
     exact ⟨hK,rfl,rm1⟩
end Go.Sim

set_option linter.unusedVariables false
set_option linter.unusedSimpArgs false
set_option maxRecDepth 20000
namespace Go.Sim
open Go Go.RowKit

theorem Yah:pg.underlying Zof=some (.slice Zbv):=by kernel_rfl
theorem Yhh:pg.cellsOf Zbv=2:=by kernel_rfl
theorem Ygd:pg.okElem Zbv=true:=by kernel_rfl
theorem Ygx:pg.bytesOf Zbv≤127:=Nat.le_of_ble_eq_true (by kernel_rfl)
theorem Vec.fresh {α:Type} {ty:TypeId} {enc:α→List Zay} {b:Nat} {h:Zaa} {a:Pt} {n c:Nat} {l:List α} (v:Vec ty h a n c (Zdb enc l)) (hn:n=l.length) (ha:∀ i,a=some (i,0)→b≤i):Zds ty enc b h a n l:=by
 refine ⟨hn.symm,?_⟩
 rcases v with ⟨rfl,h0,_⟩ | ⟨i,rfl,hi⟩
 ·exact .inl h0
 ·exact .inr ⟨i,rfl,ha i rfl,hi⟩
theorem Ypu (m:Bd):(bdL m).length≤6:=by
 rw [Yma,List.length_map]; exact Nat.le_trans (List.length_filter_le _ _) (by decide)
theorem Ylc {h:Zaa} {i:Nat} {m:Bd} (rm:Ytk h i m) (bo:BOk 60 m) :
  Zak pg Zpv [.map (some i)] h fun v h'=>Zbc h.length h h'∧∃ a n c e,v=.slice a n c e∧n≤c∧Zds Zbv eP h.length h' a n (bdL m):=by
 have hml:m.length≤6:=by
  have hp:(m.map (·.1)).Perm (Zfh.filter fun v=>decide (v∈m.map (·.1))):=by
   rw [List.perm_ext_iff_of_nodup bo.nd (Zsi.filter _)]
   intro v
   rw [List.mem_filter]
   constructor
   ·intro hv
    obtain ⟨p,hp,rfl⟩:=List.mem_map.1 hv
    exact ⟨(Ztx _).2 (bo.var p hp).1,by simpa using hv⟩
   ·exact fun h=>by simpa using h.2
  have h1:=hp.length_eq
  have h2:=List.length_filter_le (fun v=>decide (v∈m.map (·.1))) Zfh
  rw [List.length_map] at h1
  have h3:Zfh.length=6:=rfl
  omega
 apply Zjk.call
 simp only [Zaw]
 generalize hh0:h ++ [Zcb.cells Zbv [] false]=h0
 have s0:Zbc h.length h h0:=by rw [← hh0]; exact Zal
 have l0:h0.length=h.length + 1:=by rw [← hh0]; simp
 have o0:h0[h.length]?=some (.cells Zbv [] false):=by rw [← hh0]; simp
 refine Yui.mono ?_
 rintro v h2 ⟨rfl,hh2⟩
 simp only [Ycx]
 have s2:Zbc h0.length h0 h2:=by rw [hh2]; exact Zal
 have hc2:h2[h0.length]?=some (.cells Zip [.map (some i)] false):=by rw [hh2]; simp
 obtain ⟨es,clk,hm,hk,hvv,hb,hlt⟩:=id rm
 have S2:=s0.cat s2
 have hm2:=S2.get hm (Own.lt hm)
 have hel:es.length=m.length:=by have:=congrArg List.length hk; simpa using this
 refine (Yda hc2 hm2 (vs:=m.map (·.1)) (by rw [hk,List.map_map]; rfl) bo.nd hb hlt (by omega)).mono ?_
 rintro v h3 ⟨us,hp,hsrt,hcase⟩
 have hus:=Yjw bo hp hsrt
 have hbd:bdL m=us.map fun v=>([v],((Zht m v).getD default).txt):=by rw [Yma,hus]
 have hul:us.length≤6:=by rw [hp.length_eq]; simpa using hml
 have hmem:∀ v∈us,∃ t,Zht m v=some t:=fun v hv=>by
  rw [hus,List.mem_filter] at hv; exact Option.isSome_iff_exists.1 hv.2
 have hgen:∃ a c e,v=.slice a us.length c e∧Row h3.length h3 a us.length (us.map fun v=>Zay.str [v])∧Zbc h2.length h2 h3:=by
  rcases hcase with ⟨rfl,rfl,rfl⟩ | ⟨c,rfl,hc,rfl⟩
  ·exact ⟨_,_,_,rfl,Row.nil,Zbc.refl _ _⟩
  ·refine ⟨_,_,_,rfl,⟨by simp,.inr ⟨h2.length,0,Zbi,_,false,rfl,by simp,by simp; rfl,by simp,by rw [List.drop_zero,List.take_of_length_le (by simp)]⟩⟩,Zal⟩
 obtain ⟨a9,c9,e9,rfl,hrow,s3⟩:=hgen
 simp only [Zaj]
 have S3:=S2.cat s3
 have hS3le:=S3.le
 have o3:h3[h.length]?=some (.cells Zbv [] false):=s3.get (s2.get o0 (Own.lt o0)) (by have:=Own.lt o0; have:=s2.le; omega)
 refine Zjk.L3ind _ _ _ _ _ _ _ (J:=fun (g:Nat) a3 n3 c3 e3 x11 h'=>x11=(g:Int)∧g≤us.length∧Zbc h.length h h'∧(∀ j,j < h3.length→j≠h.length→h'[j]?=h3[j]?)∧h3.length≤h'.length∧n3=g∧n3≤c3∧Vec Zbv h' a3 n3 c3 (Zdb eP ((bdL m).take g))∧(∀ i,a3=some (i,0)→i=h.length ∨ h3.length≤i)) (fun g=>us.length - g) ?_ 0 _ _ _ _ _ _
  ⟨rfl,by omega,S3,fun _ _ _=>rfl,Nat.le_refl _,rfl,Nat.le_refl _,Vec.mk1 (by simpa using o3),fun i hi=>by cases hi; exact .inl rfl⟩
 rintro g a3 n3 c3 e3 x11 h' ⟨rfl,hg,hSm,hK,hle3,rfl,hnc,hv,ha⟩ R hR
 unfold Zjk.L3t
 have hbl:(bdL m).length=us.length:=by rw [hbd]; simp
 refine Zar (fun hlt=>?_) (fun hge=>?_)
 ·have hg':n3 < us.length:=by omega
  obtain ⟨j,o,rfl,hj,hc⟩:=hrow.at hg'
  rw [List.getElem?_map,List.getElem?_eq_getElem hg',Option.map_some] at hc
  -- the row of keys has not turned: it lies apart from the row of bindings
  have hjr:j≠h.length:=by
   rcases hcase with ⟨h0,_⟩ | ⟨c,hsl,_,_⟩
   ·rw [h0] at hg'; simp at hg'
   ·simp only [Zay.slice.injEq,Option.some.injEq,Prod.mk.injEq] at hsl
    have:=s2.le; omega
  have hc':Zag h' (.ptr (some (j,o + n3)))=some (.str [us[n3]]):=by
   rw [← hc]; simp only [Zag,hK j hj hjr]
  obtain ⟨t,ht⟩:=hmem _ (List.getElem_mem hg')
  have hm':=hSm.get hm (Own.lt hm)
  obtain ⟨jj,bb,hf,_⟩:=Zuu (k:=0) hk hvv ht
  simp only [Zau,Int.toNat_natCast,Nat.mul_one,hc',Zah,Zju,hm',Ydg,hf,Option.getD_some,Zaw]
  have htk:(bdL m).take (n3 + 1)=(bdL m).take n3 ++ [([us[n3]],t.txt)]:=by
   rw [List.take_succ_eq_append_getElem (by omega)]
   congr 2
   have:(bdL m)[n3]?=some ([us[n3]],t.txt):=by
    rw [hbd,List.getElem?_map,List.getElem?_eq_getElem hg',Option.map_some,ht,Option.getD_some]
   exact (List.getElem?_eq_some_iff.1 this).2
  refine ⟨by omega,?_⟩
  refine hv.pushN Yah Yhh Ygd Ygx (by rw [Zat Zcr,List.length_take]; omega) rfl (by omega) rfl (by omega) (fun h6 hl6 hi6 hk6=>?_)
  simp only [Zaj]
  rw [Zbm (by omega)]
  have hle:=hSm.le
  have hb9:∀ i,a3=some (i,0)→h.length≤i:=fun i hi=>by rcases ha i hi with hh | hh <;> omega
  refine hR (n3 + 1) _ _ _ _ _ _ (by omega) ⟨rfl,by omega,⟨by omega,fun j hj=>?_⟩,fun j hj hne=>?_,by omega,rfl,Nat.le_refl _,Vec.mk1 ?_,fun i hi=>by cases hi; right; omega⟩
  ·rw [hk6 j (by omega) fun i hi=>by have:=hb9 i hi; omega]; exact hSm.eq j hj
  ·rw [hk6 j (by omega) fun i hi=>by rcases ha i hi with hh | hh <;> omega]; exact hK j hj hne
  ·rw [hi6,htk,Zgw]; rfl
 ·apply Zjk.A3x0i
  have:n3=us.length:=by omega
  subst this
  rw [show (bdL m).take us.length=bdL m from List.take_of_length_le (by omega)] at hv
  exact ⟨hSm,_,_,_,_,rfl,hnc,hv.fresh (b:=h.length) hbl.symm fun i hi=>by rcases ha i hi with hh | hh <;> omega⟩
def Ylg (p s:List Nat) (h:Zaa) (v:Zay) (h':Zaa):Prop:=Zbc h.length h h'∧∃ a n c e,v=.tup [.slice a n c e,.bool (Zti p s)]∧n≤c∧Zds Zbv eP h.length h' a n (Zmu p s)
theorem Zza (p s:List Nat) (h:Zaa):Zak pg Zlo [.str p,.str s] h (Ylg p s h):=by
 apply Zon.call
 refine (Yal p h).mono ?_
 rintro v h1 ⟨s1,q1,rfl,r1⟩
 simp only [Zer]
 refine (Yal s h1).mono ?_
 rintro v h2 ⟨s2,q2,rfl,r2⟩
 simp only [Zer,Zaw]
 have S2:=s1.cat s2
 have s3:Zbc h2.length h2 (h2 ++ [.map [] 0]):=Zal
 have S3:=S2.cat s3
 have no:Zmq p s=none→Ylg p s h (.tup [.slice none 0 0 true,.bool false]) (h2 ++ [.map [] 0]):=fun hn=>
  ⟨S3,none,0,0,true,by unfold Zti; rw [hn]; rfl,Nat.le_refl _,by unfold Zmu; rw [hn]; exact ⟨rfl,.inl rfl⟩⟩
 cases hp:Zkt p with
 | none=>
  rw [hp] at r1; simp only at r1; subst r1
  simp only [Option.isNone_none,Zcv]
  exact no (by unfold Zmq; rw [hp])
 | some a=>
  rw [hp] at r1; simp only at r1
  obtain ⟨i1,rfl,b1,l1⟩:=r1.lt
  simp only [Option.isNone_some,Zca]
  cases ht:Zkt s with
  | none=>
   rw [ht] at r2; simp only at r2; subst r2
   simp only [Option.isNone_none,Zcv]
   exact no (by unfold Zmq; rw [hp,ht])
  | some t=>
   rw [ht] at r2; simp only at r2
   obtain ⟨i2,rfl,b2,l2⟩:=r2.lt
   simp only [Option.isNone_some,Zca]
   obtain ⟨ha1,ha2,ha3⟩:=Zgu.1 hp
   obtain ⟨ht1,ht2,ht3⟩:=Zgu.1 ht
   have hms:Zmq p s=matchT [] a t:=by unfold Zmq; rw [hp,ht]
   have hl1:=s1.le; have hl2:=s2.le
   have R1:=((r1.same s2).same s3).mono (S':=fun j=>j≠h2.length) (fun j hj=>by have:=hj.2; omega)
   have R2:=(r2.same s3).mono (S':=fun j=>j≠h2.length) (fun j hj=>by have:=hj.2; omega)
   have rm:Ytk (h2 ++ [.map [] 0]) h2.length []:=⟨[],0,by simp,rfl,rfl,by simp,by simp⟩
   refine (Yll _ (Nat.le_refl _) ha1 ht1 (by rw [← ht2]; omega) (n:=60) (by rw [← ht2]; exact ht3) BOk.nil (fun j hj=>hj) R1 R2 rm).mono ?_
   rintro v h4 ⟨K4,hres⟩
   have S4:Zbc h.length h h4:=⟨by have:=K4.le; have:=S3.le; omega,fun j hj=>by rw [K4.eq j (by have:=S3.le; omega) (by have:=S2.le; omega)]; exact S3.eq j hj⟩
   cases hm:matchT [] a t with
   | none=>
    rw [hm] at hres hms
    subst hres
    simp only [Zaq,Bool.not_false,Zcv]
    exact ⟨S4,none,0,0,true,by unfold Zti; rw [hms]; rfl,Nat.le_refl _,by unfold Zmu; rw [hms]; exact ⟨rfl,.inl rfl⟩⟩
   | some m=>
    rw [hm] at hres hms
    obtain ⟨rfl,rm4⟩:=hres
    simp only [Zaq,Bool.not_true,Zca]
    apply Zon.J4i
    refine (Ylc rm4 (Ycl hms)).mono ?_
    rintro v h5 ⟨s5,a5,n5,c5,e5,rfl,hc5,f5⟩
    simp only [Zaj]
    refine ⟨S4.cat s5,a5,n5,c5,e5,by unfold Zti; rw [hms]; rfl,hc5,?_⟩
    unfold Zmu; rw [hms]
    exact ⟨f5.1,f5.2.imp id fun ⟨i,ha,hb,hi⟩=>⟨i,ha,by have:=S4.le; omega,hi⟩⟩
theorem Zxb (p s:List Nat) (h:Zaa):Zak pg Zkb [.str p,.str s] h fun v h'=>v=.bool (Zti p s)∧Zbc h.length h h':=by
 apply Zrw.call
 refine (Zza p s h).mono ?_
 rintro v h1 ⟨s1,a,n,c,e,rfl,_⟩
 simp only [Zco,Zae,Zaj,Zaq,Zam]
 exact ⟨by trivial,s1⟩
end Go.Sim

set_option linter.unusedSimpArgs false
set_option linter.unusedVariables false
namespace Go.Sim

noncomputable def Ztj (l:List Nd) (i:Nat):Bool:=Zmi (l.getD i ([],[])).1 && Zoq (l.getD i ([],[])).2 && (i == 0 || Zfo (l.getD (i - 1) ([],[])).1 (l.getD i ([],[])).1)
noncomputable def Zjx (l:List Nd):Bool:=(List.range l.length).all (Ztj l)
def Ybp (l:List Nd) (c:Nat):List Nat:=match l.find? fun p=>decide (p.1=[c]) with | some p=>p.2 | none=>[c]
def Zmb (l:List Nd) (t:List Nat):List Nat:=t.flatMap (Ybp l)
noncomputable def Zts (l:List Nd) (c:Nat):Option Ty:=match l.find? fun p=>decide (p.1=[c]) with | some p=>Zkt p.2 | none=>none
noncomputable def subst (f:Nat→Option Ty):Ty→Ty
 | .k c=>(f c).getD (.k c)
 | .u c a=>.u c (subst f a)
 | .w c a b=>.w c (subst f a) (subst f b)
noncomputable def Zgz (l:List Nd) (t:List Nat):Option (List Nat):=if Zjx l && Zoq t && decide ((Zmb l t).length≤60) then some (Zmb l t) else none
theorem Ycn {l:List Nd} (h:Zjx l=true) {i:Nat} (hi:i < l.length):Zmi l[i].1=true∧Zoq l[i].2=true∧(i=0 ∨ Zfo (l.getD (i - 1) ([],[])).1 l[i].1=true):=by
 unfold Zjx at h
 rw [List.all_eq_true] at h
 have:=h i (List.mem_range.2 hi)
 unfold Ztj at this
 rw [Zgh hi] at this
 simp only [Bool.and_eq_true,Bool.or_eq_true,beq_iff_eq] at this
 exact ⟨this.1.1,this.1.2,this.2⟩
theorem Zux {l:List Nd} (h:Zjx l=true) {p:Nd} (hp:p∈l):Zmi p.1=true∧Zoq p.2=true:=by
 obtain ⟨i,hi,rfl⟩:=List.getElem_of_mem hp
 exact ⟨(Ycn h hi).1,(Ycn h hi).2.1⟩
theorem Zxe {l:List Nd} (h:Zjx l=true) {c:Nat} (hc:Zee c=false):Ybp l c=[c]∧Zts l c=none:=by
 have:l.find? (fun p=>decide (p.1=[c]))=none:=by
  rw [List.find?_eq_none]
  intro p hp e
  have:=(Zux h hp).1
  rw [of_decide_eq_true e] at this
  simp [Zmi,hc] at this
 unfold Ybp Zts
 rw [this]; exact ⟨rfl,rfl⟩
theorem Zyi {l:List Nd} (h:Zjx l=true) (c:Nat):Ybp l c=((Zts l c).getD (.k c)).txt∧∀ t,Zts l c=some t→t.ok=true∧t.txt.length≤60:=by
 unfold Ybp Zts
 cases hf:l.find? (fun p=>decide (p.1=[c])) with
 | none=>exact ⟨rfl,fun t ht=>by cases ht⟩
 | some p=>
  have hp:=List.mem_of_find?_eq_some hf
  obtain ⟨t,ht⟩:=Zwj (Zux h hp).2
  obtain ⟨h1,h2,h3⟩:=Zgu.1 ht
  simp only [ht]
  refine ⟨by simpa using h2,fun u hu=>?_⟩
  cases hu
  exact ⟨h1,by rw [← h2]; exact h3⟩
theorem Zpo {l:List Nd} (h:Zjx l=true) {c:Nat} (hc:Yhk c=true):Ybp l c=[c]:=by
 refine (Zxe h ?_).1
 simp only [Yhk,Bool.or_eq_true,beq_iff_eq] at hc
 rcases hc with (rfl | rfl) | rfl <;> rfl
theorem Yxi {c:Nat} {a:Ty} (h:(Ty.u c a).ok=true):Zee c=false:=by
 cases hv:Zee c with
 | false=>rfl
 | true=>have:=Zto h hv; cases this
theorem Yxq {c:Nat} {a b:Ty} (h:(Ty.w c a b).ok=true):Zee c=false:=by
 cases hv:Zee c with
 | false=>rfl
 | true=>have:=Zto h hv; cases this
theorem Zrl {l:List Nd} (h:Zjx l=true):∀ {t:Ty},t.ok=true→Zmb l t.txt=(subst (Zts l) t).txt∧(subst (Zts l) t).ok=true
 | .k c,ht=>by
  have:=Zyi h c
  simp only [Zmb,Ty.txt,List.flatMap_cons,List.flatMap_nil,List.append_nil,subst]
  refine ⟨this.1,?_⟩
  cases hb:Zts l c with
  | none=>exact ht
  | some t=>exact (this.2 t hb).1
 | .u c a,ht=>by
  have hv:=Yxi ht
  have hh:=ht
  simp only [Ty.ok,Bool.and_eq_true] at ht
  have ih:=Zrl h ht.2
  simp only [Zmb] at ih
  simp only [Zmb,Ty.txt,List.flatMap_cons,List.flatMap_append,List.flatMap_nil,List.append_nil,subst,(Zxe h hv).1,Zpo h Ty.m40,Zpo h Ty.m41,ih.1,List.cons_append,List.nil_append]
  refine ⟨by trivial,?_⟩
  simp only [Ty.ok,Bool.and_eq_true]; exact ⟨ht.1,ih.2⟩
 | .w c a b,ht=>by
  have hv:=Yxq ht
  simp only [Ty.ok,Bool.and_eq_true] at ht
  have ih:=Zrl h ht.1.2
  have ih2:=Zrl h ht.2
  simp only [Zmb] at ih ih2
  simp only [Zmb,Ty.txt,List.flatMap_cons,List.flatMap_append,List.flatMap_nil,List.append_nil,subst,(Zxe h hv).1,Zpo h Ty.m40,Zpo h Ty.m41,Zpo h Ty.m44,ih.1,ih2.1,List.cons_append,List.nil_append]
  refine ⟨by trivial,?_⟩
  simp only [Ty.ok,Bool.and_eq_true]; exact ⟨⟨ht.1.1,ih.2⟩,ih2.2⟩
theorem Ybm (a b:Nat):Zfo [a] [b]=decide (a < b):=by
 simp [Zfo]
theorem Yom {m:Bd} (b:BOk 60 m):Zjx (bdL m)=true:=by
 rw [Yma]
 generalize hvs:(Zfh.filter fun v=>(Zht m v).isSome)=vs
 have hs:vs.Pairwise (· < ·):=by rw [← hvs]; exact Zzd.filter _
 have hm:∀ v∈vs,Zee v=true∧∃ t,Zht m v=some t:=by
  intro v hv
  rw [← hvs,List.mem_filter] at hv
  exact ⟨(Ztx v).1 hv.1,Option.isSome_iff_exists.1 hv.2⟩
 unfold Zjx
 rw [List.all_eq_true]
 intro i hi
 rw [List.mem_range,List.length_map] at hi
 unfold Ztj
 rw [Zgh (by simpa using hi),List.getElem_map]
 obtain ⟨h1,t,h2⟩:=hm _ (List.getElem_mem hi)
 have h3:=b.var _ (Zus h2)
 simp only [h2,Option.getD_some,Zmi,h1,Bool.true_and,Bool.and_eq_true,Bool.or_eq_true,beq_iff_eq]
 refine ⟨Zuz.2 ⟨t,h3.2.1,rfl,h3.2.2⟩,?_⟩
 cases i with
 | zero=>exact .inl rfl
 | succ j=>
  right
  rw [Nat.add_sub_cancel,Zgh (by simp; omega),List.getElem_map,Ybm]
  exact decide_eq_true (List.pairwise_iff_getElem.1 hs j (j + 1) (by omega) hi (by omega))
noncomputable def Zjg (i:Ins) (t:List Nat):Option (List Nd):=
 match Zmq i.1.2 t with
 | none=>none
 | some m=>if i.2.all fun n=>(Zgz (bdL m) n.2).isSome then some (i.2.map fun n=>(n.1,Zmb (bdL m) n.2)) else none
end Go.Sim

set_option linter.unusedVariables false
set_option linter.unusedSimpArgs false
set_option maxRecDepth 20000
namespace Go.Sim
open Go Go.RowKit

theorem Ydo {k:Nat} (h0:0 < k) (hn:k≤9223372036854775807):IntKind.wrap .i64 ((k:Int) - 1)=((k - 1:Nat):Int):=by rw [IntWalk.i64_in _ (by omega)]; omega
theorem Zzo {h:Zaa} {a:Pt} {n c:Nat} {e:Bool} {l:List Nd} (r:Row h.length h a (n * 2) (Zdb eP l)) (hn:n≤1048576) :
  Zak pg Zkk [.slice a n c e] h fun v h'=>v=.bool (Zjx l)∧Zbc h.length h h':=by
 have hl:l.length=n:=by have:=r.1; rw [Zat Zcr] at this; omega
 apply Zff.call
 refine Zff.L2ind _ _ _ _ _ _ _ _ _ _ (J:=fun (g:Nat) x7 h'=>x7=(g:Int)∧g≤n∧Zbc h.length h h'∧(List.range g).all (Ztj l)=true) (fun g=>n - g) ?_ 0 _ _ ⟨rfl,by omega,Zbc.refl _ _,rfl⟩
 rintro g x7 h' ⟨rfl,hg,hS,hk⟩ R hR
 unfold Zff.L2t
 refine Zar (fun hlt=>?_) (fun hge=>?_)
 ·obtain ⟨i,o,hgl,rfl,hi,hr,_,_⟩:=(r.same hS).pr (k:=g) (by omega)
  have hat:Ztj l g=(Zmi l[g].1 && Zoq l[g].2 && (g == 0 || Zfo (l.getD (g - 1) ([],[])).1 l[g].1)):=by unfold Ztj; rw [Zgh hgl]
  have no:Ztj l g=false→Zjx l=false:=fun hno=>Zmd hgl hno
  simp only [Zau,Int.toNat_natCast,hr,Zao,Zae,Zam,Zah,Zaw]
  rw [Zfb]
  generalize hq:h' ++ [Zcb.cells Zbv [.str l[g].1,.str l[g].2] false]=hq'
  have sq:Zbc h'.length h' hq':=by rw [← hq]; exact Zal
  have oq:hq'[h'.length]?=some (.cells Zbv [.str l[g].1,.str l[g].2] false):=by rw [← hq]; simp
  simp only [Zas,Zan oq,Nat.zero_add,List.getElem?_cons_succ,List.getElem?_cons_zero,Zah]
  refine ⟨by omega,(Yer l[g].1).mono ?_⟩
  rintro v h2 ⟨rfl,rfl⟩
  have Sq:=hS.cat sq
  simp only [Zaq,true_and]
  refine Zbs (fun b1=>⟨by rw [no (by rw [hat,b1]; rfl)],Sq⟩) (fun b1=>?_)
  simp only [Zan oq,List.getElem?_cons_succ,List.getElem?_cons_zero,Zah]
  refine (Zny l[g].2 h2).mono ?_
  rintro v h3 ⟨rfl,s3⟩
  simp only [Zaq]
  have S3:=Sq.cat s3
  refine Zbs (fun b2=>⟨by rw [no (by rw [hat,b1,b2]; rfl)],S3⟩) (fun b2=>?_)
  have go:(g=0 ∨ Zfo (l.getD (g - 1) ([],[])).1 l[g].1=true)→Zff.J6 (fun v h'=>v=.bool (Zjx l)∧Zbc h.length h h') R (g:Int) (((n:Nat):Int)) (some (i,o)) n c e (some (i,o)) n c e h3:=by
   intro hz
   apply Zff.J6i
   rw [Zbm (by omega)]
   refine hR (g + 1) _ _ (by omega) ⟨rfl,by omega,S3,Ziz hk ?_⟩
   rw [hat,b1,b2]
   rcases hz with rfl | hz
   ·rfl
   ·rw [hz]; simp
  refine Zar (fun hpos=>?_) (fun hz=>go (.inl (by omega)))
  have hg0:0 < g:=by omega
  obtain ⟨i',o',hgl',he,_,_,hc',_⟩:=(r.same S3).pr (k:=g - 1) (by omega)
  cases he
  rw [Ydo hg0 (by omega)]
  simp only [Zau,Int.toNat_natCast,Nat.add_zero,hc',Zan (s3.get oq (Own.lt oq)),List.getElem?_cons_zero,Zah,true_and]
  have hgd:l.getD (g - 1) ([],[])=l[g - 1]:=Zgh hgl'
  refine ⟨by omega,Zbs (fun b3=>⟨by rw [no (by rw [hat,b1,b2,hgd,b3]; simp; omega)],S3⟩) (fun b3=>go (.inr (by rw [hgd]; exact b3)))⟩
 ·apply Zff.A2x0i
  have:g=n:=by omega
  subst this
  exact ⟨by unfold Zjx; rw [hl,hk],hS⟩
theorem Yzc {s:List Nat} {g:Nat} (hg:g < s.length):sub s (g:Int) (((g + 1:Nat):Int))=[s[g]]:=by
 unfold sub
 rw [Int.toNat_natCast,Int.toNat_natCast,List.take_succ_eq_append_getElem hg,List.drop_append_of_le_length (by simp; omega),List.drop_of_length_le (by simp; omega)]; rfl
theorem Yha {l:List Nd} (h:Zjx l=true) (c:Nat):(Ybp l c).length≤60:=by
 obtain ⟨h1,h2⟩:=Zyi h c
 rw [h1]
 cases hb:Zts l c with
 | none=>simp [Ty.txt]
 | some t=>exact (h2 t hb).2
theorem Zyl {l:List Nd} (h:Zjx l=true):∀ (t:List Nat),(Zmb l t).length≤60 * t.length
 | []=>by simp [Zmb]
 | c :: t=>by
  have h1:=Yha h c
  have h2:=Zyl h t
  simp only [Zmb,List.flatMap_cons,List.length_append,List.length_cons] at h2 ⊢
  omega
theorem Yjg {l:List Nd} {t:List Nat} {g:Nat} (hg:g < t.length):Zmb l (t.take (g + 1))=Zmb l (t.take g) ++ Ybp l t[g]:=by
 unfold Zmb; rw [List.take_succ_eq_append_getElem hg,List.flatMap_append]; simp
noncomputable def Zpy (l:List Nd) (t:List Nat):Zay:=match Zgz l t with | some u=>.tup [.str u,.bool true] | none=>.tup [.str [],.bool false]
theorem Zzq {h:Zaa} {a:Pt} {n c:Nat} {e:Bool} {l:List Nd} {t:List Nat} (r:Row h.length h a (n * 2) (Zdb eP l)) (hn:n≤1048576) :
  Zak pg Zko [.slice a n c e,.str t] h fun v h'=>v=Zpy l t∧Zbc h.length h h':=by
 have hl:l.length=n:=by have:=r.1; rw [Zat Zcr] at this; omega
 apply Zdr.call
 refine (Zzo r hn).mono ?_
 rintro v h1 ⟨rfl,s1⟩
 simp only [Zaq]
 refine Zbs (fun b1=>⟨by unfold Zpy Zgz; rw [b1]; rfl,s1⟩) (fun b1=>?_)
 refine (Zny t h1).mono ?_
 rintro v h2 ⟨rfl,s2⟩
 simp only [Zaq]
 have S2:=s1.cat s2
 refine Zbs (fun b2=>⟨by unfold Zpy Zgz; rw [b1,b2]; rfl,S2⟩) (fun b2=>?_)
 have ht60:=Zzs b2
 apply Zdr.J3i
 refine Zdr.L5ind _ _ _ _ _ _ _ (J:=fun (g:Nat) x6 x21 h'=>x21=(g:Int)∧g≤t.length∧Zbc h.length h h'∧x6=Zmb l (t.take g)) (fun g=>t.length - g) ?_ 0 _ _ _ ⟨rfl,by omega,S2,by simp [Zmb]⟩
 rintro g x6 x21 h' ⟨rfl,hg,hS,rfl⟩ R hR
 unfold Zdr.L5t
 refine Zar (fun hlt=>?_) (fun hge=>?_)
 ·have hgt:g < t.length:=by omega
  rw [Zbm (by omega),Yzc hgt]
  refine ⟨⟨by omega,by omega,by omega⟩,?_⟩
  have hal:=Zyl b1 (t.take g)
  rw [List.length_take] at hal
  have fin:∀ (h3:Zaa) (x8:List Nat),Zbc h.length h h3→x8=Ybp l t[g]→Zdr.A9x2 (fun v h'=>v=Zpy l t∧Zbc h.length h h') R (Zmb l (t.take g)) x8 (g:Int) (((t.length:Nat):Int)) t a n c e h3:=by
   intro h3 x8 s3 hx
   apply Zdr.A9x2i
   have:=Yha b1 t[g]
   rw [hx,Zbm (by omega)]
   exact ⟨by omega,hR (g + 1) _ _ _ (by omega) ⟨rfl,by omega,s3,(Yjg hgt).symm⟩⟩
  refine Zdr.L9ind _ _ _ _ _ _ _ _ _ _ _ _ _ _ _ (J:=fun (q:Nat) x8 x31 h3=>x31=(q:Int)∧q≤n∧Zbc h.length h h3∧x8=[t[g]]∧(l.take q).find? (fun p=>decide (p.1=[t[g]]))=none) (fun q=>n - q) ?_ 0 _ _ _ ⟨rfl,by omega,hS,rfl,rfl⟩
  rintro q x8 x31 h3 ⟨rfl,hq,hS3,rfl,hf⟩ R9 hR9
  unfold Zdr.L9t
  refine Zar (fun hlt3=>?_) (fun hge3=>?_)
  ·obtain ⟨i,o,hql,rfl,hi,hr,_,_⟩:=(r.same hS3).pr (k:=q) (by omega)
   simp only [Zau,Int.toNat_natCast,hr,Zao,Zae,Zam,Zah,Zaw]
   rw [Zfb]
   have sq:Zbc h3.length h3 (h3 ++ [Zcb.cells Zbv [.str l[q].1,.str l[q].2] false]):=Zal
   simp only [Zas,Zgm,Nat.zero_add,List.getElem?_cons_succ,List.getElem?_cons_zero,Zah]
   refine ⟨by omega,Zar (fun he=>?_) (fun he=>?_)⟩
   ·refine fin _ _ (hS3.cat sq) ?_
    unfold Ybp
    rw [Yoi hql hf (by simp [he])]
   ·rw [Zbm (by omega)]
    exact hR9 (q + 1) _ _ _ (by omega) ⟨rfl,by omega,hS3.cat sq,rfl,Ybv hql hf (by simp [he])⟩
  ·have:q=n:=by omega
   subst this
   rw [List.take_of_length_le (by omega)] at hf
   exact fin _ _ hS3 (by unfold Ybp; rw [hf])
 ·apply Zdr.A5x0i
  have:g=t.length:=by omega
  subst this
  rw [List.take_length]
  refine Zar (fun hbig=>⟨?_,hS⟩) (fun hsm=>⟨?_,hS⟩)
  ·unfold Zpy Zgz
   rw [if_neg (by simp; omega)]
  ·unfold Zpy Zgz
   rw [if_pos (by rw [b1,b2]; simp; omega)]
def Ypj (i:Ins) (t:List Nat) (h:Zaa) (v:Zay) (h':Zaa):Prop:=Zbc h.length h h'∧∃ a n c e,v=.tup [.slice a n c e,.bool (Zjg i t).isSome]∧Zds Zab eP h.length h' a n ((Zjg i t).getD [])
theorem Yig:pg.underlying Zbo=some (.slice Zab):=by kernel_rfl
theorem Yth:pg.cellsOf Zab=2:=by kernel_rfl
theorem Ytj:pg.okElem Zab=true:=by kernel_rfl
theorem Ysj:pg.bytesOf Zab≤127:=Nat.le_of_ble_eq_true (by kernel_rfl)
noncomputable def Yww (l:List Nd) (n:Nd):Nd:=(n.1,(Zgz l n.2).getD [])
theorem Ymn {l:List Nd} {ns:List Nd} (h:ns.all (fun n=>(Zgz l n.2).isSome)=true):ns.map (Yww l)=ns.map fun n=>(n.1,Zmb l n.2):=by
 apply List.map_congr_left
 intro n hn
 have:=List.all_eq_true.1 h n hn
 obtain ⟨u,hu⟩:=Option.isSome_iff_exists.1 this
 unfold Yww
 rw [hu]
 unfold Zgz at hu
 split at hu
 ·cases hu; rfl
 ·cases hu
theorem Yuc {h:Zaa} {a:Pt} {n c:Nat} {e:Bool} {i:Ins} {t:List Nat} (r:Row h.length h a (n * 2) (Zdb eP i.2)) (hn:n≤1048576) :
  Zak pg Zjt [.agg [.str i.1.1,.str i.1.2,.slice a n c e],.str t] h (Ypj i t h):=by
 have hl:i.2.length=n:=by have:=r.1; rw [Zat Zcr] at this; omega
 apply Zei.call
 simp only [Zaw]
 generalize hh0:h ++ [Zcb.cells Zad [.str i.1.1,.str i.1.2,.slice a n c e] false]=h0
 have s0:Zbc h.length h h0:=by rw [← hh0]; exact Zal
 have o0:h0[h.length]?=some (.cells Zad [.str i.1.1,.str i.1.2,.slice a n c e] false):=by rw [← hh0]; simp
 simp only [Zan o0,Nat.zero_add,List.getElem?_cons_succ,List.getElem?_cons_zero,Zah]
 refine (Zza i.1.2 t h0).mono ?_
 rintro v h1 ⟨s1,ma,mn,mc,me,rfl,hmc,fm⟩
 simp only [Zco,Zae,Zaj,Zaq,Zam]
 generalize hh2:h1 ++ [Zcb.cells Zab [] false]=h2
 have s2:Zbc h1.length h1 h2:=by rw [← hh2]; exact Zal
 have o2:h2[h1.length]?=some (.cells Zab [] false):=by rw [← hh2]; simp
 have S2:=(s0.cat s1).cat s2
 have hml:(Zmu i.1.2 t).length≤6:=by unfold Zmu; split <;> first | exact Ypu _ | simp
 have hmn:=fm.1
 have x2:=s2.get (s1.get o0 (Own.lt o0)) (by have:=Own.lt o0; have:=s1.le; omega)
 simp only [Zan x2,List.getElem?_cons_succ,List.getElem?_cons_zero,Zaj]
 have hS1le:h.length≤h1.length:=(s0.cat s1).le
 generalize hml':Zmu i.1.2 t=ml at *
 refine Zei.L4ind _ _ _ _ _ _ _ _ _ _ (J:=fun (g:Nat) x7 a8 n8 c8 e8 x25 h'=>x25=(g:Int)∧g≤n∧Zbc h.length h h'∧h1.length < h'.length∧Row h'.length h' ma (mn * 2) (Zdb eP ml)∧x7=(Zti i.1.2 t && (i.2.take g).all fun p=>(Zgz ml p.2).isSome)∧n8=g∧Vec Zab h' a8 n8 c8 (Zdb eP ((i.2.take g).map (Yww ml)))∧(∀ j,a8=some (j,0)→h1.length≤j)) (fun g=>n - g) ?_ 0 _ _ _ _ _ _ _
  ⟨rfl,by omega,S2,Own.lt o2,(fm.row Zcr).same' s2,by simp,rfl,Vec.mk1 (by simpa using o2),fun j hj=>by cases hj; omega⟩
 rintro g x7 a8 n8 c8 e8 x25 h' ⟨rfl,hg,hS,hlt1,hrm,rfl,rfl,hv,ha⟩ R hR
 unfold Zei.L4t
 refine Zar (fun hlt=>?_) (fun hge=>?_)
 ·obtain ⟨j,o,hgl,rfl,hj,hr,_,_⟩:=(r.same hS).pr (k:=n8) (by omega)
  simp only [Zau,Int.toNat_natCast,hr,Zao,Zae,Zam,Zah,Zaw]
  rw [Zfb]
  generalize hq:h' ++ [Zcb.cells Zab [.str i.2[n8].1,.str i.2[n8].2] false]=hq'
  have sq:Zbc h'.length h' hq':=by rw [← hq]; exact Zal
  have oq:hq'[h'.length]?=some (.cells Zab [.str i.2[n8].1,.str i.2[n8].2] false):=by rw [← hq]; simp
  simp only [Zas,Zan oq,Nat.zero_add,List.getElem?_cons_succ,List.getElem?_cons_zero,Zah]
  refine ⟨by omega,(Zzq (hrm.same' sq) (by omega)).mono ?_⟩
  rintro v h3 ⟨rfl,s3⟩
  have hshape:Zpy ml i.2[n8].2=.tup [.str ((Zgz ml i.2[n8].2).getD []),.bool (Zgz ml i.2[n8].2).isSome]:=by
   unfold Zpy; cases Zgz ml i.2[n8].2 <;> rfl
  rw [hshape]
  simp only [Zco,Zae,Zah,Zaq,Zam]
  have S3:=(hS.cat sq).cat s3
  have o3:=s3.get oq (Own.lt oq)
  have tk:(i.2.take (n8 + 1)).all (fun p=>(Zgz ml p.2).isSome)=((i.2.take n8).all (fun p=>(Zgz ml p.2).isSome) && (Zgz ml i.2[n8].2).isSome):=by
   rw [List.take_succ_eq_append_getElem hgl,List.all_append]; simp
  have go:∀ b9,b9=(Zti i.1.2 t && (i.2.take (n8 + 1)).all fun p=>(Zgz ml p.2).isSome)→Zei.J8 (Ypj i t h) R a8 n8 c8 e8 h'.length 0 ((Zgz ml i.2[n8].2).getD []) (n8:Int) (((n:Nat):Int)) (some (j,o)) n c e ma mn mc me b9 h3:=by
   intro b9 hb9
   apply Zei.J8i
   simp only [Zan o3,Nat.zero_add,List.getElem?_cons_zero,Zah,Zaw]
   refine ((hv.same sq).same s3).pushN Yig Yth Ytj Ysj (by rw [Zat Zcr]; simp; omega) rfl (by omega) rfl (by omega) (fun h6 hl6 hi6 hk6=>?_)
   simp only [Zaj]
   apply Zei.J9i
   rw [Zbm (by omega)]
   have hle:=S3.le
   refine hR (n8 + 1) _ _ _ _ _ _ _ (by omega) ⟨rfl,by omega,⟨by omega,fun j hj=>?_⟩,by have:=sq.le; have:=s3.le; omega,?_,hb9,rfl,Vec.mk1 ?_,fun j hj=>by cases hj; have:=sq.le; have:=s3.le; omega⟩
   ·rw [hk6 j (by omega) fun q hq=>by have:=ha q hq; omega]; exact S3.eq j hj
   ·have hr3:=(hrm.same' sq).same' s3
    obtain ⟨hx1,hx2⟩:=hr3
    rcases fm.2 with h0 | ⟨q2,hq2,_,hq3⟩
    ·exact ⟨hx1,.inl (by omega)⟩
    ·refine ⟨hx1,hx2.imp id ?_⟩
     rintro ⟨q,o',ty,all,ro,hqa,hqb,hqg,hq4,hq5⟩
     refine ⟨q,o',ty,all,ro,hqa,by omega,?_,hq4,hq5⟩
     rw [hk6 q hqb fun q' hq'=>?_]
     ·exact hqg
     ·intro e
      subst e
      have h1l:=ha q hq'
      rw [hqa] at hq2; cases hq2
      have:=Own.lt hq3; omega
   ·rw [hi6,List.take_succ_eq_append_getElem hgl,List.map_append,Zgw]; rfl
  refine Zdj (fun hb=>go _ (by rw [tk,← Bool.and_assoc,hb]; rfl)) (fun hb=>go _ (by rw [tk,← Bool.and_assoc,hb]; rfl))
 ·apply Zei.A4x0i
  have:n8=n:=by omega
  subst this
  rw [show i.2.take n8=i.2 from List.take_of_length_le (by omega)] at hv ⊢
  have hnw:Zjg i t=if Zti i.1.2 t && i.2.all (fun p=>(Zgz ml p.2).isSome) then some (i.2.map (Yww ml)) else none:=by
   unfold Zjg Zti
   unfold Zmu at hml'
   cases hm:Zmq i.1.2 t with
   | none=>rfl
   | some m=>
    rw [hm] at hml'
    simp only at hml'
    subst hml'
    simp only [Option.isSome_some,Bool.true_and]
    by_cases hall:i.2.all (fun p=>(Zgz (bdL m) p.2).isSome)=true
    ·rw [if_pos hall,if_pos hall,Ymn hall]
    ·rw [if_neg hall,if_neg hall]
  refine Zbs (fun hb=>?_) (fun hb=>?_)
  ·have:Zjg i t=none:=by rw [hnw,hb]; rfl
   exact ⟨hS,none,0,0,true,by rw [this]; rfl,by rw [this]; exact ⟨rfl,.inl rfl⟩⟩
  ·have:Zjg i t=some (i.2.map (Yww ml)):=by rw [hnw,hb]; rfl
   refine ⟨hS,a8,n8,c8,e8,by rw [this]; rfl,?_⟩
   rw [this]
   exact hv.fresh (b:=h.length) (by simp; omega) fun j hj=>by have:=ha j hj; omega
end Go.Sim
