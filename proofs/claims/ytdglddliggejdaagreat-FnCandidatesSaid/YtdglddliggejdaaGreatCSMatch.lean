/- A part of the proof of a statement of this seat: see the text that holds the theorem. No condition. -/
import Derived.Test.YtdglddliggejdaaGreatPTCWCls2
import Derived.Test.YtdglddliggejdaaGreatCWVar2
import Derived.Test.YtdglddliggejdaaGreatNm
import Derived.Test.YtdglddliggejdaaGreatCSTy
import Derived.Test.YtdglddliggejdaaGreatSimX
import Derived.Test.YtdglddliggejdaaGreatShelf
import Derived.Test.YtdglddliggejdaaGreatPTCMatch
set_option linter.unusedVariables false
set_option linter.unusedSimpArgs false
set_option linter.all false
set_option linter.unusedVariables false
set_option linter.unusedSimpArgs false
set_option maxRecDepth 20000
namespace Go.Sim
open Go Go.RowKit

structure WB (w:Wd):Prop where
 lc:w.cs.length≤1048576
 li:w.is.length≤1048576
 cs:∀ p∈w.cs,p.1.length≤1048576∧p.2.length≤1048576∧∀ b∈p.1,b < 256
 is:∀ i∈w.is,i.1.1.length≤1048576∧i.1.2.length≤1048576∧i.2.length≤1048576∧∀ p∈i.2,p.1.length≤1048576∧p.2.length≤1048576
def Zsa (a0:Pt) (n0 c0:Nat) (e0:Bool) (a1:Pt) (n1 c1:Nat) (e1:Bool):Zcc:=.cells Zad [.slice a0 n0 c0 e0,.slice a1 n1 c1 e1] false
theorem Yeb {h:Zaa} {j:Nat} {a0 a1:Pt} {n0 c0 n1 c1:Nat} {e0 e1:Bool} (hj:h[j]?=some (Zsa a0 n0 c0 e0 a1 n1 c1 e1)):Zan h (.ptr (some (j,0))) 2=some [.slice a0 n0 c0 e0,.slice a1 n1 c1 e1]:=by
 rw [Zed (show h[j]?=some (.cells Zad [.slice a0 n0 c0 e0,.slice a1 n1 c1 e1] false) from hj) (by simp)]; rfl
theorem Yau {h:Zaa} {j o:Nat} {a0 a1:Pt} {n0 c0 n1 c1:Nat} {e0 e1:Bool} (hj:h[j]?=some (Zsa a0 n0 c0 e0 a1 n1 c1 e1)):Zai h (.ptr (some (j,o)))=([.slice a0 n0 c0 e0,.slice a1 n1 c1 e1]:List Zas)[o]?:=Zak (show h[j]?=some (.cells Zad [.slice a0 n0 c0 e0,.slice a1 n1 c1 e1] false) from hj)
theorem Zbe.get {b:Nat} {h h':Zaa} {j:Nat} {x:Zcc} (s:Zbe b h h') (hj:h[j]?=some x) (hb:j < b):h'[j]?=some x:=by rw [s.eq j hb]; exact hj
theorem Zbe.cat {h h1 h2:Zaa} (a:Zbe h.length h h1) (b:Zbe h1.length h1 h2):Zbe h.length h h2:=a.trans (b.mono a.le)

theorem Yfm {h:Zaa} {t:TypeId} {x y:Zas}:Zan (h ++ [.cells t [x,y] false]) (.ptr (some (h.length,0))) 2=some [x,y]:=Ybu rfl
theorem Yqd {h:Zaa} {t:TypeId} {x y z:Zas}:Zan (h ++ [.cells t [x,y,z] false]) (.ptr (some (h.length,0))) 3=some [x,y,z]:=Ybu rfl
theorem Yga {h:Zaa} {a0 a1 a2:Pt} {n0 c0 n1 c1 n2 c2 j:Nat} {e0 e1 e2:Bool} {w:Wd} {ns:List Nd} {ct tt:List Nat} (r:Zpz h a0 n0 c0 a1 n1 c1 w) (b:WB w) (hj:h[j]?=some (Zsa a0 n0 c0 e0 a1 n1 c1 e1))
  (r2:Row h.length h a2 (n2 * 2) (Zdq eP ns)) (hn2:n2≤1048576) (hns:∀ p∈ns,p.2.length≤1048576) (htt:tt.length≤1048576) :
  Zah pg Zcm [.agg [.str ct,.str tt,.slice a2 n2 c2 e2],.ptr (some (j,0))] h fun v h'=>v=.bool (!Zlw w.cs ((ct,tt),ns))∧Zbe h.length h h':=by
 apply Zke.call
 simp only [Zax]
 have s1:Zbe h.length h (h ++ [.cells Zac [.str ct,.str tt,.slice a2 n2 c2 e2] false]):=Zao
 rw [Yeb (s1.get hj (Own.lt hj)),Yqd]
 simp only [Zau,Zaj,Zar,Zaf,Zam]
 have hlc:=b.lc
 have hl0:=r.len0
 refine (Zvv (r.cls.same' s1) r.le0 (by omega) (fun p hp=>(b.cs p hp).2.1) (r2.same' s1) hn2 hns htt).mono ?_
 rintro v h2 ⟨rfl,s2⟩
 simp only [Zap]
 exact ⟨by trivial,s1.cat s2⟩
theorem Yfh {h:Zaa} {a0 a1:Pt} {n0 c0 n1 c1 j:Nat} {e0 e1:Bool} {w:Wd} (r:Zpz h a0 n0 c0 a1 n1 c1 w) (b:WB w) (hj:h[j]?=some (Zsa a0 n0 c0 e0 a1 n1 c1 e1)) :
  Zah pg Zdk [.slice a1 n1 c1 e1,.fn Zcm [.ptr (some (j,0))]] h fun v h'=>(∃ z:Int,v=.int .i64 z∧decide (z ≥ 0)=!w.is.all (Zlw w.cs))∧Zbe h.length h h':=by
 have hl:=r.len1
 have hli:=b.li
 apply Zbm.call
 refine Zbm.L2ind _ _ _ _ _ _ _ (J:=fun (g:Nat) x8 h'=>x8=(g:Int)∧g≤n1∧Zbe h.length h h'∧(w.is.take g).all (Zlw w.cs)=true) (fun g=>n1 - g) ?_ 0 _ _ ⟨rfl,by omega,Zbe.refl _ _,rfl⟩
 rintro g x8 h' ⟨rfl,hg,hS,hk⟩ R hR
 unfold Zbm.L2t
 refine Zav (fun hlt=>?_) (fun hge=>?_)
 ·obtain ⟨i,o,hgl,a2,n2,c2,e2,rfl,_,hr,_,_,_,hrow,hn⟩:=(r.same hS).inst (k:=g) (by omega)
  simp only [Zaw,Int.toNat_natCast,hr,Zau,Zaj,Zar,Zam,Zaf]
  have hb:=b.is _ (List.getElem_mem hgl)
  refine ⟨by omega,(Yga (r.same hS) b (hS.get hj (Own.lt hj)) hrow (by omega) (fun p hp=>(hb.2.2.2 p hp).2) hb.2.1).mono ?_⟩
  rintro v h2 ⟨rfl,s2⟩
  simp only [Zap]
  have hS2:=hS.cat s2
  refine Zcq (fun he=>?_) (fun he=>?_)
  ·exact ⟨⟨_,rfl,by rw [Zuj hgl he]; simp⟩,hS2⟩
  ·rw [Zbt (by omega)]
   exact hR (g + 1) _ _ (by omega) ⟨rfl,by omega,hS2,Zhz hgl hk he⟩
 ·apply Zbm.A2x0i
  have:g=n1:=by omega
  subst this
  rw [List.take_of_length_le (by omega)] at hk
  exact ⟨⟨_,rfl,by rw [hk]; rfl⟩,hS⟩
theorem Yap {h:Zaa} {a0 a1:Pt} {n0 c0 n1 c1:Nat} {e0 e1:Bool} {w:Wd} (r:Zpz h a0 n0 c0 a1 n1 c1 w) (b:WB w) :
  Zah pg Zkj [.agg [.slice a0 n0 c0 e0,.slice a1 n1 c1 e1]] h fun v h'=>v=.bool (Zgb w)∧Zbe h.length h h':=by
 have hl0:=r.len0
 have hl1:=r.len1
 have hlc:=b.lc
 apply Znz.call
 simp only [Zax]
 generalize hh0:h ++ [Zcc.cells Zad [.slice a0 n0 c0 e0,.slice a1 n1 c1 e1] false]=h0
 have s0:Zbe h.length h h0:=by rw [← hh0]; exact Zao
 have w0:h0[h.length]?=some (Zsa a0 n0 c0 e0 a1 n1 c1 e1):=by rw [← hh0]; simp [Zsa]
 rw [Yeb w0]
 simp only [Zau,Zaj,Zar,Zaf]
 refine (Zvc (r.cls.same' s0) r.le0 (by omega) (fun p hp=>(b.cs p hp).2.1)).mono ?_
 rintro v h2 ⟨rfl,s2⟩
 have S2:=s0.cat s2
 have w2:=s2.get w0 (Own.lt w0)
 simp only [Zap]
 refine Zdb (fun b1=>?_) (fun b1=>⟨by unfold Zgb; rw [b1]; rfl,S2⟩)
 simp only [Yau w2,Nat.zero_add,List.getElem?_cons_succ,List.getElem?_cons_zero,Zaf]
 refine Zav (fun b2=>?_) (fun b2=>⟨by unfold Zgb; rw [b1]; simp [show ¬ w.is.length≤10 by omega],S2⟩)
 apply Zcw.call
 refine (Yfh (r.same S2) b w2).mono ?_
 rintro v h3 ⟨⟨z,rfl,hz⟩,s3⟩
 simp only [Zaq,Zap]
 refine ⟨?_,S2.cat s3⟩
 rw [hz,Bool.not_not]
 unfold Zgb
 rw [b1]; simp [show w.is.length≤10 by omega]
theorem Zsg {h:Zaa} {a0 a1:Pt} {n0 c0 n1 c1:Nat} {e0 e1:Bool} {w:Wd} (r:Zpz h a0 n0 c0 a1 n1 c1 w) (b:WB w) :
  Zah pg Zie [.agg [.slice a0 n0 c0 e0,.slice a1 n1 c1 e1]] h fun v h'=>v=.bool (Zgb w)∧Zbe h.length h h':=by
 have hl0:=r.len0
 have hl1:=r.len1
 have hlc:=b.lc
 have hli:=b.li
 apply Zgd.call
 simp only [Zax]
 generalize hh0:h ++ [Zcc.cells Zad [.slice a0 n0 c0 e0,.slice a1 n1 c1 e1] false]=h0
 have s0:Zbe h.length h h0:=by rw [← hh0]; exact Zao
 have w0:h0[h.length]?=some (Zsa a0 n0 c0 e0 a1 n1 c1 e1):=by rw [← hh0]; simp [Zsa]
 simp only [Yau w0,Nat.zero_add,List.getElem?_cons_succ,List.getElem?_cons_zero,Zaf]
 refine Zgd.L2ind _ _ _ _ _ _ _ _ (J:=fun (g:Nat) x8 h'=>x8=(g:Int)∧g≤n1∧Zbe h0.length h0 h'∧(w.is.take g).all (Zlw w.cs)=true) (fun g=>n1 - g) ?_ 0 _ _ ⟨rfl,by omega,Zbe.refl _ _,rfl⟩
 rintro g x8 h' ⟨rfl,hg,hS,hk⟩ R hR
 have SS:=s0.cat hS
 have w1:=hS.get w0 (Own.lt w0)
 unfold Zgd.L2t
 refine Zav (fun hlt=>?_) (fun hge=>?_)
 ·obtain ⟨i,o,hgl,a2,n2,c2,e2,rfl,_,hr,_,_,_,hrow,hn⟩:=(r.same SS).inst (k:=g) (by omega)
  simp only [Zaw,Int.toNat_natCast,hr,Zau,Zaj,Zar,Zam,Zaf,Zax]
  rw [Ytw]
  generalize hq:h' ++ [Zcc.cells Zac [.str w.is[g].1.1,.str w.is[g].1.2,.slice a2 n2 c2 e2] false]=hq'
  have sq:Zbe h'.length h' hq':=by rw [← hq]; exact Zao
  simp only [Zat]
  rw [Yeb (sq.get w1 (Own.lt w1)),← hq,Yqd,hq]
  simp only [Zau,Zaj,Zar,Zam,Zaf]
  have hb:=b.is _ (List.getElem_mem hgl)
  have Sq:=SS.cat sq
  refine ⟨by omega,(Zur (r.cls.same' Sq) r.le0 (by omega) (fun p hp=>(b.cs p hp).2.1) (fun p hp=>(b.cs p hp).2.2) (hrow.same' sq) (by omega) (fun p hp=>(hb.2.2.2 p hp).2) hb.2.1).mono ?_⟩
  rintro v h2 ⟨rfl,s2⟩
  simp only [Zap]
  refine Zcq (fun he=>?_) (fun he=>?_)
  ·exact ⟨by unfold Zgb; rw [Zuj hgl he]; simp,Sq.cat s2⟩
  ·rw [Zbt (by omega)]
   exact hR (g + 1) _ _ (by omega) ⟨rfl,by omega,(hS.cat sq).cat s2,Zhz hgl hk he⟩
 ·apply Zgd.A2x0i
  have:g=n1:=by omega
  subst this
  rw [List.take_of_length_le (by omega)] at hk
  simp only [Yau w1,Nat.zero_add,List.getElem?_cons_zero,Zaf]
  refine (Zvl (r.cls.same' SS) r.le0 (by omega) (fun p hp=>(b.cs p hp).2.1) (fun p hp=>(b.cs p hp).2.2)).mono ?_
  rintro v h2 ⟨rfl,s2⟩
  simp only [Zap]
  have w2:=s2.get w1 (Own.lt w1)
  refine Zdb (fun b1=>?_) (fun b1=>⟨by unfold Zgb; rw [b1]; rfl,SS.cat s2⟩)
  simp only [Yau w2,Nat.zero_add,List.getElem?_cons_succ,List.getElem?_cons_zero,Zaf]
  refine ⟨?_,SS.cat s2⟩
  unfold Zgb
  rw [b1,hk]; congr 1; rw [Bool.eq_iff_iff]; simp; omega
theorem Yky {h:Zaa} {a0 a1:Pt} {n0 c0 n1 c1:Nat} {e0 e1:Bool} {w:Wd} {ct tt:List Nat} (r:Zpz h a0 n0 c0 a1 n1 c1 w) (b:WB w) :
  Zah pg Zpf [.agg [.slice a0 n0 c0 e0,.slice a1 n1 c1 e1],.agg [.str ct,.str tt]] h fun v h'=>v=.bool (Zjb w (ct,tt))∧Zbe h.length h h':=by
 have hl0:=r.len0
 have hlc:=b.lc
 apply Zsx.call
 simp only [Zax]
 generalize hh0:h ++ [Zcc.cells Zad [.slice a0 n0 c0 e0,.slice a1 n1 c1 e1] false]=h0
 generalize hh1:h0 ++ [Zcc.cells Zae [.str ct,.str tt] false]=h1
 have s0:Zbe h.length h h0:=by rw [← hh0]; exact Zao
 have s1:Zbe h0.length h0 h1:=by rw [← hh1]; exact Zao
 have w0:h0[h.length]?=some (Zsa a0 n0 c0 e0 a1 n1 c1 e1):=by rw [← hh0]; simp [Zsa]
 have w1:=s1.get w0 (Own.lt w0)
 have i1:h1[h0.length]?=some (.cells Zae [.str ct,.str tt] false):=by rw [← hh1]; simp
 simp only [Yau w1,Zak i1,Nat.zero_add,List.getElem?_cons_zero,List.getElem?_cons_succ,Zaf,Zam]
 refine (Zwd (r.cls.same' (s0.cat s1)) (by omega)).mono ?_
 rintro v h2 ⟨rfl,s2⟩
 simp only [Zap]
 have i2:=s2.get i1 (Own.lt i1)
 refine Zdb (fun b1=>?_) (fun b1=>⟨by unfold Zjb; rw [b1]; rfl,(s0.cat s1).cat s2⟩)
 simp only [Zak i2,Nat.zero_add,List.getElem?_cons_zero,List.getElem?_cons_succ,Zaf,Zam]
 refine (Zhk tt h2).mono ?_
 rintro v h3 ⟨rfl,s3⟩
 simp only [Zap]
 exact ⟨by unfold Zjb; rw [b1]; rfl,((s0.cat s1).cat s2).cat s3⟩
theorem Ymp (cs:List Nd) (c:List Nat):decide (Yes cs c ≥ 0)=Zgl cs c:=by
 unfold Yes; cases h:Zgl cs c <;> simp
theorem Yke {h:Zaa} {a0 a1:Pt} {n0 c0 n1 c1:Nat} {e0 e1:Bool} {w:Wd} {ct tt:List Nat} (r:Zpz h a0 n0 c0 a1 n1 c1 w) (b:WB w) (ht:tt.length≤1048576) :
  Zah pg Zon [.agg [.slice a0 n0 c0 e0,.slice a1 n1 c1 e1],.agg [.str ct,.str tt]] h fun v h'=>v=.bool (Zjb w (ct,tt))∧Zbe h.length h h':=by
 have hl0:=r.len0
 have hlc:=b.lc
 apply Ztx.call
 simp only [Zax]
 generalize hh0:h ++ [Zcc.cells Zad [.slice a0 n0 c0 e0,.slice a1 n1 c1 e1] false]=h0
 generalize hh1:h0 ++ [Zcc.cells Zae [.str ct,.str tt] false]=h1
 have s0:Zbe h.length h h0:=by rw [← hh0]; exact Zao
 have s1:Zbe h0.length h0 h1:=by rw [← hh1]; exact Zao
 have w0:h0[h.length]?=some (Zsa a0 n0 c0 e0 a1 n1 c1 e1):=by rw [← hh0]; simp [Zsa]
 have w1:=s1.get w0 (Own.lt w0)
 have i1:h1[h0.length]?=some (.cells Zae [.str ct,.str tt] false):=by rw [← hh1]; simp
 rw [Yeb w1]
 simp only [Zau,Zaj,Zar,Zak i1,Nat.zero_add,List.getElem?_cons_zero,List.getElem?_cons_succ,Zaf,Zam]
 refine (Zrj (r.cls.same' (s0.cat s1)) (by omega)).mono ?_
 rintro v h2 ⟨rfl,s2⟩
 simp only [Zaq,Ymp]
 have i2:=s2.get i1 (Own.lt i1)
 refine Zdb (fun b1=>?_) (fun b1=>⟨by unfold Zjb; rw [b1]; rfl,(s0.cat s1).cat s2⟩)
 simp only [Zak i2,Nat.zero_add,List.getElem?_cons_zero,List.getElem?_cons_succ,Zaf,Zam]
 refine (Zjj tt (by omega) h2).mono ?_
 rintro v h3 ⟨rfl,s3⟩
 simp only [Zap]
 exact ⟨by unfold Zjb; rw [b1]; rfl,((s0.cat s1).cat s2).cat s3⟩
theorem Znk {h:Zaa} {a0 a1:Pt} {n0 c0 n1 c1:Nat} {e0 e1:Bool} {w:Wd} {ct tt:List Nat} (r:Zpz h a0 n0 c0 a1 n1 c1 w) (b:WB w) (ht:tt.length≤1048576) :
  Zah pg Zdo [.agg [.slice a0 n0 c0 e0,.slice a1 n1 c1 e1],.agg [.str ct,.str tt]] h fun v h'=>v=.bool (Zgb w && Zjb w (ct,tt))∧Zbe h.length h h':=by
 apply Zpx.call
 simp only [Zax]
 generalize hh0:h ++ [Zcc.cells Zad [.slice a0 n0 c0 e0,.slice a1 n1 c1 e1] false]=h0
 generalize hh1:h0 ++ [Zcc.cells Zae [.str ct,.str tt] false]=h1
 have s0:Zbe h.length h h0:=by rw [← hh0]; exact Zao
 have s1:Zbe h0.length h0 h1:=by rw [← hh1]; exact Zao
 have w0:h0[h.length]?=some (Zsa a0 n0 c0 e0 a1 n1 c1 e1):=by rw [← hh0]; simp [Zsa]
 have w1:=s1.get w0 (Own.lt w0)
 have i1:h1[h0.length]?=some (.cells Zae [.str ct,.str tt] false):=by rw [← hh1]; simp
 rw [Yeb w1]
 simp only [Zau,Zaj,Zar,Zaf]
 refine (Zsg (r.same (s0.cat s1)) b).mono ?_
 rintro v h2 ⟨rfl,s2⟩
 simp only [Zap]
 have i2:=s2.get i1 (Own.lt i1)
 have w2:=s2.get w1 (Own.lt w1)
 refine Zdb (fun b1=>?_) (fun b1=>⟨by rw [b1]; rfl,(s0.cat s1).cat s2⟩)
 rw [Yeb w2,Zed i2 (by simp)]
 simp only [List.drop_zero,List.take_succ_cons,List.take_zero,Zau,Zaj,Zar,Zaf,Zam]
 refine (Yke (r.same ((s0.cat s1).cat s2)) b ht).mono ?_
 rintro v h3 ⟨rfl,s3⟩
 simp only [Zap]
 exact ⟨by rw [b1]; rfl,((s0.cat s1).cat s2).cat s3⟩
end Go.Sim

set_option linter.unusedVariables false
set_option linter.unusedSimpArgs false
set_option maxRecDepth 20000
namespace Go.Sim
open Go Go.RowKit

end Go.Sim

set_option linter.unusedVariables false
set_option linter.unusedSimpArgs false
set_option maxRecDepth 20000
namespace Go.Sim
open Go Go.RowKit
end Go.Sim

set_option linter.unusedVariables false
set_option linter.unusedSimpArgs false
set_option maxRecDepth 20000
namespace Go.Sim
open Go Go.RowKit

def isz (i:Ins):Nat:=i.1.1.length + i.1.2.length + (i.2.length + Yli i.2)
def Yqj (l:List Ins):Nat:=(l.map isz).sum
def wsz (w:Wd):Nat:=w.cs.length + Yli w.cs + (w.is.length + Yqj w.is)
theorem Ymo {l:List Ins} {g:Nat} (h:g < l.length):Yqj (l.take (g + 1))=Yqj (l.take g) + isz l[g]:=by
 unfold Yqj; rw [List.take_succ_eq_append_getElem h,List.map_append,List.sum_append]; simp
theorem Yci (l:List Ins) (g:Nat):Yqj (l.take g)≤Yqj l:=by
 conv=>rhs; rw [← List.take_append_drop g l]
 unfold Yqj; rw [List.map_append,List.sum_append]; omega
theorem Ypj {l:List Ins} {g:Nat} (h:g < l.length):isz l[g]≤Yqj l:=by
 have:=Ymo h; have:=Yci l (g + 1); omega
def Ypq (n:Nat):Prop:=n≤9223372036854775807
structure Ywh (w:Wd):Prop where
 lc:Ypq w.cs.length
 li:Ypq w.is.length
 cs:∀ p∈w.cs,Ypq p.1.length∧Ypq p.2.length∧∀ b∈p.1,b < 256
 is:∀ i∈w.is,Ypq i.1.1.length∧Ypq i.1.2.length∧Ypq i.2.length∧∀ p∈i.2,Ypq p.1.length∧Ypq p.2.length
theorem WB.of {w:Wd} (b:Ywh w) (h:wsz w≤1048576):WB w:=by
 have h1:∀ p∈w.cs,p.1.length + p.2.length≤Yli w.cs:=fun p hp=>by
  obtain ⟨k,hk,rfl⟩:=List.mem_iff_getElem.1 hp; exact Yhj hk
 have h2:∀ i∈w.is,isz i≤Yqj w.is:=fun p hp=>by
  obtain ⟨k,hk,rfl⟩:=List.mem_iff_getElem.1 hp; exact Ypj hk
 unfold wsz at h
 refine ⟨by omega,by omega,fun p hp=>⟨by have:=h1 p hp; omega,by have:=h1 p hp; omega,(b.cs p hp).2.2⟩,fun i hi=>?_⟩
 have:=h2 i hi
 unfold isz at this
 refine ⟨by omega,by omega,by omega,fun p hp=>?_⟩
 have h3:p.1.length + p.2.length≤Yli i.2:=by obtain ⟨k,hk,rfl⟩:=List.mem_iff_getElem.1 hp; exact Yhj hk
 omega
theorem Zlu {h:Zaa} {i:Nat} {t:TypeId} {x y z:Zas} {ro:Bool} (hi:h[i]?=some (.cells t [x,y,z] ro)):Zan h (.ptr (some (i,0))) 3=some [x,y,z]:=by
 rw [Zed hi (by simp)]; rfl
theorem Zbe.set' {b i:Nat} {h h1:Zaa} {x:Zcc} (s:Zbe b h h1) (hi:b≤i):Zbe b h (h1.set i x):=⟨by simp; exact s.le,fun j hj=>by rw [Zbl (by omega)]; exact s.eq j hj⟩
theorem Zdl.keep {α:Type} {ty:TypeId} {enc:α→List Zas} {b b':Nat} {h h':Zaa} {a:Pt} {n:Nat} {l:List α} (f:Zdl ty enc b h a n l) (hb:b'≤b) (hk:∀ i,b≤i→i < h.length→h'[i]?=h[i]?):Zdl ty enc b' h' a n l:=
 ⟨f.1,f.2.imp id fun ⟨i,ha,hbi,hi⟩=>⟨i,ha,by omega,by rw [hk i hbi (Own.lt hi)]; exact hi⟩⟩
end Go.Sim

set_option linter.unusedVariables false
set_option linter.unusedSimpArgs false
set_option maxRecDepth 20000
namespace Go.Sim
open Go Go.RowKit

theorem Zbk {h:Zaa} {i:Nat} {t:TypeId} {x y:Zas} {ro:Bool} (hi:h[i]?=some (.cells t [x,y] ro)):Zan h (.ptr (some (i,0))) 2=some [x,y]:=by
 rw [Zed hi (by simp)]; rfl
end Go.Sim

set_option linter.unusedVariables false
set_option linter.unusedSimpArgs false
set_option maxRecDepth 20000
namespace Go.Sim
open Go Go.RowKit

theorem Ty.size_ps (t:Ty):t.size=1 + (t.ps.map Ty.size).sum:=by cases t <;> simp [Ty.size,Ty.ps] <;> omega
theorem Zew.same {S:Nat→Prop} {h h':Zaa} (s:Zbe h.length h h'):∀ {t:Ty} {v:List Zas},Zew S h t v→Zew S h' t v
 | .k d,_,h=>h
 | .u d x,_,⟨j,c,e,r,hv,sj,hj,hr⟩=>⟨j,c,e,r,hv,sj,s.get hj (Own.lt hj),hr.same s⟩
 | .w d x y,_,⟨j,c,e,r,r',hv,sj,hj,hr,hr'⟩=>⟨j,c,e,r,r',hv,sj,s.get hj (Own.lt hj),hr.same s,hr'.same s⟩
end Go.Sim

set_option linter.unusedVariables false
set_option linter.unusedSimpArgs false
set_option maxRecDepth 20000
namespace Go.Sim
open Go Go.RowKit

theorem Vec.lt' {ty:TypeId} {h:Zaa} {a:Pt} {i n c:Nat} {cs:List Zas} (x:Vec ty h a n c cs) (e:a=some (i,0)):i < h.length:=by subst e; exact x.lt
theorem Zrt.keep {S:Nat→Prop} {h h':Zaa} (hh:∀ j,S j→j < h.length→h'[j]?=h[j]?):∀ {t:Ty} {p:Pt},Zrt S h t p→Zrt S h' t p
 | .k d,p,⟨i,a,c,e,hp,si,hi⟩=>⟨i,a,c,e,hp,si,by rw [hh i si (Own.lt hi)]; exact hi⟩
 | .u d x,p,⟨i,j,c,e,q,hp,si,hi,sj,hj,hq⟩=>⟨i,j,c,e,q,hp,si,by rw [hh i si (Own.lt hi)]; exact hi,sj,by rw [hh j sj (Own.lt hj)]; exact hj,hq.keep hh⟩
 | .w d x y,p,⟨i,j,c,e,q,r,hp,si,hi,sj,hj,hq,hr⟩=>⟨i,j,c,e,q,r,hp,si,by rw [hh i si (Own.lt hi)]; exact hi,sj,by rw [hh j sj (Own.lt hj)]; exact hj,hq.keep hh,hr.keep hh⟩
theorem Zrt.same {S:Nat→Prop} {h h':Zaa} {t:Ty} {p:Pt} (r:Zrt S h t p) (s:Zbe h.length h h'):Zrt S h' t p:=r.keep fun j _ hj=>s.eq j hj
theorem Zew.keep {S:Nat→Prop} {h h':Zaa} (hh:∀ j,S j→j < h.length→h'[j]?=h[j]?):∀ {t:Ty} {v:List Zas},Zew S h t v→Zew S h' t v
 | .k d,_,h=>h
 | .u d x,_,⟨j,c,e,r,hv,sj,hj,hr⟩=>⟨j,c,e,r,hv,sj,by rw [hh j sj (Own.lt hj)]; exact hj,hr.keep hh⟩
 | .w d x y,_,⟨j,c,e,r,r',hv,sj,hj,hr,hr'⟩=>⟨j,c,e,r,r',hv,sj,by rw [hh j sj (Own.lt hj)]; exact hj,hr.keep hh,hr'.keep hh⟩
theorem Ty.txt_inter (t:Ty) (h:t.ps≠[]):t.txt=([t.hd] ++ [40]) ++ [44].intercalate (t.ps.map Ty.txt) ++ [41]:=by
 cases t with
 | k c=>simp [Ty.ps] at h
 | u c a=>simp [Ty.ps,Ty.txt,Ty.hd,List.intercalate]
 | w c a b=>simp [Ty.ps,Ty.txt,Ty.hd,List.intercalate]
theorem Ty.size_part {t x:Ty} (h:x∈t.ps):x.size < t.size:=by
 cases t with
 | k c=>simp [Ty.ps] at h
 | u c a=>simp [Ty.ps] at h; subst h; simp [Ty.size]
 | w c a b=>simp [Ty.ps] at h; rcases h with rfl | rfl <;> simp [Ty.size] <;> omega
theorem Ty.len_part {t x:Ty} (h:x∈t.ps):x.txt.length < t.txt.length:=by
 cases t with
 | k c=>simp [Ty.ps] at h
 | u c a=>simp [Ty.ps] at h; subst h; simp [Ty.txt]; omega
 | w c a b=>simp [Ty.ps] at h; rcases h with rfl | rfl <;> simp [Ty.txt] <;> omega
theorem Ymv:∀ (N:Nat) {S:Nat→Prop} {h:Zaa} {t:Ty} {p:Pt},t.size≤N→t.txt.length≤1048576→Zrt S h t p→Zah pg Zit [.ptr p] h fun x h'=>x=.str t.txt∧Zbe h.length h h'
 | 0,S,h,t,p,hN,_,_=>by have:=t.size_ps; omega
 | N + 1,S,h,t,p,hN,hB,r=>by
  obtain ⟨i,a,c,e,qs,rfl,si,hi,hrow,hS,hql,hq⟩:=r.parts
  have hps2:t.ps.length≤2:=by cases t <;> simp [Ty.ps]
  apply Zgz.call
  simp only [Zaw,Zak hi,Nat.zero_add,List.getElem?_cons_succ,List.getElem?_cons_zero,Zaf,Zam]
  refine Zcs (fun hz0=>?_) (fun hz0=>?_)
  ·have:t.ps.length=0:=by omega
   refine ⟨?_,Zbe.refl _ _⟩
   cases t <;> simp [Ty.ps] at this
   rfl
  ·simp only [Zax]
   generalize hh0:h ++ [Zcc.cells Zbg [] false]=h0
   have s0:Zbe h.length h h0:=by rw [← hh0]; exact Zao
   have i0:=s0.get hi (Own.lt hi)
   have l0:h0.length=h.length + 1:=by rw [← hh0]; simp
   have v0:h0[h.length]?=some (.cells Zbg [] false):=by rw [← hh0]; simp
   simp only [Zak i0,List.getElem?_cons_succ,List.getElem?_cons_zero,Zaf]
   refine Zgz.L5ind _ _ _ _ _ _ _ (J:=fun (g:Nat) a3 n3 c3 e3 x22 h'=>x22=(g:Int)∧g≤t.ps.length∧Zbe h.length h h'∧n3=g∧Vec Zbg h' a3 n3 c3 (strs ((t.ps.take g).map Ty.txt))∧(∀ i,a3=some (i,0)→h.length≤i)) (fun g=>t.ps.length - g) ?_ 0 _ _ _ _ _ _
    ⟨rfl,by omega,s0,rfl,Vec.mk1 (by simpa using v0),fun i hi=>by cases hi; omega⟩
   rintro g a3 n3 c3 e3 x22 h' ⟨rfl,hg,hSm,rfl,hv,ha⟩ R hR
   unfold Zgz.L5t
   have i1:=hSm.get hi (Own.lt hi)
   refine Zav (fun hlt=>?_) (fun hge=>?_)
   ·have hg':n3 < t.ps.length:=by omega
    obtain ⟨j,o,rfl,hj,hc⟩:=(hrow.same hSm).at hg'
    have hqg:n3 < qs.length:=by omega
    rw [List.getElem?_map,List.getElem?_eq_getElem hqg] at hc
    simp only [Zaw,Int.toNat_natCast,Nat.mul_one,hc,Option.map_some,Zdu]
    have hk:=hq n3 qs[n3] t.ps[n3] (List.getElem?_eq_getElem hqg) (List.getElem?_eq_getElem hg')
    have hm:=List.getElem_mem hg'
    have h1:=Ty.size_part hm
    have h2:=Ty.len_part hm
    refine ⟨by omega,(Ymv N (by omega) (by omega) (hk.same hSm)).mono ?_⟩
    rintro x h2 ⟨rfl,s2⟩
    simp only [Zam,Zax]
    refine (hv.same s2).push Zyj Ydz Ydy Yds (by simp; omega) rfl (by omega) (fun h4 hl4 hi4 hk4=>?_)
    simp only [Zaf]
    rw [Zbt (by omega)]
    have S2:=hSm.cat s2
    have hle:=S2.le
    refine hR (n3 + 1) _ _ _ _ _ _ (by omega) ⟨rfl,by omega,⟨by omega,fun j hj=>?_⟩,rfl,Vec.mk1 ?_,fun i hi=>by cases hi; omega⟩
    ·rw [hk4 j (by omega) fun i hi=>by have:=ha i hi; omega]; exact S2.eq j hj
    ·rw [hi4,List.take_succ_eq_append_getElem hg',List.map_append,Yeo]; rfl
   ·apply Zgz.A5x0i
    have:n3=t.ps.length:=by omega
    subst this
    rw [List.take_length] at hv
    have hne:t.ps≠[]:=fun e=>hz0 (by rw [e]; rfl)
    have htx:=t.txt_inter hne
    have hln:=congrArg List.length htx
    simp at hln
    simp only [Zaw,Zak i1,Nat.zero_add,List.getElem?_cons_zero,Zam]
    refine ⟨by simp,?_⟩
    refine (Yhq (hv.row (by simp)) (by omega) (by omega)).mono ?_
    rintro v h3 ⟨rfl,rfl⟩
    simp only [Zam]
    refine ⟨Zak i1,by simp; omega,by simp; omega,?_⟩
    exact ⟨by rw [htx],hSm⟩
theorem Zew.get {S:Nat→Prop} {h:Zaa} {t:Ty} {a:Pt} {vs:List (List Zas)} (hrow:Row h.length h a (t.ps.length * 2) vs.flatten) (hvl:vs.length=t.ps.length) (hp:∀ (k:Nat) (w:List Zas) (x:Ty),vs[k]?=some w→t.ps[k]?=some x→Zew S h x w) {g:Nat} (hg':g < t.ps.length) :
  ∃ i o a2 c2 e2,a=some (i,o)∧Zan h (.ptr (some (i,o + g * 2))) 2=some [.int .u8 (t.ps[g].hd:Int),.slice a2 t.ps[g].ps.length c2 e2]∧Zew S h t.ps[g] [.int .u8 (t.ps[g].hd:Int),.slice a2 t.ps[g].ps.length c2 e2]:=by
 have hgv:g < vs.length:=by omega
 have hk:=hp g vs[g] t.ps[g] (List.getElem?_eq_getElem hgv) (List.getElem?_eq_getElem hg')
 have hz:∀ v∈vs,v.length=2:=fun v hv=>by
  obtain ⟨k,hk,rfl⟩:=List.mem_iff_getElem.1 hv
  exact (hp k vs[k] (t.ps[k]'(by omega)) (List.getElem?_eq_getElem hk) (List.getElem?_eq_getElem (by omega))).len
 have hfl:vs.flatten=Zdq (fun (v:{v:List Zas // v.length=2})=>v.1) (vs.attach.map fun v=>⟨v.1,hz v.1 v.2⟩):=by
  unfold Zdq; rw [List.flatMap_map]; simp
 rw [hfl] at hrow
 obtain ⟨i,o,hk',ha,_,hr,_⟩:=Row.el (enc:=fun (v:{v:List Zas // v.length=2})=>v.1) (fun x=>x.2) hrow (by simp [hvl]) (k:=g) hg' (by omega)
 obtain ⟨a2,c2,e2,hv2⟩:=hk.shape
 rw [hv2] at hk
 exact ⟨i,o,a2,c2,e2,ha,by rw [hr]; simp [hv2],hk⟩
theorem Ylz {g:Nat} (hg:g < 2):sub [40,44] (g:Int) ((g:Int) + 1)=[Zqo g]:=by
 rcases g with _ | _ | g
 ·rfl
 ·rfl
 ·omega
theorem Ty.hd_lt (t:Ty) (h:t.ok=true):t.hd < 256:=by
 have:=Ty.ok_ar h
 unfold arN Zfs Zbd at this
 simp only [Bool.or_eq_true,beq_iff_eq] at this
 split at this
 ·omega
 ·split at this
  ·omega
  ·split at this
   ·omega
   ·omega
def Zoh:Nat→List Ty→List Nat
 | _,[]=>[]
 | g,x :: l=>Zqo g :: (x.txt ++ Zoh (g + 1) l)
theorem Zut:∀ (l:List Ty) (g k:Nat) (h:k < l.length),Zoh g (l.take (k + 1))=Zoh g (l.take k) ++ Zqo (g + k) :: l[k].txt
 | x :: l,g,0,_=>by simp [Zoh]
 | x :: l,g,k + 1,h=>by
  have:=Zut l (g + 1) k (by simpa using h)
  simp only [List.take_succ_cons,Zoh,this,List.getElem_cons_succ,List.cons_append,List.append_assoc]
  rw [show g + 1 + k=g + (k + 1) by omega]
theorem Zxk:∀ (l:List Ty) (g k:Nat),(Zoh g (l.take k)).length≤(Zoh g l).length
 | [],g,k=>by simp [Zoh]
 | x :: l,g,0=>by simp [Zoh]
 | x :: l,g,k + 1=>by
  have:=Zxk l (g + 1) k
  simp only [List.take_succ_cons,Zoh,List.length_cons,List.length_append]; omega
theorem Ty.txt_mids (t:Ty):t.txt=t.hd :: Zoh 0 t.ps ++ (if t.ps=[] then [] else [41]):=by
 cases t <;> simp [Ty.ps,Ty.txt,Ty.hd,Zoh,Zqo]
theorem Zqt:∀ (N:Nat) {S:Nat→Prop} {h:Zaa} {t:Ty} {v:List Zas},t.size≤N→t.txt.length≤1048576→t.ok=true→Zew S h t v→Zah pg Zgx [.agg v] h fun x h'=>x=.str t.txt∧Zbe h.length h h'
 | 0,S,h,t,v,hN,_,_,_=>by have:=t.size_ps; omega
 | N + 1,S,h,t,v,hN,hB,hok,r=>by
  obtain ⟨a,c,e,vs,rfl,hrow,hS,hvl,hp⟩:=r.parts
  have hps2:t.ps.length≤2:=by cases t <;> simp [Ty.ps]
  have htx:=t.txt_mids
  have hln:=congrArg List.length htx
  rw [List.length_append,List.length_cons] at hln
  apply Zgw.call
  simp only [Zax,Zeu,Nat.zero_add,List.getElem?_cons_succ,List.getElem?_cons_zero,Zaf,Zaq]
  generalize hh0:h ++ [Zcc.cells Zab [.int .u8 (t.hd:Int),.slice a t.ps.length c e] false]=h0
  have s0:Zbe h.length h h0:=by rw [← hh0]; exact Zao
  have o0:h0[h.length]?=some (.cells Zab [.int .u8 (t.hd:Int),.slice a t.ps.length c e] false):=by rw [← hh0]; simp
  generalize hh1:h0 ++ [Zcc.cells Ymg [.int .u8 (t.hd:Int)] false]=h1
  have s1:Zbe h0.length h0 h1:=by rw [← hh1]; exact Zao
  have o1:=s1.get o0 (Own.lt o0)
  have hro:rowOf h1 (some (h0.length,0)) 1=some [.int .u8 (t.hd:Int)]:=by rw [← hh1]; simp [rowOf,Zan]
  rw [hro]
  simp only [Zau,Zqw,chk,decide_true]
  rw [show ((t.hd:Int)).toNat=t.hd from Int.toNat_natCast _]
  refine ⟨⟨by omega,by have:=t.hd_lt hok; omega⟩,?_⟩
  simp only [Zak o1,List.getElem?_cons_succ,List.getElem?_cons_zero,Zaf]
  refine Zgw.L3ind _ _ _ _ _ _ _ _ (J:=fun (g:Nat) x3 x13 h'=>x13=(g:Int)∧g≤t.ps.length∧Zbe h.length h h'∧Zbe h1.length h1 h'∧x3=t.hd :: Zoh 0 (t.ps.take g)) (fun g=>t.ps.length - g) ?_ 0 _ _ _ ⟨rfl,by omega,s0.cat s1,Zbe.refl _ _,by simp [Zoh]⟩
  rintro g x3 x13 h' ⟨rfl,hg,hSm,hS1,rfl⟩ R hR
  unfold Zgw.L3t
  have o2:=hS1.get o1 (Own.lt o1)
  refine Zav (fun hlt=>?_) (fun hge=>?_)
  ·have hg':g < t.ps.length:=by omega
   obtain ⟨i,o,a2,c2,e2,rfl,hr,hk⟩:=Zew.get (hrow.same' hSm) hvl (fun k w x h1 h2=>(hp k w x h1 h2).same hSm) hg'
   simp only [Zaw,Int.toNat_natCast,hr,Zau,Zaj,Zar,Zaq,Zaf,Zax]
   rw [Zgk]
   simp only [Zat]
   rw [Yfm]
   simp only [Zau,Zaj,Zar,Zaq,Zaf]
   rw [Zbt (by omega),show (((g + 1:Nat):Int))=(g:Int) + 1 by omega,Ylz (by omega)]
   have hm:=List.getElem_mem hg'
   have h1:=Ty.size_part hm
   have h2:=Ty.len_part hm
   have hmt:=Zut t.ps 0 g hg'
   have hml:(Zoh 0 (t.ps.take (g + 1))).length≤(Zoh 0 t.ps).length:=Zxk _ _ _
   have hmtl:=congrArg List.length hmt
   simp only [List.length_append,List.length_cons,Nat.zero_add] at hmtl
   have s2:Zbe h'.length h' (h' ++ [.cells Zab [.int .u8 (t.ps[g].hd:Int),.slice a2 t.ps[g].ps.length c2 e2] false]):=Zao
   refine ⟨by omega,⟨by omega,by omega,by simp; omega⟩,by simp; omega,(Zqt N (by omega) (by omega) (Ty.ok_ps hok _ hm) (hk.same s2)).mono ?_⟩
   rintro x h3 ⟨rfl,s3⟩
   simp only [Zam]
   refine ⟨by simp; omega,?_⟩
   exact hR (g + 1) _ _ _ (by omega) ⟨by omega,by omega,(hSm.cat s2).cat s3,(hS1.cat s2).cat s3,by rw [hmt,Nat.zero_add]; simp⟩
  ·apply Zgw.A3x0i
   have:g=t.ps.length:=by omega
   subst this
   simp only [Zak o2,Nat.zero_add,List.getElem?_cons_succ,List.getElem?_cons_zero,Zaf]
   rw [List.take_length]
   refine Zav (fun hpos=>?_) (fun hneg=>?_)
   ·have hne:t.ps≠[]:=fun e=>by rw [e] at hpos; simp at hpos
    rw [if_neg hne] at htx hln
    refine ⟨by simp; simp at hln; omega,?_⟩
    apply Zgw.J9i
    exact ⟨by rw [htx],hSm⟩
   ·have hne:t.ps=[]:=List.eq_nil_of_length_eq_zero (by omega)
    rw [if_pos hne,List.append_nil] at htx
    apply Zgw.J9i
    exact ⟨by rw [htx],hSm⟩
end Go.Sim

set_option linter.unusedVariables false
namespace Go.Sim
open Go Go.RowKit Go.Maps Go.Sort Go.Shelf Go.Proofs
theorem Yok (m:Nat):AnyZ.SortsIn Tryz.prog Tryz.sorted76_ren Fence.wide m:=
 ⟨fun blk off cap ss W hH hblk hsz=>callsIn_wide.2 (Tryz.slices_Sort_string blk off cap ss W hH hblk hsz),fun p cap W=>callsIn_wide.2 (Tryz.slices_Sort_string_none p cap W)⟩
theorem Yqc {h:Zaa} {m:Option Nat}:Zah pg Zet [.map m] h fun v h'=>v=.fn Zeh [.ptr (some (h.length,0))]∧h'=h ++ [.cells Zgs [.map m] false]:=
 Zah.keys ⟨_,Tryz.func77,by kernel_rfl,by kernel_rfl⟩ (fun mb W=>callsIn_wide.1 (AnyZ.keys_in Tryz.keys77 Fence.wide 5 trivial rfl mb W))
set_option maxHeartbeats 1000000 in
theorem Zyz {h:Zaa} {i m:Nat} {es:List ME} {clk:Nat} (hi:h[i]?=some (.cells Zgs [.map (some m)] false)) (hm:h[m]?=some (.map es clk)) {vs:List Nat} (hks:es.map (·.1)=vs.map fun v=>.str [v]) (nd:vs.Nodup) (born:(es.map (·.2.2)).Nodup) (lt:∀ e∈es,e.2.2 < clk) (hl:es.length≤1048576) :
  Zah pg Zkd [.fn Zeh [.ptr (some (i,0))]] h fun v h'=>∃ us:List Nat,us.Perm vs∧us.Pairwise (·≤·)∧((us=[]∧v=.slice none 0 0 true∧h'=h) ∨ (∃ c,v=.slice (some (h.length,0)) us.length c false∧us.length≤c∧h'=h ++ [.cells Zbg (us.map fun v=>.str [v]) false])):=
 Zah.sortedKeys (M:=Zgs) (K:=Zbg) Tryz.underlying9 (by kernel_rfl) ⟨_,Tryz.func76,by kernel_rfl,by kernel_rfl⟩
  (fun Bm b nn D0 R w hown hBm hcell hmax hbytes=>callsIn_wide.1 (by
   have hseq:SeqGives Fence.wide 2 Tryz.prog 122 #[.pointer (some ⟨Bm,0,none⟩)] encStr (fun ss=>ss.Perm (strKeys D0)) (Maps.size D0) w:=
    AnyZ.keys_gives (ρ:=Tryz.keys77_ren) { Tryz.keys77 with } Fence.wide _ trivial rfl (by omega) Bm b nn D0 w hBm hcell hown
   exact AnyZ.sorted_in Tryz.sorted76 Fence.wide 5 trivial trivial trivial trivial rfl (by omega) (Yok _) (enters_of Tryz.func121 (by kernel_rfl) rfl) 122 #[.pointer (some ⟨Bm,0,none⟩)] trivial (enters_of Tryz.func122 (by kernel_rfl) rfl) _ _ hmax hbytes _ hseq))
  hi hm hks nd born lt hl
end Go.Sim

set_option linter.unusedSimpArgs false
set_option linter.unusedVariables false
namespace Go.Sim

abbrev Bd:=List (Nat × Ty)
def Zfl:Bd→Nat→Option Ty
 | [],_=>none
 | (v,t) :: m,x=>if v=x then some t else Zfl m x
def Zno (m:Bd) (v:Nat) (t:Ty):Option Bd:=match Zfl m v with | some t'=>if t'=t then some m else none | none=>some (m ++ [(v,t)])
def matchT:Bd→Ty→Ty→Option Bd
 | m,.k c,t=>if Zbd c then Zno m c t else if c=t.hd then some m else none
 | m,.u c a,t=>if c=t.hd then (match t.ps with | [x]=>matchT m a x | _=>none) else none
 | m,.w c a b,t=>if c=t.hd then (match t.ps with | [x,y]=>(match matchT m a x with | some m1=>matchT m1 b y | none=>none) | _=>none) else none
def matchL:Bd→List Ty→List Ty→Option Bd
 | m,[],_=>some m
 | m,a :: xs,[]=>none
 | m,a :: xs,t :: ys=>match matchT m a t with | some m1=>matchL m1 xs ys | none=>none
theorem Zqj {a:Ty} (h:a.ok=true) (hv:Zbd a.hd=true):a=.k a.hd:=by
 cases a with
 | k c=>rfl
 | u c a=>simp only [Ty.ok,Bool.and_eq_true,Bool.or_eq_true,beq_iff_eq] at h; rcases h.1 with rfl | rfl <;> simp [Ty.hd,Zbd] at hv
 | w c a b=>simp only [Ty.ok,Bool.and_eq_true,beq_iff_eq] at h; rcases h.1.1 with rfl; simp [Ty.hd,Zbd] at hv
theorem Yce {a t:Ty} (ha:a.ok=true) (ht:t.ok=true) (h:a.hd=t.hd):a.ps.length=t.ps.length:=by
 have h1:=Ty.ok_ar ha; have h2:=Ty.ok_ar ht
 rw [h,h2] at h1; omega
theorem Ycq {m:Bd} {a t:Ty} (ha:a.ok=true) (ht:t.ok=true) :
  matchT m a t=if Zbd a.hd then Zno m a.hd t else if a.hd=t.hd then matchL m a.ps t.ps else none:=by
 cases a with
 | k c=>
  show matchT m (.k c) t=if Zbd c then Zno m c t else if c=t.hd then matchL m [] t.ps else none
  rw [matchT,matchL]
 | u c a=>
  have hnv:Zbd c=false:=by
   cases h:Zbd c with
   | false=>rfl
   | true=>have:=Zqj ha h; cases this
  show matchT m (.u c a) t=if Zbd c then Zno m c t else if c=t.hd then matchL m [a] t.ps else none
  rw [matchT,hnv,if_neg (show ¬ (false=true) by decide)]
  by_cases h:c=t.hd
  ·have hl:1=t.ps.length:=Yce ha ht h
   rw [if_pos h,if_pos h]
   match t.ps,hl with
   | [x],_=>simp only [matchL]; cases matchT m a x <;> rfl
  ·rw [if_neg h,if_neg h]
 | w c a b=>
  have hnv:Zbd c=false:=by
   cases h:Zbd c with
   | false=>rfl
   | true=>have:=Zqj ha h; cases this
  show matchT m (.w c a b) t=if Zbd c then Zno m c t else if c=t.hd then matchL m [a,b] t.ps else none
  rw [matchT,hnv,if_neg (show ¬ (false=true) by decide)]
  by_cases h:c=t.hd
  ·have hl:2=t.ps.length:=Yce ha ht h
   rw [if_pos h,if_pos h]
   match t.ps,hl with
   | [x,y],_=>
    simp only [matchL]
    cases matchT m a x with
    | none=>rfl
    | some m1=>simp only []; cases matchT m1 b y <;> rfl
  ·rw [if_neg h,if_neg h]
theorem Zsm:∀ (xs ys:List Ty) (m:Bd) (g:Nat) (h1:g < xs.length) (h2:g < ys.length),matchL m (xs.take (g + 1)) (ys.take (g + 1))=match matchL m (xs.take g) (ys.take g) with | some m1=>matchT m1 xs[g] ys[g] | none=>none
 | a :: xs,t :: ys,m,0,_,_=>by
  simp only [List.take_succ_cons,List.take_zero,matchL,List.getElem_cons_zero]
  cases matchT m a t <;> rfl
 | a :: xs,t :: ys,m,g + 1,h1,h2=>by
  simp only [List.length_cons,Nat.add_lt_add_iff_right] at h1 h2
  simp only [List.take_succ_cons,matchL,List.getElem_cons_succ]
  cases hm:matchT m a t with
  | none=>rfl
  | some m1=>
   have:=Zsm xs ys m1 g h1 h2
   simpa only [List.take_succ_cons] using this
theorem Zsj:∀ (xs ys:List Ty) (m:Bd) (g:Nat),xs.length=ys.length→matchL m (xs.take g) (ys.take g)=none→matchL m xs ys=none
 | [],_,m,g,_,h=>by simp [matchL] at h
 | a :: xs,[],m,g,hl,h=>by simp at hl
 | a :: xs,t :: ys,m,0,_,h=>by simp [matchL] at h
 | a :: xs,t :: ys,m,g + 1,hl,h=>by
  simp only [List.take_succ_cons,matchL] at h ⊢
  cases hm:matchT m a t with
  | none=>rfl
  | some m1=>
   rw [hm] at h
   exact Zsj xs ys m1 g (by simpa using hl) h

structure BOk (n:Nat) (m:Bd):Prop where
 var:∀ p∈m,Zbd p.1=true∧p.2.ok=true∧p.2.txt.length≤n
 nd:(m.map (·.1)).Nodup
theorem Zol:∀ {m:Bd} {v:Nat} {t:Ty},Zfl m v=some t→(v,t)∈m
 | (w,u) :: m,v,t,h=>by
  simp only [Zfl] at h
  split at h
  ·rename_i e; cases h; subst e; simp
  ·exact List.mem_cons_of_mem _ (Zol h)
theorem Zxx:∀ {m:Bd} {v:Nat},Zfl m v=none ↔ v ∉ m.map (·.1)
 | [],v=>by simp [Zfl]
 | (w,u) :: m,v=>by
  simp only [Zfl]
  by_cases e:w=v
  ·simp [e]
  ·simp only [e,if_false,Zxx (m:=m),List.map_cons,List.mem_cons,not_or]
   exact ⟨fun h=>⟨fun e'=>e e'.symm,h⟩,fun h=>h.2⟩
theorem Yfo {m:Bd} {v:Nat}:(Zfl m v).isSome=true ↔ v∈m.map (·.1):=by
 cases h:Zfl m v with
 | none=>simp [Zxx.1 h]
 | some t=>simp only [Option.isSome_some,true_iff]; exact List.mem_map.2 ⟨_,Zol h,rfl⟩
theorem Zrr {m:Bd} {v x:Nat} {t:Ty}:Zfl (m ++ [(v,t)]) x=match Zfl m x with | some u=>some u | none=>if v=x then some t else none:=by
 induction m with
 | nil=>simp [Zfl]
 | cons p m ih=>
  obtain ⟨w,u⟩:=p
  simp only [List.cons_append,Zfl,ih]
  split <;> rfl
theorem BOk.nil {n:Nat}:BOk n []:=⟨by simp,by simp⟩
theorem BOk.note {n:Nat} {m m':Bd} {v:Nat} {t:Ty} (b:BOk n m) (hv:Zbd v=true) (ht:t.ok=true) (hn:t.txt.length≤n) (h:Zno m v t=some m'):BOk n m':=by
 unfold Zno at h
 split at h
 ·split at h
  ·cases h; exact b
  ·cases h
 ·rename_i hg
  cases h
  refine ⟨?_,?_⟩
  ·intro p hp
   rcases List.mem_append.1 hp with hp | hp
   ·exact b.var p hp
   ·simp at hp; subst hp; exact ⟨hv,ht,hn⟩
  ·rw [List.map_append,List.nodup_append]
   refine ⟨b.nd,by simp,?_⟩
   intro x hx y hy e
   simp at hy; subst hy; subst e
   exact Zxx.1 hg hx
theorem Znf {t x:Ty} (h:x∈t.ps):x.txt.length≤t.txt.length:=by
 cases t with
 | k c=>simp [Ty.ps] at h
 | u c a=>simp [Ty.ps] at h; subst h; simp [Ty.txt]; omega
 | w c a b=>simp [Ty.ps] at h; rcases h with rfl | rfl <;> simp [Ty.txt] <;> omega
theorem BOk.matchT {n:Nat}:∀ {a t:Ty} {m m':Bd},a.ok=true→t.ok=true→t.txt.length≤n→BOk n m→Go.Sim.matchT m a t=some m'→BOk n m'
 | .k c,t,m,m',ha,ht,hn,b,h=>by
  simp only [Go.Sim.matchT] at h
  split at h
  ·rename_i hv; exact b.note hv ht hn h
  ·split at h
   ·cases h; exact b
   ·cases h
 | .u c a,t,m,m',ha,ht,hn,b,h=>by
  simp only [Ty.ok,Bool.and_eq_true] at ha
  simp only [Go.Sim.matchT] at h
  split at h
  ·split at h
   ·rename_i x hx
    have hm:x∈t.ps:=by rw [hx]; simp
    exact BOk.matchT ha.2 (Ty.ok_ps ht x hm) (Nat.le_trans (Znf hm) hn) b h
   ·cases h
  ·cases h
 | .w c a a2,t,m,m',ha,ht,hn,b,h=>by
  simp only [Ty.ok,Bool.and_eq_true] at ha
  simp only [Go.Sim.matchT] at h
  split at h
  ·split at h
   ·rename_i x y hx
    have hm:x∈t.ps:=by rw [hx]; simp
    have hm2:y∈t.ps:=by rw [hx]; simp
    split at h
    ·rename_i m1 h1
     exact BOk.matchT ha.2 (Ty.ok_ps ht y hm2) (Nat.le_trans (Znf hm2) hn) (BOk.matchT ha.1.2 (Ty.ok_ps ht x hm) (Nat.le_trans (Znf hm) hn) b h1) h
    ·cases h
   ·cases h
  ·cases h
theorem BOk.matchL {n:Nat}:∀ {xs ys:List Ty} {m m':Bd},(∀ a∈xs,a.ok=true)→(∀ t∈ys,t.ok=true∧t.txt.length≤n)→BOk n m→Go.Sim.matchL m xs ys=some m'→BOk n m'
 | [],_,m,m',_,_,b,h=>by simp [Go.Sim.matchL] at h; subst h; exact b
 | a :: xs,[],m,m',_,_,b,h=>by simp [Go.Sim.matchL] at h
 | a :: xs,t :: ys,m,m',ha,ht,b,h=>by
  simp only [Go.Sim.matchL] at h
  split at h
  ·rename_i m1 h1
   exact BOk.matchL (fun a h=>ha a (by simp [h])) (fun t h=>ht t (by simp [h])) (BOk.matchT (ha a (by simp)) (ht t (by simp)).1 (ht t (by simp)).2 b h1) h
  ·cases h
def bdL (m:Bd):List Nd:=Zef.filterMap fun v=>(Zfl m v).map fun t=>([v],t.txt)
noncomputable def Zkz (p s:List Nat):Option Bd:=match Zgv p,Zgv s with | some a,some b=>matchT [] a b | _,_=>none
noncomputable def Zmx (p s:List Nat):Bool:=(Zkz p s).isSome
noncomputable def Zzt (p s:List Nat):List Nd:=match Zkz p s with | some m=>bdL m | none=>[]
theorem Ycf {p s:List Nat} {m:Bd} (h:Zkz p s=some m):BOk 60 m:=by
 unfold Zkz at h
 split at h
 ·rename_i a b ha hb
  obtain ⟨h1,_,_⟩:=Zec.1 ha
  obtain ⟨h2,h3,h4⟩:=Zec.1 hb
  exact BOk.matchT h1 h2 (by rw [← h3]; exact h4) BOk.nil h
 ·cases h
theorem Zpb:Zef.Nodup:=by decide
theorem Yby:Zef.Pairwise (· < ·):=by decide
theorem Yui (m:Bd):bdL m=(Zef.filter fun v=>(Zfl m v).isSome).map fun v=>([v],((Zfl m v).getD default).txt):=by
 unfold bdL
 induction Zef with
 | nil=>rfl
 | cons v l ih=>
  simp only [List.filterMap_cons,List.filter_cons]
  cases h:Zfl m v with
  | none=>simpa [h] using ih
  | some t=>simp [h,ih]
theorem Yeg {n:Nat} {m:Bd} (b:BOk n m) {ks:List Nat} (hp:ks.Perm (m.map (·.1))) (hs:ks.Pairwise (·≤·)):ks=Zef.filter fun v=>(Zfl m v).isSome:=by
 have hnd:ks.Nodup:=hp.nodup_iff.2 b.nd
 have h1:ks.Pairwise (· < ·):=by
  have:=List.pairwise_and_iff.2 ⟨hs,hnd⟩
  exact this.imp fun h=>by have:=h.1; have:=h.2; omega
 have h2:(Zef.filter fun v=>(Zfl m v).isSome).Pairwise (· < ·):=Yby.filter _
 have hp2:ks.Perm (Zef.filter fun v=>(Zfl m v).isSome):=by
  rw [List.perm_ext_iff_of_nodup hnd (Zpb.filter _)]
  intro v
  rw [hp.mem_iff,List.mem_filter,Yfo]
  constructor
  ·intro hv
   obtain ⟨p,hp,rfl⟩:=List.mem_map.1 hv
   exact ⟨(Ztq _).2 (b.var p hp).1,hv⟩
  ·exact fun h=>h.2
 exact hp2.eq_of_pairwise (fun a b _ _ h1 h2=>by omega) h1 h2
end Go.Sim

set_option linter.unusedVariables false
set_option linter.unusedSimpArgs false
set_option maxRecDepth 20000
namespace Go.Sim
open Go Go.RowKit

def Ynj (h:Zaa) (i:Nat) (m:Bd):Prop:=∃ es clk,h[i]?=some (.map es clk)∧es.map (·.1)=m.map (fun p=>Zas.str [p.1])∧es.map (·.2.1)=m.map (fun p=>Zas.str p.2.txt)∧(es.map (·.2.2)).Nodup∧∀ e∈es,e.2.2 < clk
theorem Ynj.eq {h h':Zaa} {i:Nat} {m:Bd} (r:Ynj h i m) (he:h'[i]?=h[i]?):Ynj h' i m:=by
 obtain ⟨es,clk,h1,x⟩:=r
 exact ⟨es,clk,by rw [he]; exact h1,x⟩
theorem Ynj.lt {h:Zaa} {i:Nat} {m:Bd} (r:Ynj h i m):i < h.length:=by obtain ⟨es,clk,h1,_⟩:=r; exact Own.lt h1
theorem Zrc:∀ {es:List ME} {m:Bd} {v k:Nat} {t:Ty},es.map (·.1)=m.map (fun p=>Zas.str [p.1])→es.map (·.2.1)=m.map (fun p=>Zas.str p.2.txt)→Zfl m v=some t→∃ j b,Zpy es [v] k=some (some (k + j,.str t.txt))∧es[j]?=some (.str [v],.str t.txt,b)
 | _,[],v,k,t,_,_,h=>by simp [Zfl] at h
 | [],p :: m,v,k,t,h,_,_=>by simp at h
 | (ek,ev,eb) :: es,(w,u) :: m,v,k,t,hk,hv,h=>by
  simp only [List.map_cons,List.cons.injEq] at hk hv
  obtain ⟨rfl,hk⟩:=hk
  obtain ⟨rfl,hv⟩:=hv
  simp only [Zfl] at h
  by_cases e:w=v
  ·rw [if_pos e] at h
   cases h; subst e
   exact ⟨0,eb,by simp [Zpy],rfl⟩
  ·rw [if_neg e] at h
   obtain ⟨j,b,h1,h2⟩:=Zrc (k:=k + 1) hk hv h
   have:¬ [v]=[w]:=fun x=>e (by simpa using x.symm)
   exact ⟨j + 1,b,by simp only [Zpy,this,if_false,h1]; rw [show k + 1 + j=k + (j + 1) by omega],h2⟩
theorem Zra:∀ {es:List ME} {m:Bd} {v k:Nat},es.map (·.1)=m.map (fun p=>Zas.str [p.1])→Zfl m v=none→Zpy es [v] k=some none
 | [],[],v,k,_,_=>rfl
 | [],p :: m,v,k,h,_=>by simp at h
 | e :: es,[],v,k,h,_=>by simp at h
 | (ek,ev,eb) :: es,(w,u) :: m,v,k,hk,h=>by
  simp only [List.map_cons,List.cons.injEq] at hk
  obtain ⟨rfl,hk⟩:=hk
  simp only [Zfl] at h
  by_cases e:w=v
  ·rw [if_pos e] at h; cases h
  ·rw [if_neg e] at h
   have:¬ [v]=[w]:=fun x=>e (by simpa using x.symm)
   simp only [Zpy,this,if_false]
   exact Zra hk h
theorem Zso {α:Type} {f:α→α} {e:α}:∀ {l:List α} {j:Nat},l[j]?=some e→f e=e→l.modify j f=l
 | [],j,h,_=>by simp at h
 | a :: l,0,h,hf=>by simp at h; subst h; simp [hf]
 | a :: l,j + 1,h,hf=>by simp at h; simp [Zso h hf]
theorem Zuk (c:Nat):Zrx [c]=Zbd c:=rfl
theorem Row.keepAt {i:Nat} {h h':Zaa} {a:Pt} {n:Nat} {cs:List Zas} (r:Row h.length h a n cs) (hne:∀ j o,n≠0→a=some (j,o)→j≠i) (k:Zdp i h h'):Row h'.length h' a n cs:=by
 obtain ⟨hl,r⟩:=r
 by_cases h0:n=0
 ·exact ⟨hl,.inl h0⟩
 ·refine ⟨hl,r.imp id ?_⟩
  rintro ⟨j,o',t,all,ro,ha,hi,hg,x⟩
  have:=k.le
  exact ⟨j,o',t,all,ro,ha,by omega,by rw [k.eq j hi (hne j o' h0 ha)]; exact hg,x⟩
def Yvo (h:Zaa) (i:Nat) (r:Option Bd) (v:Zas) (h':Zaa):Prop:=Zdp i h h'∧(match r with | some m'=>v=.bool true∧Ynj h' i m' | none=>v=.bool false)
theorem Yhu:∀ (N:Nat) {a t:Ty} {S:Nat→Prop} {h:Zaa} {p q:Pt} {i n:Nat} {m:Bd},a.size≤N→a.ok=true→t.ok=true→t.txt.length≤1048576→t.txt.length≤n→BOk n m→(∀ j,S j→j≠i)→Zrt S h a p→Zrt S h t q→Ynj h i m →
  Zah pg Zia [.ptr p,.ptr q,.map (some i)] h (Yvo h i (matchT m a t))
 | 0,a,t,S,h,p,q,i,n,m,hN,_,_,_,_,_,_,_,_,_=>by have:=a.size_ps; omega
 | N + 1,a,t,S,h,p,q,i,n,m,hN,ha,ht,hB,hn,bo,hSi,ra,rt,rm=>by
  have hcase:=Ycq (m:=m) ha ht
  obtain ⟨ia,aa,ca,ea,qa,rfl,sia,hia,rowa,hSa,hqal,hqa⟩:=ra.parts
  obtain ⟨it,at',ct,et,qt,rfl,sit,hit,rowt,hSt,hqtl,hqt⟩:=id rt.parts
  have hps2:a.ps.length≤2:=by cases a <;> simp [Ty.ps]
  apply Zex.call
  simp only [Zaw,Zak hia,Nat.zero_add,List.getElem?_cons_succ,List.getElem?_cons_zero,Zaf,Zam]
  refine (Ztr [a.hd]).mono ?_
  rintro v h1 ⟨rfl,rfl⟩
  simp only [Zap,Zuk]
  refine Zdb (fun hv=>?_) (fun hv=>?_)
  ·rw [hv] at hcase
   simp only [if_true] at hcase
   refine (Ymv _ (Nat.le_refl _) hB rt).mono ?_
   rintro v h2 ⟨rfl,s2⟩
   have hia2:=s2.get hia (Own.lt hia)
   obtain ⟨es,clk,hm,hk,hvv,hb,hlt⟩:=id rm
   have hm2:=s2.get hm (Own.lt hm)
   have rm2:Ynj h2 i m:=rm.eq (s2.eq i (Own.lt hm))
   simp only [Zam,Zak hia2,List.getElem?_cons_succ,List.getElem?_cons_zero,Zdy,hm2,Zsr]
   have K2:Zdp i h1 h2:=⟨s2.le,fun j hj _=>s2.eq j hj⟩
   have hput:∀ r:Option Bd,(∀ (es':List ME) (k':Nat),Yjy es clk [a.hd] (.str t.txt) (fun x y=>x=es'∧y=k')→Yvo h1 i r (.bool true) (h2.set i (.map es' k')))→Zex.J6 (Yvo h1 i r) (some i) (some (ia,0)) t.txt h2:=by
    intro r hr
    apply Zex.J6i
    simp only [Zaw,Zak hia2,Nat.zero_add,List.getElem?_cons_zero,Zam,xMp,Zdy,hm2,Zax]
    unfold Yjy at hr ⊢
    cases hg:Zfl m a.hd with
    | none=>
     rw [Zra hk hg] at hr ⊢
     exact hr _ _ ⟨rfl,rfl⟩
    | some u=>
     obtain ⟨j,b,hf,_⟩:=Zrc (k:=0) hk hvv hg
     rw [hf] at hr ⊢
     exact hr _ _ ⟨rfl,rfl⟩
   have KS:∀ x,Zdp i h1 (h2.set i x):=fun x=>K2.trans (Zdp.set i h2 x)
   have hil:=Own.lt hm2
   cases hg:Zfl m a.hd with
   | none=>
    have hbn:Zno m a.hd t=some (m ++ [(a.hd,t)]):=by unfold Zno; rw [hg]
    rw [hbn] at hcase
    rw [hcase,Zra hk hg]
    simp only [Option.getD_none,Zam,Option.isSome_none,Zbj]
    refine hput _ fun es' k' hp=>⟨KS _,rfl,?_⟩
    unfold Yjy at hp
    rw [Zra hk hg] at hp
    obtain ⟨rfl,rfl⟩:=hp
    refine ⟨_,_,List.getElem?_set_self hil,by simp [hk],by simp [hvv],?_,?_⟩
    ·rw [List.map_append,List.nodup_append]
     refine ⟨hb,by simp,?_⟩
     intro x hx y hy e
     simp at hy
     obtain ⟨z,hz,rfl⟩:=List.mem_map.1 hx
     have:=hlt z hz; omega
    ·intro e he
     rcases List.mem_append.1 he with he | he
     ·have:=hlt e he; omega
     ·simp at he; subst he; simp
   | some u=>
    obtain ⟨j,b,hf,hj⟩:=Zrc (k:=0) hk hvv hg
    rw [hf]
    simp only [Option.getD_some,Zam,Option.isSome_some,Zby]
    have hu:u.ok=true ∨ True:=.inr trivial
    by_cases he:u=t
    ·subst he
     have hbn:Zno m a.hd u=some m:=by unfold Zno; rw [hg]; simp
     rw [hbn] at hcase
     rw [hcase]
     simp only [decide_true,Bool.not_true,Zbj]
     refine hput _ fun es' k' hp=>⟨KS _,rfl,?_⟩
     unfold Yjy at hp
     rw [hf] at hp
     obtain ⟨rfl,rfl⟩:=hp
     rw [Nat.zero_add,Zso hj rfl]
     exact ⟨es,clk,List.getElem?_set_self hil,hk,hvv,hb,hlt⟩
    ·have hu:=(bo.var _ (Zol hg)).2.1
     have hne:¬ u.txt=t.txt:=fun e=>he (Ty.txt_inj' hu ht e)
     have hbn:Zno m a.hd t=none:=by unfold Zno; rw [hg]; simp [he]
     rw [hbn] at hcase
     rw [hcase]
     simp only [hne,decide_false,Bool.not_false,Zby]
     exact ⟨K2,rfl⟩
  ·rw [hv] at hcase
   simp only [Bool.false_eq_true,if_false] at hcase
   simp only [Zaw,Zak hia,Zak hit,Nat.zero_add,List.getElem?_cons_succ,List.getElem?_cons_zero,Zaf,Zam,true_and]
   refine Zrn (fun hne=>?_) (fun he=>?_)
   ·rw [if_neg (fun e=>hne (by rw [e]))] at hcase
    rw [hcase]
    exact ⟨Zdp.refl _ _,rfl⟩
   ·have he':a.hd=t.hd:=by simpa using he
    rw [if_pos he'] at hcase
    rw [hcase]
    have hlen:=Yce ha ht he'
    refine Zex.L11ind _ _ _ _ _ _ _ _ (J:=fun (g:Nat) x54 h'=>x54=(g:Int)∧g≤a.ps.length∧Zdp i h1 h'∧∃ m1,matchL m (a.ps.take g) (t.ps.take g)=some m1∧Ynj h' i m1) (fun g=>a.ps.length - g) ?_ 0 _ _ ⟨rfl,by omega,Zdp.refl _ _,m,by simp [matchL],rm⟩
    rintro g x54 h' ⟨rfl,hg,hK,m1,hm1,rm1⟩ R hR
    unfold Zex.L11t
    refine Zav (fun hlt=>?_) (fun hge=>?_)
    ·have hga:g < a.ps.length:=by omega
     have hgt:g < t.ps.length:=by omega
     have hit1:h'[it]?=some (.cells Zcl [.str [t.hd],.slice at' t.ps.length ct et,.ptr none] false):=by rw [hK.eq _ (Own.lt hit) (hSi _ sit)]; exact hit
     obtain ⟨ja,oa,rfl,_,hca⟩:=(rowa.keepAt (i:=i) (fun j o h0 e=>hSi j (hSa j o h0 e)) hK).at hga
     obtain ⟨jt,ot,rfl,_,hct⟩:=(rowt.keepAt (i:=i) (fun j o h0 e=>hSi j (hSt j o h0 e)) hK).at hgt
     have hqag:g < qa.length:=by omega
     have hqtg:g < qt.length:=by omega
     rw [List.getElem?_map,List.getElem?_eq_getElem hqag] at hca
     rw [List.getElem?_map,List.getElem?_eq_getElem hqtg] at hct
     simp only [Zaw,Int.toNat_natCast,Nat.mul_one,hca,hct,Option.map_some,Zdu,Zak hit1,Nat.zero_add,List.getElem?_cons_succ,List.getElem?_cons_zero,Zaf]
     have hma:=List.getElem_mem hga
     have hmt:=List.getElem_mem hgt
     have h1:=Ty.size_part hma
     have h2:=Ty.len_part hmt
     have bo1:BOk n m1:=BOk.matchL (fun x hx=>Ty.ok_ps ha x (List.mem_of_mem_take hx)) (fun x hx=>⟨Ty.ok_ps ht x (List.mem_of_mem_take hx),by have:=Ty.len_part (List.mem_of_mem_take hx); omega⟩) bo hm1
     have htk:=Zsm a.ps t.ps m g hga hgt
     rw [hm1] at htk
     simp only at htk
     refine ⟨by omega,by omega,(Yhu N (by omega) (Ty.ok_ps ha _ hma) (Ty.ok_ps ht _ hmt) (by omega) (by omega) bo1 hSi ((hqa g _ _ (List.getElem?_eq_getElem hqag) (List.getElem?_eq_getElem hga)).keep fun j hj hl=>hK.eq j hl (hSi j hj)) ((hqt g _ _ (List.getElem?_eq_getElem hqtg) (List.getElem?_eq_getElem hgt)).keep fun j hj hl=>hK.eq j hl (hSi j hj)) rm1).mono ?_⟩
     rintro v h3 ⟨K3,hres⟩
     cases hmm:matchT m1 a.ps[g] t.ps[g] with
     | none=>
      rw [hmm] at hres htk
      subst hres
      simp only [Zap,Bool.not_false,Zby]
      rw [Zsj a.ps t.ps m (g + 1) hlen htk]
      exact ⟨hK.trans K3,rfl⟩
     | some m2=>
      rw [hmm] at hres htk
      obtain ⟨rfl,rm2⟩:=hres
      simp only [Zap,Bool.not_true,Zbj]
      rw [Zbt (by omega)]
      exact hR (g + 1) _ _ (by omega) ⟨rfl,by omega,hK.trans K3,m2,htk,rm2⟩
    ·apply Zex.A11x0i
     have:g=a.ps.length:=by omega
     subst this
     rw [List.take_length,hlen,List.take_length] at hm1
     rw [hm1]
     exact ⟨hK,rfl,rm1⟩
end Go.Sim

set_option linter.unusedVariables false
set_option linter.unusedSimpArgs false
set_option maxRecDepth 20000
namespace Go.Sim
open Go Go.RowKit

theorem Zwq:pg.underlying Zlj=some (.slice Zcf):=by kernel_rfl
theorem Ycd:pg.cellsOf Zcf=2:=by kernel_rfl
theorem Ybx:pg.okElem Zcf=true:=by kernel_rfl
theorem Ybw:pg.bytesOf Zcf≤127:=Nat.le_of_ble_eq_true (by kernel_rfl)
theorem Vec.fresh {α:Type} {ty:TypeId} {enc:α→List Zas} {b:Nat} {h:Zaa} {a:Pt} {n c:Nat} {l:List α} (v:Vec ty h a n c (Zdq enc l)) (hn:n=l.length) (ha:∀ i,a=some (i,0)→b≤i):Zdl ty enc b h a n l:=by
 refine ⟨hn.symm,?_⟩
 rcases v with ⟨rfl,h0,_⟩ | ⟨i,rfl,hi⟩
 ·exact .inl h0
 ·exact .inr ⟨i,rfl,ha i rfl,hi⟩
theorem Yef {h:Zaa} {i:Nat} {m:Bd} (rm:Ynj h i m) (bo:BOk 60 m) :
  Zah pg Zmg [.map (some i)] h fun v h'=>Zbe h.length h h'∧∃ a n c e,v=.slice a n c e∧n≤c∧Zdl Zcf eP h.length h' a n (bdL m):=by
 have hml:m.length≤6:=by
  have hp:(m.map (·.1)).Perm (Zef.filter fun v=>decide (v∈m.map (·.1))):=by
   rw [List.perm_ext_iff_of_nodup bo.nd (Zpb.filter _)]
   intro v
   rw [List.mem_filter]
   constructor
   ·intro hv
    obtain ⟨p,hp,rfl⟩:=List.mem_map.1 hv
    exact ⟨(Ztq _).2 (bo.var p hp).1,by simpa using hv⟩
   ·exact fun h=>by simpa using h.2
  have h1:=hp.length_eq
  have h2:=List.length_filter_le (fun v=>decide (v∈m.map (·.1))) Zef
  rw [List.length_map] at h1
  have h3:Zef.length=6:=rfl
  omega
 apply Zhr.call
 simp only [Zax]
 generalize hh0:h ++ [Zcc.cells Zcf [] false]=h0
 have s0:Zbe h.length h h0:=by rw [← hh0]; exact Zao
 have l0:h0.length=h.length + 1:=by rw [← hh0]; simp
 have o0:h0[h.length]?=some (.cells Zcf [] false):=by rw [← hh0]; simp
 refine Yqc.mono ?_
 rintro v h2 ⟨rfl,hh2⟩
 simp only [Zzf]
 have s2:Zbe h0.length h0 h2:=by rw [hh2]; exact Zao
 have hc2:h2[h0.length]?=some (.cells Zgs [.map (some i)] false):=by rw [hh2]; simp
 obtain ⟨es,clk,hm,hk,hvv,hb,hlt⟩:=id rm
 have S2:=s0.cat s2
 have hm2:=S2.get hm (Own.lt hm)
 have hel:es.length=m.length:=by have:=congrArg List.length hk; simpa using this
 refine (Zyz hc2 hm2 (vs:=m.map (·.1)) (by rw [hk,List.map_map]; rfl) bo.nd hb hlt (by omega)).mono ?_
 rintro v h3 ⟨us,hp,hsrt,hcase⟩
 have hus:=Yeg bo hp hsrt
 have hbd:bdL m=us.map fun v=>([v],((Zfl m v).getD default).txt):=by rw [Yui,hus]
 have hul:us.length≤6:=by rw [hp.length_eq]; simpa using hml
 have hmem:∀ v∈us,∃ t,Zfl m v=some t:=fun v hv=>by
  rw [hus,List.mem_filter] at hv; exact Option.isSome_iff_exists.1 hv.2
 have hgen:∃ a c e,v=.slice a us.length c e∧Row h3.length h3 a us.length (us.map fun v=>Zas.str [v])∧Zbe h2.length h2 h3:=by
  rcases hcase with ⟨rfl,rfl,rfl⟩ | ⟨c,rfl,hc,rfl⟩
  ·exact ⟨_,_,_,rfl,Row.nil,Zbe.refl _ _⟩
  ·refine ⟨_,_,_,rfl,⟨by simp,.inr ⟨h2.length,0,Zbg,_,false,rfl,by simp,by simp; rfl,by simp,by rw [List.drop_zero,List.take_of_length_le (by simp)]⟩⟩,Zao⟩
 obtain ⟨a9,c9,e9,rfl,hrow,s3⟩:=hgen
 simp only [Zaf]
 have S3:=S2.cat s3
 have hS3le:=S3.le
 have o3:h3[h.length]?=some (.cells Zcf [] false):=s3.get (s2.get o0 (Own.lt o0)) (by have:=Own.lt o0; have:=s2.le; omega)
 refine Zhr.L3ind _ _ _ _ _ _ _ (J:=fun (g:Nat) a3 n3 c3 e3 x11 h'=>x11=(g:Int)∧g≤us.length∧Zbe h.length h h'∧(∀ j,j < h3.length→j≠h.length→h'[j]?=h3[j]?)∧h3.length≤h'.length∧n3=g∧n3≤c3∧Vec Zcf h' a3 n3 c3 (Zdq eP ((bdL m).take g))∧(∀ i,a3=some (i,0)→i=h.length ∨ h3.length≤i)) (fun g=>us.length - g) ?_ 0 _ _ _ _ _ _
  ⟨rfl,by omega,S3,fun _ _ _=>rfl,Nat.le_refl _,rfl,Nat.le_refl _,Vec.mk1 (by simpa using o3),fun i hi=>by cases hi; exact .inl rfl⟩
 rintro g a3 n3 c3 e3 x11 h' ⟨rfl,hg,hSm,hK,hle3,rfl,hnc,hv,ha⟩ R hR
 unfold Zhr.L3t
 have hbl:(bdL m).length=us.length:=by rw [hbd]; simp
 refine Zav (fun hlt=>?_) (fun hge=>?_)
 ·have hg':n3 < us.length:=by omega
  obtain ⟨j,o,rfl,hj,hc⟩:=hrow.at hg'
  rw [List.getElem?_map,List.getElem?_eq_getElem hg',Option.map_some] at hc
  -- the row of keys has not turned: it lies apart from the row of bindings
  have hjr:j≠h.length:=by
   rcases hcase with ⟨h0,_⟩ | ⟨c,hsl,_,_⟩
   ·rw [h0] at hg'; simp at hg'
   ·simp only [Zas.slice.injEq,Option.some.injEq,Prod.mk.injEq] at hsl
    have:=s2.le; omega
  have hc':Zai h' (.ptr (some (j,o + n3)))=some (.str [us[n3]]):=by
   rw [← hc]; simp only [Zai,hK j hj hjr]
  obtain ⟨t,ht⟩:=hmem _ (List.getElem_mem hg')
  have hm':=hSm.get hm (Own.lt hm)
  obtain ⟨jj,bb,hf,_⟩:=Zrc (k:=0) hk hvv ht
  simp only [Zaw,Int.toNat_natCast,Nat.mul_one,hc',Zam,Zdy,hm',Zsr,hf,Option.getD_some,Zax]
  have htk:(bdL m).take (n3 + 1)=(bdL m).take n3 ++ [([us[n3]],t.txt)]:=by
   rw [List.take_succ_eq_append_getElem (by omega)]
   congr 2
   have:(bdL m)[n3]?=some ([us[n3]],t.txt):=by
    rw [hbd,List.getElem?_map,List.getElem?_eq_getElem hg',Option.map_some,ht,Option.getD_some]
   exact (List.getElem?_eq_some_iff.1 this).2
  refine ⟨by omega,?_⟩
  refine hv.pushN Zwq Ycd Ybx Ybw (by rw [Zay Zfp,List.length_take]; omega) rfl (by omega) rfl (by omega) (fun h6 hl6 hi6 hk6=>?_)
  simp only [Zaf]
  rw [Zbt (by omega)]
  have hle:=hSm.le
  have hb9:∀ i,a3=some (i,0)→h.length≤i:=fun i hi=>by rcases ha i hi with hh | hh <;> omega
  refine hR (n3 + 1) _ _ _ _ _ _ (by omega) ⟨rfl,by omega,⟨by omega,fun j hj=>?_⟩,fun j hj hne=>?_,by omega,rfl,Nat.le_refl _,Vec.mk1 ?_,fun i hi=>by cases hi; right; omega⟩
  ·rw [hk6 j (by omega) fun i hi=>by have:=hb9 i hi; omega]; exact hSm.eq j hj
  ·rw [hk6 j (by omega) fun i hi=>by rcases ha i hi with hh | hh <;> omega]; exact hK j hj hne
  ·rw [hi6,htk,Zkq]; rfl
 ·apply Zhr.A3x0i
  have:n3=us.length:=by omega
  subst this
  rw [show (bdL m).take us.length=bdL m from List.take_of_length_le (by omega)] at hv
  exact ⟨hSm,_,_,_,_,rfl,hnc,hv.fresh (b:=h.length) hbl.symm fun i hi=>by rcases ha i hi with hh | hh <;> omega⟩
def Yht (p s:List Nat) (h:Zaa) (v:Zas) (h':Zaa):Prop:=Zbe h.length h h'∧∃ a n c e,v=.tup [.slice a n c e,.bool (Zmx p s)]∧n≤c∧Zdl Zcf eP h.length h' a n (Zzt p s)
theorem Yca (p s:List Nat) (h:Zaa):Zah pg Zlp [.str p,.str s] h (Yht p s h):=by
 apply Zlo.call
 refine (Zwt p h).mono ?_
 rintro v h1 ⟨s1,q1,rfl,r1⟩
 simp only [Zdu]
 refine (Zwt s h1).mono ?_
 rintro v h2 ⟨s2,q2,rfl,r2⟩
 simp only [Zdu,Zax]
 have S2:=s1.cat s2
 have s3:Zbe h2.length h2 (h2 ++ [.map [] 0]):=Zao
 have S3:=S2.cat s3
 have no:Zkz p s=none→Yht p s h (.tup [.slice none 0 0 true,.bool false]) (h2 ++ [.map [] 0]):=fun hn=>
  ⟨S3,none,0,0,true,by unfold Zmx; rw [hn]; rfl,Nat.le_refl _,by unfold Zzt; rw [hn]; exact ⟨rfl,.inl rfl⟩⟩
 cases hp:Zgv p with
 | none=>
  rw [hp] at r1; simp only at r1; subst r1
  simp only [Option.isNone_none,Zby]
  exact no (by unfold Zkz; rw [hp])
 | some a=>
  rw [hp] at r1; simp only at r1
  obtain ⟨i1,rfl,b1,l1⟩:=r1.lt
  simp only [Option.isNone_some,Zbj]
  cases ht:Zgv s with
  | none=>
   rw [ht] at r2; simp only at r2; subst r2
   simp only [Option.isNone_none,Zby]
   exact no (by unfold Zkz; rw [hp,ht])
  | some t=>
   rw [ht] at r2; simp only at r2
   obtain ⟨i2,rfl,b2,l2⟩:=r2.lt
   simp only [Option.isNone_some,Zbj]
   obtain ⟨ha1,ha2,ha3⟩:=Zec.1 hp
   obtain ⟨ht1,ht2,ht3⟩:=Zec.1 ht
   have hms:Zkz p s=matchT [] a t:=by unfold Zkz; rw [hp,ht]
   have hl1:=s1.le; have hl2:=s2.le
   have R1:=((r1.same s2).same s3).mono (S':=fun j=>j≠h2.length) (fun j hj=>by have:=hj.2; omega)
   have R2:=(r2.same s3).mono (S':=fun j=>j≠h2.length) (fun j hj=>by have:=hj.2; omega)
   have rm:Ynj (h2 ++ [.map [] 0]) h2.length []:=⟨[],0,by simp,rfl,rfl,by simp,by simp⟩
   refine (Yhu _ (Nat.le_refl _) ha1 ht1 (by rw [← ht2]; omega) (n:=60) (by rw [← ht2]; exact ht3) BOk.nil (fun j hj=>hj) R1 R2 rm).mono ?_
   rintro v h4 ⟨K4,hres⟩
   have S4:Zbe h.length h h4:=⟨by have:=K4.le; have:=S3.le; omega,fun j hj=>by rw [K4.eq j (by have:=S3.le; omega) (by have:=S2.le; omega)]; exact S3.eq j hj⟩
   cases hm:matchT [] a t with
   | none=>
    rw [hm] at hres hms
    subst hres
    simp only [Zap,Bool.not_false,Zby]
    exact ⟨S4,none,0,0,true,by unfold Zmx; rw [hms]; rfl,Nat.le_refl _,by unfold Zzt; rw [hms]; exact ⟨rfl,.inl rfl⟩⟩
   | some m=>
    rw [hm] at hres hms
    obtain ⟨rfl,rm4⟩:=hres
    simp only [Zap,Bool.not_true,Zbj]
    apply Zlo.J4i
    refine (Yef rm4 (Ycf hms)).mono ?_
    rintro v h5 ⟨s5,a5,n5,c5,e5,rfl,hc5,f5⟩
    simp only [Zaf]
    refine ⟨S4.cat s5,a5,n5,c5,e5,by unfold Zmx; rw [hms]; rfl,hc5,?_⟩
    unfold Zzt; rw [hms]
    exact ⟨f5.1,f5.2.imp id fun ⟨i,ha,hb,hi⟩=>⟨i,ha,by have:=S4.le; omega,hi⟩⟩
theorem Ztn (p s:List Nat) (h:Zaa):Zah pg Zhy [.str p,.str s] h fun v h'=>v=.bool (Zmx p s)∧Zbe h.length h h':=by
 apply Zod.call
 refine (Yca p s h).mono ?_
 rintro v h1 ⟨s1,a,n,c,e,rfl,_⟩
 simp only [Zdx,Zaj,Zaf,Zap,Zar]
 exact ⟨by trivial,s1⟩
end Go.Sim

set_option linter.unusedVariables false
set_option linter.unusedSimpArgs false
set_option maxRecDepth 20000
namespace Go.Sim
open Go Go.RowKit

def Zgm:List Nat:=[88,89,90,120,121,122,49,50,51,52,53,54]
theorem Zyd {v:Nat} (hv:Zbd v=true):∃ k:Nat,k < 6∧Zef[k]?=some v∧Zqx Zgm v=(k:Int):=by
 have:=(Ztq v).2 hv
 simp only [Zef,List.mem_cons,List.not_mem_nil,or_false] at this
 rcases this with rfl | rfl | rfl | rfl | rfl | rfl
 ·exact ⟨0,by omega,rfl,rfl⟩
 ·exact ⟨1,by omega,rfl,rfl⟩
 ·exact ⟨2,by omega,rfl,rfl⟩
 ·exact ⟨3,by omega,rfl,rfl⟩
 ·exact ⟨4,by omega,rfl,rfl⟩
 ·exact ⟨5,by omega,rfl,rfl⟩
theorem Ztf {t:Ty} (h:t.ok=true):t.hd∈[105,98,117,108,109,112,120,121,122,88,89,90]:=by
 have:=Ty.ok_ar h
 unfold arN Zfs Zbd at this
 simp only [Bool.or_eq_true,beq_iff_eq] at this
 simp only [List.mem_cons,List.not_mem_nil,or_false]
 split at this
 ·omega
 ·split at this
  ·omega
  ·split at this
   ·omega
   ·omega
theorem Zxy {t:Ty} (h:t.ok=true) (hv:Zbd t.hd=false):Zqx Zgm t.hd=-1:=by
 apply Zuu
 have:=Ztf h
 simp only [List.mem_cons,List.not_mem_nil,or_false] at this
 rcases this with e | e | e | e | e | e | e | e | e | e | e | e <;> rw [e] at hv ⊢ <;> first | (exact absurd hv (by decide)) | decide
theorem Zki {h:Zaa} (c:Nat):Zah pg Zfa [.int .u8 (c:Int)] h fun v h'=>v=.int .i64 (Zqx Zgm c)∧h'=h:=by
 apply Zrw.call
 refine (Yan Zgm c (by decide)).mono ?_
 rintro v h1 ⟨rfl,rfl⟩
 simp only [Zaq]
 exact ⟨by trivial,by trivial⟩
def eR (x:Zas × Zas):List Zas:=[x.1,x.2]
theorem Zkc (x:Zas × Zas):(eR x).length=2:=rfl
theorem Zvz {α:Type} {enc:α→List Zas} {w:Nat} (hw:∀ x,(enc x).length=w):∀ {l:List α} {k:Nat} {x:α},k < l.length→putRow (Zdq enc l) (k * w) (enc x)=Zdq enc (l.set k x)
 | [],k,x,h=>by simp at h
 | y :: l,0,x,_=>by
  simp only [Nat.zero_mul,Zlf,List.set_cons_zero,putRow,List.take_zero,List.nil_append,Nat.zero_add,hw]
  rw [← hw y,List.drop_left]
 | y :: l,k + 1,x,h=>by
  have ih:=Zvz hw (l:=l) (k:=k) (x:=x) (by simpa using h)
  unfold putRow at ih ⊢
  simp only [Zlf,List.set_cons_succ]
  rw [← ih,Nat.succ_mul,Nat.add_comm (k * w) w,← hw y,List.take_length_add_append,Nat.add_assoc,List.drop_length_add_append]; simp only [List.append_assoc]
def Zui (S:Nat→Prop) (h:Zaa) (i:Nat) (m:Bd):Prop:=∃ rows:List (Zas × Zas),rows.length=12∧h[i]?=some (.cells Zcj (Zdq eR rows) false) ∧
 ∀ (k:Nat) (x:Zas × Zas),rows[k]?=some x→match (Zef[k]?).bind (Zfl m) with | some t=>Zew S h t (eR x) | none=>x=(.int .u8 0,.slice none 0 0 true)
theorem Zui.keep {S:Nat→Prop} {h h':Zaa} {i:Nat} {m:Bd} (r:Zui S h i m) (hi:h'[i]?=h[i]?) (hh:∀ j,S j→j < h.length→h'[j]?=h[j]?):Zui S h' i m:=by
 obtain ⟨rows,h1,h2,h3⟩:=r
 refine ⟨rows,h1,by rw [hi]; exact h2,fun k x hx=>?_⟩
 have:=h3 k x hx
 split at this
 ·exact this.keep hh
 ·exact this
theorem Zui.same {S:Nat→Prop} {h h':Zaa} {i:Nat} {m:Bd} (r:Zui S h i m) (s:Zbe h.length h h'):Zui S h' i m:=by
 have hl:i < h.length:=by obtain ⟨_,_,h2,_⟩:=r; exact Own.lt h2
 exact r.keep (s.eq i hl) fun j _ hj=>s.eq j hj
theorem Zui.lt {S:Nat→Prop} {h:Zaa} {i:Nat} {m:Bd} (r:Zui S h i m):i < h.length:=by obtain ⟨_,_,h2,_⟩:=r; exact Own.lt h2
theorem Zui.nil {S:Nat→Prop} {h:Zaa} {i:Nat} (hi:h[i]?=some (.cells Zcj (Zdq eR (List.replicate 12 (.int .u8 0,.slice none 0 0 true))) false)):Zui S h i []:=by
 refine ⟨_,by simp,hi,fun k x hx=>?_⟩
 have:(Zef[k]?).bind (Zfl [])=none:=by cases Zef[k]? <;> rfl
 rw [this]
 rw [List.getElem?_replicate] at hx
 split at hx
 ·cases hx; rfl
 ·cases hx
theorem Zui.get {S:Nat→Prop} {h:Zaa} {i:Nat} {m:Bd} (r:Zui S h i m) {k:Nat} (hk:k < 12):∃ x:Zas × Zas,Zai h (.ptr (some (i,0 + k * 2 + 0)))=some x.1∧Zan h (.ptr (some (i,0 + k * 2))) 2=some [x.1,x.2] ∧
  match (Zef[k]?).bind (Zfl m) with | some t=>Zew S h t [x.1,x.2] | none=>x=(.int .u8 0,.slice none 0 0 true):=by
 obtain ⟨rows,h1,h2,h3⟩:=r
 have hrow:Row h.length h (some (i,0)) (12 * 2) (Zdq eR rows):=⟨by rw [Zay Zkc,h1],.inr ⟨i,0,_,_,_,rfl,Own.lt h2,h2,by rw [Zay Zkc,h1]; simp,by rw [List.drop_zero,List.take_of_length_le (by rw [Zay Zkc,h1]; simp)]⟩⟩
 obtain ⟨i',o',hk',he,_,hr,hc⟩:=Row.el Zkc hrow h1 hk (by omega)
 cases he
 exact ⟨rows[k],by have:=hc 0 (by omega); simpa [eR] using this,hr,h3 k _ (List.getElem?_eq_getElem hk')⟩
def Yny (S:Nat→Prop) (h:Zaa) (i:Nat) (m:Bd):Prop:=∃ rows:List (Zas × Zas),rows.length=12∧h[i]?=some (.cells Zcj (Zdq eR rows) false) ∧
 ∀ (k:Nat) (x:Zas × Zas),k < 6→rows[k]?=some x→match (Zef[k]?).bind (Zfl m) with | some t=>Zew S h t (eR x) | none=>x=(.int .u8 0,.slice none 0 0 true)
theorem Zui.w {S:Nat→Prop} {h:Zaa} {i:Nat} {m:Bd} (r:Zui S h i m):Yny S h i m:=by
 obtain ⟨rows,h1,h2,h3⟩:=r
 exact ⟨rows,h1,h2,fun k x _ hx=>h3 k x hx⟩
theorem Yny.lt {S:Nat→Prop} {h:Zaa} {i:Nat} {m:Bd} (r:Yny S h i m):i < h.length:=by obtain ⟨_,_,h2,_⟩:=r; exact Own.lt h2
theorem Yny.same {S:Nat→Prop} {h h':Zaa} {i:Nat} {m:Bd} (r:Yny S h i m) (s:Zbe h.length h h'):Yny S h' i m:=by
 obtain ⟨rows,h1,h2,h3⟩:=r
 refine ⟨rows,h1,by rw [s.eq i (Own.lt h2)]; exact h2,fun k x hk hx=>?_⟩
 have:=h3 k x hk hx
 split at this
 ·exact this.keep fun j _ hj=>s.eq j hj
 ·exact this
theorem Yny.get {S:Nat→Prop} {h:Zaa} {i:Nat} {m:Bd} (r:Yny S h i m) {k:Nat} (hk:k < 6):∃ x:Zas × Zas,Zai h (.ptr (some (i,0 + k * 2 + 0)))=some x.1∧Zan h (.ptr (some (i,0 + k * 2))) 2=some [x.1,x.2] ∧
  match (Zef[k]?).bind (Zfl m) with | some t=>Zew S h t [x.1,x.2] | none=>x=(.int .u8 0,.slice none 0 0 true):=by
 obtain ⟨rows,h1,h2,h3⟩:=r
 have hrow:Row h.length h (some (i,0)) (12 * 2) (Zdq eR rows):=⟨by rw [Zay Zkc,h1],.inr ⟨i,0,_,_,_,rfl,Own.lt h2,h2,by rw [Zay Zkc,h1]; simp,by rw [List.drop_zero,List.take_of_length_le (by rw [Zay Zkc,h1]; simp)]⟩⟩
 obtain ⟨i',o',hk',he,_,hr,hc⟩:=Row.el Zkc hrow h1 (show k < 12 by omega) (by omega)
 cases he
 exact ⟨rows[k],by have:=hc 0 (by omega); simpa [eR] using this,hr,h3 k _ hk (List.getElem?_eq_getElem hk')⟩
theorem Zui.put {S:Nat→Prop} {h:Zaa} {i:Nat} {m:Bd} (r:Zui S h i m) (hSi:∀ j,S j→j≠i) {k v:Nat} (hk:Zef[k]?=some v) (hg:Zfl m v=none) {t:Ty} {x y:Zas} (ht:Zew S h t [x,y]) :
  ∃ h',Zbb h (.ptr (some (i,0 + k * 2))) [x,y]=some h'∧Zdp i h h'∧Zui S h' i (m ++ [(v,t)]):=by
 obtain ⟨rows,h1,h2,h3⟩:=r
 have hk6:k < 6:=(List.getElem?_eq_some_iff.1 hk).1
 have hput:putRow (Zdq eR rows) (k * 2) (eR (x,y))=Zdq eR (rows.set k (x,y)):=Zvz Zkc (by omega)
 refine ⟨h.set i (.cells Zcj (Zdq eR (rows.set k (x,y))) false),?_,Zdp.set _ _ _,?_⟩
 ·rw [Nat.zero_add,Zba h2 (by rw [Zay Zkc,h1]; simp; omega),← hput]; rfl
 ·have hkeep:∀ j,S j→j < h.length→(h.set i (.cells Zcj (Zdq eR (rows.set k (x,y))) false))[j]?=h[j]?:=fun j hj _=>Zbl (fun e=>hSi j hj e.symm)
  refine ⟨_,by simp [h1],Zbv h2,fun k' x' hx'=>?_⟩
  by_cases e:k=k'
  ·subst e
   rw [List.getElem?_set_self (by omega)] at hx'
   cases hx'
   rw [hk]
   simp only [Option.bind_some,Zrr,hg,if_true]
   exact ht.keep hkeep
  ·rw [List.getElem?_set_ne e] at hx'
   have:=h3 k' x' hx'
   have hb:(Zef[k']?).bind (Zfl (m ++ [(v,t)]))=(Zef[k']?).bind (Zfl m):=by
    cases hv':Zef[k']? with
    | none=>rfl
    | some w=>
     simp only [Option.bind_some,Zrr]
     cases hb:Zfl m w with
     | some u=>rfl
     | none=>
      have:¬ v=w:=fun e'=>by
       subst e'
       have h5:=List.getElem?_eq_some_iff.1 hk
       have h6:=List.getElem?_eq_some_iff.1 hv'
       exact e ((List.getElem_inj (h₀:=h5.1) (h₁:=h6.1) Zpb).1 (h5.2.trans h6.2.symm))
      simp [this]
   rw [hb]
   split at this
   ·exact this.keep hkeep
   ·exact this
def Yve (S:Nat→Prop) (h:Zaa) (i:Nat) (r:Option Bd) (v:Zas) (h':Zaa):Prop:=Zdp i h h'∧(match r with | some m'=>v=.bool true∧Zui S h' i m' | none=>v=.bool false)
theorem Zdp.of_same {i:Nat} {h h':Zaa} (s:Zbe h.length h h'):Zdp i h h':=⟨s.le,fun j hj _=>s.eq j hj⟩
theorem Zzq:∀ (N:Nat) {a t:Ty} {S:Nat→Prop} {h:Zaa} {va vt:List Zas} {i n:Nat} {m:Bd},a.size≤N→a.ok=true→t.ok=true→n≤1048576→t.txt.length≤n→BOk n m→(∀ j,S j→j≠i)→Zew S h a va→Zew S h t vt→Zui S h i m →
  Zah pg Zkt [.ptr (some (i,0)),.agg va,.agg vt] h (Yve S h i (matchT m a t))
 | 0,a,t,S,h,va,vt,i,n,m,hN,_,_,_,_,_,_,_,_,_=>by have:=a.size_ps; omega
 | N + 1,a,t,S,h,va,vt,i,n,m,hN,ha,ht,hB,hn,bo,hSi,ra,rt,rm=>by
  have hcase:=Ycq (m:=m) ha ht
  obtain ⟨aa,ca,ea,vas,rfl,rowa,hSa,hval,hva⟩:=id ra.parts
  obtain ⟨at',ct,et,vts,rfl,rowt,hSt,hvtl,hvt⟩:=id rt.parts
  have hps2:a.ps.length≤2:=by cases a <;> simp [Ty.ps]
  have hil:=rm.lt
  apply Zim.call
  simp only [Zax]
  generalize hh0:h ++ [Zcc.cells Zab [.int .u8 (a.hd:Int),.slice aa a.ps.length ca ea] false]=h0
  generalize hh1:h0 ++ [Zcc.cells Zab [.int .u8 (t.hd:Int),.slice at' t.ps.length ct et] false]=h1
  have s0:Zbe h.length h h0:=by rw [← hh0]; exact Zao
  have s1:Zbe h0.length h0 h1:=by rw [← hh1]; exact Zao
  have o0:h0[h.length]?=some (.cells Zab [.int .u8 (a.hd:Int),.slice aa a.ps.length ca ea] false):=by rw [← hh0]; simp
  have oa:=s1.get o0 (Own.lt o0)
  have ot:h1[h0.length]?=some (.cells Zab [.int .u8 (t.hd:Int),.slice at' t.ps.length ct et] false):=by rw [← hh1]; simp
  have S1:=s0.cat s1
  have l0:h0.length=h.length + 1:=by rw [← hh0]; simp
  have l1:h1.length=h.length + 2:=by rw [← hh1]; simp [l0]
  simp only [Zak oa,Nat.zero_add,List.getElem?_cons_succ,List.getElem?_cons_zero,Zaq]
  refine (Zki a.hd).mono ?_
  rintro v h2 ⟨rfl,rfl⟩
  have rm1:=rm.same S1
  have K1:Zdp i h h2:=Zdp.of_same S1
  simp only [Zaq,Zaw]
  cases hv:Zbd a.hd with
  | true=>
   rw [hv] at hcase
   simp only [if_true] at hcase
   obtain ⟨k,hk6,hkv,hix⟩:=Zyd hv
   rw [hix]
   obtain ⟨x,hx1,hx2,hx3⟩:=rm1.get (k:=k) (by omega)
   rw [hkv,Option.bind_some] at hx3
   have hge:decide ((k:Int) ≥ 0)=true:=by simp
   simp only [hge,Zby,Int.toNat_natCast,hx1,hx2,Zed ot (show 0 + 2≤_ by simp),List.drop_zero,List.take_succ_cons,List.take_zero,Zau,Zaj,Zar,Zaq,Zaf]
   refine ⟨by omega,?_⟩
   cases hg:Zfl m a.hd with
   | none=>
    rw [hg] at hx3
    simp only at hx3
    subst hx3
    have hbn:Zno m a.hd t=some (m ++ [(a.hd,t)]):=by unfold Zno; rw [hg]
    rw [hcase,hbn]
    simp only [Zaq,show ((0:Int) == 0)=true from rfl,Zby]
    obtain ⟨h',hst,hK,hr'⟩:=rm1.put hSi hkv hg (rt.same S1)
    rw [hst]
    simp only [Zat]
    exact ⟨by omega,K1.trans hK,rfl,hr'⟩
   | some u=>
    rw [hg] at hx3
    simp only at hx3
    have hu:=bo.var _ (Zol hg)
    obtain ⟨ux,uc,ue,hux⟩:=hx3.shape
    simp only [List.cons.injEq,and_true] at hux
    obtain ⟨hux1,hux2⟩:=hux
    rw [hux1,hux2] at hx2 hx3
    rw [hux1,hux2]
    simp only [Zaq,Zaf]
    have hu0:(((u.hd:Nat):Int) == 0)=false:=by
     have:=Ztf hu.2.1
     have hne:u.hd≠0:=fun e=>by rw [e] at this; simp at this
     simp; omega
    simp only [hu0,Zbj]
    have rt1:=rt.same S1
    refine ⟨by omega,(Zqt _ (Nat.le_refl _) (by omega) hu.2.1 hx3).mono ?_⟩
    rintro v h3 ⟨rfl,s3⟩
    have ot3:=s3.get ot (Own.lt ot)
    have rt3:=rt1.same s3
    simp only [Zam,Zed ot3 (show 0 + 2≤_ by simp),List.drop_zero,List.take_succ_cons,List.take_zero,true_and]
    refine (Zqt _ (Nat.le_refl _) (by omega) ht rt3).mono ?_
    rintro v h4 ⟨rfl,s4⟩
    simp only [Zam]
    have hri:∀ hx,Zbe h2.length h2 hx→Zan hx (.ptr (some (i,0 + k * 2))) 2=Zan h2 (.ptr (some (i,0 + k * 2))) 2:=fun hx sx=>by
     simp only [Zan,sx.eq i (by omega)]
    rw [hri _ (s3.cat s4),hri _ s3]
    refine ⟨by trivial,?_⟩
    have K4:Zdp i h h4:=K1.trans (Zdp.of_same (s3.cat s4))
    by_cases he:u=t
    ·subst he
     have hbn:Zno m a.hd u=some m:=by unfold Zno; rw [hg]; simp
     rw [hcase,hbn]
     exact ⟨K4,by simp,(rm1.same (s3.cat s4))⟩
    ·have hne:¬ u.txt=t.txt:=fun e=>he (Ty.txt_inj' hu.2.1 ht e)
     have hbn:Zno m a.hd t=none:=by unfold Zno; rw [hg]; simp [he]
     rw [hcase,hbn]
     exact ⟨K4,by simp [hne]⟩
  | false=>
   rw [hv] at hcase
   simp only [Bool.false_eq_true,if_false] at hcase
   rw [Zxy ha hv]
   have hge:decide ((-1:Int) ≥ 0)=false:=by decide
   simp only [hge,Zbj,Zak ot,Zak oa,List.getElem?_cons_succ,List.getElem?_cons_zero,Zaq,Zaf]
   refine Zgi (fun hne=>?_) (fun he=>?_)
   ·rw [if_neg (fun e=>hne (by rw [e]))] at hcase
    rw [hcase]
    exact ⟨K1,rfl⟩
   ·have he':a.hd=t.hd:=by omega
    rw [if_pos he'] at hcase
    rw [hcase]
    have hlen:=Yce ha ht he'
    refine Zim.L10ind _ _ _ _ _ _ _ (J:=fun (g:Nat) x43 h'=>x43=(g:Int)∧g≤a.ps.length∧Zdp i h2 h'∧∃ m1,matchL m (a.ps.take g) (t.ps.take g)=some m1∧Zui S h' i m1) (fun g=>a.ps.length - g) ?_ 0 _ _ ⟨rfl,by omega,Zdp.refl _ _,m,by simp [matchL],rm1⟩
    rintro g x43 h' ⟨rfl,hg,hK,m1,hm1,rm1⟩ R hR
    unfold Zim.L10t
    have KK:=K1.trans hK
    refine Zav (fun hlt=>?_) (fun hge=>?_)
    ·have hga:g < a.ps.length:=by omega
     have hgt:g < t.ps.length:=by omega
     have oa1:h'[h.length]?=some (.cells Zab [.int .u8 (a.hd:Int),.slice aa a.ps.length ca ea] false):=by rw [hK.eq _ (Own.lt oa) (by omega)]; exact oa
     have ot1:h'[h0.length]?=some (.cells Zab [.int .u8 (t.hd:Int),.slice at' t.ps.length ct et] false):=by rw [hK.eq _ (Own.lt ot) (by omega)]; exact ot
     obtain ⟨ja,ofa,a3,c3,e3,rfl,hra,hka⟩:=Zew.get (rowa.keepAt (i:=i) (fun j o h0 e=>hSi j (hSa j o (by omega) e)) KK) hval (fun k w x h1 h2=>(hva k w x h1 h2).keep fun j hj hl=>KK.eq j hl (hSi j hj)) hga
     obtain ⟨jt,oft,a4,c4,e4,rfl,hrt,hkt⟩:=Zew.get (rowt.keepAt (i:=i) (fun j o h0 e=>hSi j (hSt j o (by omega) e)) KK) hvtl (fun k w x h1 h2=>(hvt k w x h1 h2).keep fun j hj hl=>KK.eq j hl (hSi j hj)) hgt
     simp only [Zaw,Int.toNat_natCast,Zak oa1,Zak ot1,hra,hrt,Nat.zero_add,List.getElem?_cons_succ,List.getElem?_cons_zero,Zaf,Zau,Zaj,Zar,Zaq,true_and]
     have hma:=List.getElem_mem hga
     have hmt:=List.getElem_mem hgt
     have h1:=Ty.size_part hma
     have h2:=Ty.len_part hmt
     have bo1:BOk n m1:=BOk.matchL (fun x hx=>Ty.ok_ps ha x (List.mem_of_mem_take hx)) (fun x hx=>⟨Ty.ok_ps ht x (List.mem_of_mem_take hx),by have:=Ty.len_part (List.mem_of_mem_take hx); omega⟩) bo hm1
     have htk:=Zsm a.ps t.ps m g hga hgt
     rw [hm1] at htk
     simp only at htk
     refine ⟨by omega,by omega,(Zzq N (by omega) (Ty.ok_ps ha _ hma) (Ty.ok_ps ht _ hmt) hB (by omega) bo1 hSi hka hkt rm1).mono ?_⟩
     rintro v h3 ⟨K3,hres⟩
     have oa3:h3[h.length]?=some (.cells Zab [.int .u8 (a.hd:Int),.slice (some (ja,ofa)) a.ps.length ca ea] false):=by rw [K3.eq _ (Own.lt oa1) (by omega)]; exact oa1
     cases hmm:matchT m1 a.ps[g] t.ps[g] with
     | none=>
      rw [hmm] at hres htk
      subst hres
      simp only [Zap,Bool.not_false,Zby,Zak oa3,List.getElem?_cons_succ,List.getElem?_cons_zero,true_and]
      rw [Zsj a.ps t.ps m (g + 1) hlen htk]
      exact ⟨KK.trans K3,rfl⟩
     | some m2=>
      rw [hmm] at hres htk
      obtain ⟨rfl,rm2⟩:=hres
      simp only [Zap,Bool.not_true,Zbj,Zak oa3,List.getElem?_cons_succ,List.getElem?_cons_zero,true_and]
      rw [Zbt (by omega)]
      exact hR (g + 1) _ _ (by omega) ⟨rfl,by omega,hK.trans K3,m2,htk,rm2⟩
    ·apply Zim.A10x0i
     have:g=a.ps.length:=by omega
     subst this
     rw [List.take_length,hlen,List.take_length] at hm1
     rw [hm1]
     exact ⟨KK,rfl,rm1⟩
end Go.Sim
