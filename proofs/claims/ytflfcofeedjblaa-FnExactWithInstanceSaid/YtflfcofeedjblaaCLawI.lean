/- A part of the proof of a statement of this seat: see the text that holds the theorem. No condition. -/
import Derived.Test.YtflfcofeedjblaaPTCWVar2
import Derived.Test.YtflfcofeedjblaaCWVar2
import Derived.Test.YtflfcofeedjblaaCSplit
import Derived.Test.YtflfcofeedjblaaSimX
import Derived.Test.YtflfcofeedjblaaShelf
import Derived.Test.YtflfcofeedjblaaNm
import Derived.Test.YtflfcofeedjblaaPTCSrch
set_option linter.unusedVariables false
set_option linter.unusedSimpArgs false
set_option linter.all false
set_option linter.unusedVariables false
set_option linter.unusedSimpArgs false
set_option maxRecDepth 20000
namespace Go.Sim
open Go Go.RowKit

structure WB (w:Wd):Prop where
 lc:w.cs.length≤1048576
 li:w.is.length≤1048576
 cs:∀ p∈w.cs,p.1.length≤1048576∧p.2.length≤1048576∧∀ b∈p.1,b < 256
 is:∀ i∈w.is,i.1.1.length≤1048576∧i.1.2.length≤1048576∧i.2.length≤1048576∧∀ p∈i.2,p.1.length≤1048576∧p.2.length≤1048576
def Zna (a0:Pt) (n0 c0:Nat) (e0:Bool) (a1:Pt) (n1 c1:Nat) (e1:Bool):Zbv:=.cells Zac [.slice a0 n0 c0 e0,.slice a1 n1 c1 e1] false
theorem Yca {h:Zab} {j:Nat} {a0 a1:Pt} {n0 c0 n1 c1:Nat} {e0 e1:Bool} (hj:h[j]?=some (Zna a0 n0 c0 e0 a1 n1 c1 e1)):Zax h (.ptr (some (j,0))) 2=some [.slice a0 n0 c0 e0,.slice a1 n1 c1 e1]:=by
 rw [Zhu (show h[j]?=some (.cells Zac [.slice a0 n0 c0 e0,.slice a1 n1 c1 e1] false) from hj) (by simp)]; rfl
theorem Zln {h:Zab} {j o:Nat} {a0 a1:Pt} {n0 c0 n1 c1:Nat} {e0 e1:Bool} (hj:h[j]?=some (Zna a0 n0 c0 e0 a1 n1 c1 e1)):Zaf h (.ptr (some (j,o)))=([.slice a0 n0 c0 e0,.slice a1 n1 c1 e1]:List Zai)[o]?:=Zba (show h[j]?=some (.cells Zac [.slice a0 n0 c0 e0,.slice a1 n1 c1 e1] false) from hj)
theorem Zbb.get {b:Nat} {h h':Zab} {j:Nat} {x:Zbv} (s:Zbb b h h') (hj:h[j]?=some x) (hb:j < b):h'[j]?=some x:=by rw [s.eq j hb]; exact hj
theorem Zbb.cat {h h1 h2:Zab} (a:Zbb h.length h h1) (b:Zbb h1.length h1 h2):Zbb h.length h h2:=a.trans (b.mono a.le)

theorem Yek {h:Zab} {t:TypeId} {x y z:Zai}:Zax (h ++ [.cells t [x,y,z] false]) (.ptr (some (h.length,0))) 3=some [x,y,z]:=Ych rfl
theorem Zwk {h:Zab} {a0 a1 a2:Pt} {n0 c0 n1 c1 n2 c2 j:Nat} {e0 e1 e2:Bool} {w:Wd} {ns:List Nd} {ct tt:List Nat} (r:Zip h a0 n0 c0 a1 n1 c1 w) (b:WB w) (hj:h[j]?=some (Zna a0 n0 c0 e0 a1 n1 c1 e1))
  (r2:Row h.length h a2 (n2 * 2) (Zdf eP ns)) (hn2:n2≤1048576) (hns:∀ p∈ns,p.2.length≤1048576) (htt:tt.length≤1048576) :
  Zag pg Zbo [.agg [.str ct,.str tt,.slice a2 n2 c2 e2],.ptr (some (j,0))] h fun v h'=>v=.bool (!Ziw w.cs ((ct,tt),ns))∧Zbb h.length h h':=by
 apply Zfr.call
 simp only [Zbh]
 have s1:Zbb h.length h (h ++ [.cells Zaa [.str ct,.str tt,.slice a2 n2 c2 e2] false]):=Zan
 rw [Yca (s1.get hj (Own.lt hj)),Yek]
 simp only [Zar,Zah,Zal,Zae,Zaj]
 have hlc:=b.lc
 have hl0:=r.len0
 refine (Zlw (r.cls.same' s1) r.le0 (by omega) (fun p hp=>(b.cs p hp).2.1) (r2.same' s1) hn2 hns htt).mono ?_
 rintro v h2 ⟨rfl,s2⟩
 simp only [Zau]
 exact ⟨by trivial,s1.cat s2⟩
theorem Zws {h:Zab} {a0 a1:Pt} {n0 c0 n1 c1 j:Nat} {e0 e1:Bool} {w:Wd} (r:Zip h a0 n0 c0 a1 n1 c1 w) (b:WB w) (hj:h[j]?=some (Zna a0 n0 c0 e0 a1 n1 c1 e1)) :
  Zag pg Zbx [.slice a1 n1 c1 e1,.fn Zbo [.ptr (some (j,0))]] h fun v h'=>(∃ z:Int,v=.int .i64 z∧decide (z ≥ 0)=!w.is.all (Ziw w.cs))∧Zbb h.length h h':=by
 have hl:=r.len1
 have hli:=b.li
 apply Zak.call
 refine Zak.L2ind _ _ _ _ _ _ _ (J:=fun (g:Nat) x8 h'=>x8=(g:Int)∧g≤n1∧Zbb h.length h h'∧(w.is.take g).all (Ziw w.cs)=true) (fun g=>n1 - g) ?_ 0 _ _ ⟨rfl,by omega,Zbb.refl _ _,rfl⟩
 rintro g x8 h' ⟨rfl,hg,hS,hk⟩ R hR
 unfold Zak.L2t
 refine Zaq (fun hlt=>?_) (fun hge=>?_)
 ·obtain ⟨i,o,hgl,a2,n2,c2,e2,rfl,_,hr,_,_,_,hrow,hn⟩:=(r.same hS).inst (k:=g) (by omega)
  simp only [Zbd,Int.toNat_natCast,hr,Zar,Zah,Zal,Zaj,Zae]
  have hb:=b.is _ (List.getElem_mem hgl)
  refine ⟨by omega,(Zwk (r.same hS) b (hS.get hj (Own.lt hj)) hrow (by omega) (fun p hp=>(hb.2.2.2 p hp).2) hb.2.1).mono ?_⟩
  rintro v h2 ⟨rfl,s2⟩
  simp only [Zau]
  have hS2:=hS.cat s2
  refine Zci (fun he=>?_) (fun he=>?_)
  ·exact ⟨⟨_,rfl,by rw [Zmr hgl he]; simp⟩,hS2⟩
  ·rw [Zcp (by omega)]
   exact hR (g + 1) _ _ (by omega) ⟨rfl,by omega,hS2,Zeo hgl hk he⟩
 ·apply Zak.A2x0i
  have:g=n1:=by omega
  subst this
  rw [List.take_of_length_le (by omega)] at hk
  exact ⟨⟨_,rfl,by rw [hk]; rfl⟩,hS⟩
theorem Ztf {h:Zab} {a0 a1:Pt} {n0 c0 n1 c1:Nat} {e0 e1:Bool} {w:Wd} (r:Zip h a0 n0 c0 a1 n1 c1 w) (b:WB w) :
  Zag pg Zew [.agg [.slice a0 n0 c0 e0,.slice a1 n1 c1 e1]] h fun v h'=>v=.bool (Zeh w)∧Zbb h.length h h':=by
 have hl0:=r.len0
 have hl1:=r.len1
 have hlc:=b.lc
 apply Zig.call
 simp only [Zbh]
 generalize hh0:h ++ [Zbv.cells Zac [.slice a0 n0 c0 e0,.slice a1 n1 c1 e1] false]=h0
 have s0:Zbb h.length h h0:=by rw [← hh0]; exact Zan
 have w0:h0[h.length]?=some (Zna a0 n0 c0 e0 a1 n1 c1 e1):=by rw [← hh0]; simp [Zna]
 rw [Yca w0]
 simp only [Zar,Zah,Zal,Zae]
 refine (Zmh (r.cls.same' s0) r.le0 (by omega) (fun p hp=>(b.cs p hp).2.1)).mono ?_
 rintro v h2 ⟨rfl,s2⟩
 have S2:=s0.cat s2
 have w2:=s2.get w0 (Own.lt w0)
 simp only [Zau]
 refine Zfg (fun b1=>?_) (fun b1=>⟨by unfold Zeh; rw [b1]; rfl,S2⟩)
 simp only [Zln w2,Nat.zero_add,List.getElem?_cons_succ,List.getElem?_cons_zero,Zae]
 refine Zaq (fun b2=>?_) (fun b2=>⟨by unfold Zeh; rw [b1]; simp [show ¬ w.is.length≤10 by omega],S2⟩)
 apply Zbp.call
 refine (Zws (r.same S2) b w2).mono ?_
 rintro v h3 ⟨⟨z,rfl,hz⟩,s3⟩
 simp only [Zbg,Zau]
 refine ⟨?_,S2.cat s3⟩
 rw [hz,Bool.not_not]
 unfold Zeh
 rw [b1]; simp [show w.is.length≤10 by omega]
theorem Zrs {h:Zab} {a0 a1:Pt} {n0 c0 n1 c1:Nat} {e0 e1:Bool} {w:Wd} (r:Zip h a0 n0 c0 a1 n1 c1 w) (b:WB w) :
  Zag pg Zav [.agg [.slice a0 n0 c0 e0,.slice a1 n1 c1 e1]] h fun v h'=>v=.bool (Zeh w)∧Zbb h.length h h':=by
 have hl0:=r.len0
 have hl1:=r.len1
 have hlc:=b.lc
 have hli:=b.li
 apply Zdh.call
 simp only [Zbh]
 generalize hh0:h ++ [Zbv.cells Zac [.slice a0 n0 c0 e0,.slice a1 n1 c1 e1] false]=h0
 have s0:Zbb h.length h h0:=by rw [← hh0]; exact Zan
 have w0:h0[h.length]?=some (Zna a0 n0 c0 e0 a1 n1 c1 e1):=by rw [← hh0]; simp [Zna]
 simp only [Zln w0,Nat.zero_add,List.getElem?_cons_succ,List.getElem?_cons_zero,Zae]
 refine Zdh.L2ind _ _ _ _ _ _ _ _ (J:=fun (g:Nat) x8 h'=>x8=(g:Int)∧g≤n1∧Zbb h0.length h0 h'∧(w.is.take g).all (Ziw w.cs)=true) (fun g=>n1 - g) ?_ 0 _ _ ⟨rfl,by omega,Zbb.refl _ _,rfl⟩
 rintro g x8 h' ⟨rfl,hg,hS,hk⟩ R hR
 have SS:=s0.cat hS
 have w1:=hS.get w0 (Own.lt w0)
 unfold Zdh.L2t
 refine Zaq (fun hlt=>?_) (fun hge=>?_)
 ·obtain ⟨i,o,hgl,a2,n2,c2,e2,rfl,_,hr,_,_,_,hrow,hn⟩:=(r.same SS).inst (k:=g) (by omega)
  simp only [Zbd,Int.toNat_natCast,hr,Zar,Zah,Zal,Zaj,Zae,Zbh]
  rw [Zym]
  generalize hq:h' ++ [Zbv.cells Zaa [.str w.is[g].1.1,.str w.is[g].1.2,.slice a2 n2 c2 e2] false]=hq'
  have sq:Zbb h'.length h' hq':=by rw [← hq]; exact Zan
  simp only [Zam]
  rw [Yca (sq.get w1 (Own.lt w1)),← hq,Yek,hq]
  simp only [Zar,Zah,Zal,Zaj,Zae]
  have hb:=b.is _ (List.getElem_mem hgl)
  have Sq:=SS.cat sq
  refine ⟨by omega,(Zkv (r.cls.same' Sq) r.le0 (by omega) (fun p hp=>(b.cs p hp).2.1) (fun p hp=>(b.cs p hp).2.2) (hrow.same' sq) (by omega) (fun p hp=>(hb.2.2.2 p hp).2) hb.2.1).mono ?_⟩
  rintro v h2 ⟨rfl,s2⟩
  simp only [Zau]
  refine Zci (fun he=>?_) (fun he=>?_)
  ·exact ⟨by unfold Zeh; rw [Zmr hgl he]; simp,Sq.cat s2⟩
  ·rw [Zcp (by omega)]
   exact hR (g + 1) _ _ (by omega) ⟨rfl,by omega,(hS.cat sq).cat s2,Zeo hgl hk he⟩
 ·apply Zdh.A2x0i
  have:g=n1:=by omega
  subst this
  rw [List.take_of_length_le (by omega)] at hk
  simp only [Zln w1,Nat.zero_add,List.getElem?_cons_zero,Zae]
  refine (Zmg (r.cls.same' SS) r.le0 (by omega) (fun p hp=>(b.cs p hp).2.1) (fun p hp=>(b.cs p hp).2.2)).mono ?_
  rintro v h2 ⟨rfl,s2⟩
  simp only [Zau]
  have w2:=s2.get w1 (Own.lt w1)
  refine Zfg (fun b1=>?_) (fun b1=>⟨by unfold Zeh; rw [b1]; rfl,SS.cat s2⟩)
  simp only [Zln w2,Nat.zero_add,List.getElem?_cons_succ,List.getElem?_cons_zero,Zae]
  refine ⟨?_,SS.cat s2⟩
  unfold Zeh
  rw [b1,hk]; congr 1; rw [Bool.eq_iff_iff]; simp; omega
end Go.Sim

set_option linter.unusedVariables false
set_option linter.unusedSimpArgs false
set_option maxRecDepth 20000
namespace Go.Sim
open Go Go.RowKit

end Go.Sim

set_option linter.unusedVariables false
set_option linter.unusedSimpArgs false
set_option maxRecDepth 20000
namespace Go.Sim
open Go Go.RowKit
theorem Zzv {h:Zab} {c t:List Nat} {x:Int} (hc:c.length≤9223372036854775807) (ht:t.length≤9223372036854775807) (hx:0≤x∧x≤1048576) :
  Zag pg Zkf [.agg [.str c,.str t],.int .i64 x] h fun v h'=>∃ y,v=.int .i64 y∧Zbb h.length h h'∧(0≤y→(c.length:Int) + t.length + y=x):=by
 apply Znl.call
 simp only [Zbh]
 have s1:Zbb h.length h (h ++ [.cells Zmi [.str c,.str t] false]):=Zbb.app (Nat.le_refl _) _
 simp [Zaf]
 rw [IntWalk.i64_in _ (by omega)]
 refine Zaq (fun hlt=>s1) (fun hge=>?_)
 rw [IntWalk.i64_in _ (by omega)]
 exact Zaq (fun hlt=>s1) (fun hge=>⟨s1,by omega⟩)
theorem Zze {h:Zab} {c t c' t':List Nat} :
  Zag pg Zki [.agg [.str c,.str t],.agg [.str c',.str t']] h fun v h'=>v=.bool (decide (c=c') && decide (t=t'))∧Zbb h.length h h':=by
 apply Znp.call
 simp only [Zbh]
 simp [Zaf]
 by_cases e1:c=c' <;> by_cases e2:t=t' <;> simp [e1,e2] <;> exact Zbb.app (Nat.le_refl _) _
theorem Zzm {h:Zab} {c t:List Nat} :
  Zag pg Zke [.agg [.str c,.str t]] h fun v h'=>v=.agg [.str c,.str t]∧Zbb h.length h h':=by
 apply Zno.call
 simp only [Zbh]
 simp [Zaf,Zaw,Zax,Zbj,List.getElem?_append,List.getElem?_set]
 exact Zbb.app (Nat.le_refl _) _

theorem Zve {h:Zab} {a:Pt} {n c:Nat} {e:Bool} {l:List (List Nat × List Nat)} (r:Row h.length h a (n * 2) (prs l)) (hs:∀ p∈l,p.1.length≤9223372036854775807∧p.2.length≤9223372036854775807) (hn:n≤9223372036854775807) {left:Int} (hl:0≤left∧left≤1048576) :
  Zag pg Zjn [.slice a n c e,.int .i64 left] h fun v h'=>∃ x,v=.int .i64 x∧Zbb h.length h h'∧(0≤x→(n:Int) + Zua l + x=left):=by
 have hll:l.length=n:=by have:=r.1; rw [Zfo] at this; omega
 apply Zft.call
 rw [IntWalk.i64_in _ (by omega)]
 refine Zaq (fun hlt=>?_) (fun hge=>?_)
 ·exact ⟨_,rfl,Zbb.refl _ _,by omega⟩
 ·refine Zft.L5ind _ _ _ _ _ (J:=fun (g:Nat) x1 x5 h'=>x5=(g:Int)∧Zbb h.length h h'∧g≤n∧0≤x1∧x1 + n + Zua (l.take g)=left) (fun g=>n - g) ?_ 0 _ 0 h ⟨rfl,Zbb.refl _ _,by omega,by omega,by simp [Zua]⟩
  rintro g x1 x5 h' ⟨rfl,hS,hg,h0,ht⟩ R hR
  unfold Zft.L5t
  refine Zaq (fun hlt=>?_) (fun hge=>?_)
  ·have hlt':g < n:=by omega
   obtain ⟨i,o,hgl,rfl,hi,hc⟩:=(r.same hS).pair hlt'
   have hsl:=hs _ (List.getElem_mem hgl)
   simp only [Zbd,Int.toNat_natCast,hc,Zar,Zah,Zal,Zaj]
   refine ⟨by omega,(Zzv hsl.1 hsl.2 (by omega)).mono fun v h1 ⟨y,hv,hs1,hy⟩=>?_⟩
   subst hv
   simp only [Zbg]
   have hS1:=hS.trans (hs1.mono hS.le)
   refine Zaq (fun hneg=>⟨_,rfl,hS1,by omega⟩) (fun hneg=>?_)
   rw [Zkt hlt' (by omega)]
   have hyy:=hy (by omega)
   refine hR (g + 1) _ _ _ (by omega) ⟨rfl,hS1,by omega,by omega,?_⟩
   rw [Zrg hgl]; omega
  ·have:g=n:=by omega
   subst this
   rw [List.take_of_length_le (by omega)] at ht
   exact Zft.A5x0i _ _ _ ⟨_,rfl,hS,by omega⟩
theorem Zuf {h:Zab} {a:Pt} {n c:Nat} {e:Bool} {l:List (List Nat × List Nat)} (r:Row h.length h a (n * 2) (prs l)) (hn:n≤1048576) :
  Zag pg Zjm [.slice a n c e] h fun v h'=>∃ a' c' e',v=.slice a' n c' e'∧Zbb h.length h h'∧Zcd Zat eP h.length h' a' n l∧n≤c'∧a'≠none:=by
 have hll:l.length=n:=by have:=r.1; rw [Zfo] at this; omega
 apply Zfx.call
 refine ⟨rfl,rfl,by omega,?_⟩
 simp only [Zbh,Int.toNat_natCast,Zyb]
 refine Zfx.L3ind _ _ _ _ _ _ _ _ _ (J:=fun (g:Nat) x4 h'=>x4=(g:Int)∧g≤n∧Zbb h.length h h'∧h'[h.length]?=some (.cells Zat (prs (l.take g ++ List.replicate (n - g) ([],[]))) false)) (fun g=>n - g) ?_ 0 0 _ ⟨rfl,by omega,Zbb.app (Nat.le_refl _) _,by simp⟩
 rintro g x4 h' ⟨rfl,hg,hs,hi⟩ R hR
 unfold Zfx.L3t
 refine Zaq (fun hlt=>?_) (fun hge=>?_)
 ·have hlt':g < n:=by omega
  obtain ⟨i,o,hgl,rfl,hi',hc⟩:=(r.same hs).pair hlt'
  simp only [Zbd,Int.toNat_natCast,hc,Zar,Zah,Zal,Zaj]
  refine ⟨by omega,Zzm.mono fun v h1 ⟨hv,hs1⟩=>?_⟩
  subst hv
  have hi1:h1[h.length]?=some (.cells Zat (prs (l.take g ++ List.replicate (n - g) ([],[]))) false):=by rw [hs1.eq _ (Own.lt hi)]; exact hi
  simp only [Zcj,Zah,Zal,Zaj,Nat.zero_add]
  have hmin:min g l.length=g:=Nat.min_eq_left (by omega)
  rw [Zvg hi1 (by simp; omega)]
  simp only [Zam]
  rw [Zkt hlt' (by omega)]
  have hset:(l.take g ++ List.replicate (n - g) ([],[])).take g ++ [(l[g].1,l[g].2)] ++ (l.take g ++ List.replicate (n - g) (([]:List Nat),([]:List Nat))).drop (g + 1)=l.take (g + 1) ++ List.replicate (n - (g + 1)) ([],[]):=by
   have hl1:(l.take g).length=g:=by rw [List.length_take,hmin]
   rw [List.take_left' hl1,List.take_succ_eq_append_getElem hgl,List.drop_append,hl1,List.drop_of_length_le (by omega),List.nil_append,List.drop_replicate]
   congr 2; omega
  rw [hset]
  exact ⟨⟨by omega,by omega⟩,hR (g + 1) _ _ (by omega) ⟨rfl,by omega,(hs.trans (hs1.mono hs.le)).trans (Zbb.set (Nat.le_refl _) _),Zkn hi1⟩⟩
 ·have:g=n:=by omega
  subst this
  rw [List.take_of_length_le (by omega),Nat.sub_self,List.replicate_zero,List.append_nil] at hi
  exact Zfx.A3x0i _ _ _ _ _ _ ⟨_,_,_,rfl,hs,⟨hll,.inr ⟨h.length,rfl,Nat.le_refl _,hi⟩⟩,by simp,by simp⟩
theorem Zuv {h:Zab} {a0 a1:Pt} {n0 n1 c0 c1:Nat} {e0 e1:Bool} {l0 l1:List (List Nat × List Nat)} (r0:Row h.length h a0 (n0 * 2) (prs l0)) (r1:Row h.length h a1 (n1 * 2) (prs l1)) (hn:n0≤4611686018427387904) (heq:l0=l1) :
  Zag pg Zjp [.slice a0 n0 c0 e0,.slice a1 n1 c1 e1] h fun v h'=>v=.bool true∧Zbb h.length h h':=by
 subst heq
 have hl0:l0.length=n0:=by have:=r0.1; rw [Zfo] at this; omega
 have hl1:l0.length=n1:=by have:=r1.1; rw [Zfo] at this; omega
 have:n1=n0:=by omega
 subst this
 apply Zga.call
 simp only [beq_self_eq_true,Bool.not_true,Zbr]
 refine Zga.L4ind _ _ _ _ _ _ _ _ _ (J:=fun (k:Nat) x5 h'=>Zbb h.length h h'∧x5=(k:Int)∧k≤n1) (fun k=>n1 - k) ?_ 0 0 h ⟨Zbb.refl _ _,rfl,by omega⟩
 rintro k x5 h' ⟨hs,rfl,hk⟩ R hR
 unfold Zga.L4t
 refine Zaq (fun hlt=>?_) (fun hge=>Zga.A4x0i _ _ ⟨rfl,hs⟩)
 have hlt':k < n1:=by omega
 obtain ⟨i,o,hgl,rfl,_,hc0⟩:=(r0.same hs).pair hlt'
 obtain ⟨i',o',_,rfl,_,hc1⟩:=(r1.same hs).pair hlt'
 simp only [Zbd,Int.toNat_natCast,hc0,hc1,Zar,Zah,Zal,Zaj,true_and]
 refine ⟨⟨by omega,by omega⟩,⟨by omega,by omega⟩,Zze.mono fun v h1 ⟨hv,hs1⟩=>?_⟩
 subst hv
 simp only [Zau,decide_true,Bool.and_self,Bool.not_true,Zbr]
 rw [Zkt hlt' (by omega)]
 exact hR (k + 1) _ _ (by omega) ⟨hs.trans (hs1.mono hs.le),rfl,by omega⟩

theorem Zwv {h:Zab} {a:Pt} {n c:Nat} {e:Bool} {l:List (List Nat × List Nat)} (r:Row h.length h a (n * 2) (prs l)) (hn:n≤1048576) :
  Zag pg Zkb [.slice a n c e] h fun v h'=>∃ a' c' e',v=.slice a' n c' e'∧Zbb h.length h h'∧Zcd Zap eP h.length h' a' n l∧n≤c'∧a'≠none:=by
 have hll:l.length=n:=by have:=r.1; rw [Zfo] at this; omega
 apply Zgt.call
 refine ⟨rfl,rfl,by omega,?_⟩
 simp only [Zbh,Int.toNat_natCast,Zyb]
 refine Zgt.L3ind _ _ _ _ _ _ _ _ _ (J:=fun (g:Nat) x4 h'=>x4=(g:Int)∧g≤n∧Zbb h.length h h'∧h'[h.length]?=some (.cells Zap (prs (l.take g ++ List.replicate (n - g) ([],[]))) false)) (fun g=>n - g) ?_ 0 0 _ ⟨rfl,by omega,Zbb.app (Nat.le_refl _) _,by simp⟩
 rintro g x4 h' ⟨rfl,hg,hs,hi⟩ R hR
 unfold Zgt.L3t
 refine Zaq (fun hlt=>?_) (fun hge=>?_)
 ·have hlt':g < n:=by omega
  obtain ⟨i,o,hgl,rfl,hi',hc⟩:=(r.same hs).pair hlt'
  simp only [Zbd,Int.toNat_natCast,hc,Zar,Zah,Zal,Zaj]
  refine ⟨by omega,Zvj.mono fun v h1 ⟨hv,hs1⟩=>?_⟩
  subst hv
  have hi1:h1[h.length]?=some (.cells Zap (prs (l.take g ++ List.replicate (n - g) ([],[]))) false):=by rw [hs1.eq _ (Own.lt hi)]; exact hi
  simp only [Zcj,Zah,Zal,Zaj,Nat.zero_add]
  have hmin:min g l.length=g:=Nat.min_eq_left (by omega)
  rw [Zvg hi1 (by simp; omega)]
  simp only [Zam]
  rw [Zkt hlt' (by omega)]
  have hset:(l.take g ++ List.replicate (n - g) ([],[])).take g ++ [(l[g].1,l[g].2)] ++ (l.take g ++ List.replicate (n - g) (([]:List Nat),([]:List Nat))).drop (g + 1)=l.take (g + 1) ++ List.replicate (n - (g + 1)) ([],[]):=by
   have hl1:(l.take g).length=g:=by rw [List.length_take,hmin]
   rw [List.take_left' hl1,List.take_succ_eq_append_getElem hgl,List.drop_append,hl1,List.drop_of_length_le (by omega),List.nil_append,List.drop_replicate]
   congr 2; omega
  rw [hset]
  exact ⟨⟨by omega,by omega⟩,hR (g + 1) _ _ (by omega) ⟨rfl,by omega,(hs.trans (hs1.mono hs.le)).trans (Zbb.set (Nat.le_refl _) _),Zkn hi1⟩⟩
 ·have:g=n:=by omega
  subst this
  rw [List.take_of_length_le (by omega),Nat.sub_self,List.replicate_zero,List.append_nil] at hi
  exact Zgt.A3x0i _ _ _ _ _ _ ⟨_,_,_,rfl,hs,⟨hll,.inr ⟨h.length,rfl,Nat.le_refl _,hi⟩⟩,by simp,by simp⟩
end Go.Sim

set_option linter.unusedVariables false
set_option linter.unusedSimpArgs false
set_option maxRecDepth 20000
namespace Go.Sim
open Go Go.RowKit

def isz (i:Ins):Nat:=i.1.1.length + i.1.2.length + (i.2.length + Zua i.2)
def Yaq (l:List Ins):Nat:=(l.map isz).sum
def wsz (w:Wd):Nat:=w.cs.length + Zua w.cs + (w.is.length + Yaq w.is)
theorem Zvz {l:List Ins} {g:Nat} (h:g < l.length):Yaq (l.take (g + 1))=Yaq (l.take g) + isz l[g]:=by
 unfold Yaq; rw [List.take_succ_eq_append_getElem h,List.map_append,List.sum_append]; simp
theorem Zvi (l:List Ins) (g:Nat):Yaq (l.take g)≤Yaq l:=by
 conv=>rhs; rw [← List.take_append_drop g l]
 unfold Yaq; rw [List.map_append,List.sum_append]; omega
theorem Ydy {l:List Ins} {g:Nat} (h:g < l.length):isz l[g]≤Yaq l:=by
 have:=Zvz h; have:=Zvi l (g + 1); omega
def Zpt (n:Nat):Prop:=n≤9223372036854775807
structure Yix (w:Wd):Prop where
 lc:Zpt w.cs.length
 li:Zpt w.is.length
 cs:∀ p∈w.cs,Zpt p.1.length∧Zpt p.2.length∧∀ b∈p.1,b < 256
 is:∀ i∈w.is,Zpt i.1.1.length∧Zpt i.1.2.length∧Zpt i.2.length∧∀ p∈i.2,Zpt p.1.length∧Zpt p.2.length
theorem WB.of {w:Wd} (b:Yix w) (h:wsz w≤1048576):WB w:=by
 have h1:∀ p∈w.cs,p.1.length + p.2.length≤Zua w.cs:=fun p hp=>by
  obtain ⟨k,hk,rfl⟩:=List.mem_iff_getElem.1 hp; exact Ztc hk
 have h2:∀ i∈w.is,isz i≤Yaq w.is:=fun p hp=>by
  obtain ⟨k,hk,rfl⟩:=List.mem_iff_getElem.1 hp; exact Ydy hk
 unfold wsz at h
 refine ⟨by omega,by omega,fun p hp=>⟨by have:=h1 p hp; omega,by have:=h1 p hp; omega,(b.cs p hp).2.2⟩,fun i hi=>?_⟩
 have:=h2 i hi
 unfold isz at this
 refine ⟨by omega,by omega,by omega,fun p hp=>?_⟩
 have h3:p.1.length + p.2.length≤Zua i.2:=by obtain ⟨k,hk,rfl⟩:=List.mem_iff_getElem.1 hp; exact Ztc hk
 omega
theorem Zop {h:Zab} {a:Pt} {n cp:Nat} {e:Bool} {i:Ins} {x:Int} (r:Row h.length h a (n * 2) (Zdf eP i.2)) (hb:Zpt i.1.1.length∧Zpt i.1.2.length∧Zpt i.2.length∧∀ p∈i.2,Zpt p.1.length∧Zpt p.2.length) (hx:0≤x∧x≤1048576) :
  Zag pg Zgf [.agg [.str i.1.1,.str i.1.2,.slice a n cp e],.int .i64 x] h fun v h'=>∃ y,v=.int .i64 y∧Zbb h.length h h'∧(0≤y→(isz i:Int) + y=x):=by
 have hl:i.2.length=n:=by have:=r.1; rw [Zbl Zdg] at this; omega
 apply Zkp.call
 simp only [Zbh]
 have s1:Zbb h.length h (h ++ [.cells Zce [.str i.1.1,.str i.1.2,.slice a n cp e] false]):=Zan
 have hi:(h ++ [Zbv.cells Zce [.str i.1.1,.str i.1.2,.slice a n cp e] false])[h.length]?=some (.cells Zce [.str i.1.1,.str i.1.2,.slice a n cp e] false):=by simp
 simp only [Nat.add_zero]
 rw [Zhu hi (by simp)]
 simp only [List.drop_zero,List.take_succ_cons,List.take_zero,Zar,Zah,Zal,Zaj]
 refine (Zux hb.1 hb.2.1 hx).mono ?_
 rintro v h2 ⟨y,rfl,s2,hy⟩
 simp only [Zbg]
 have i2:=s2.get hi (Own.lt hi)
 refine Zaq (fun hlt=>⟨_,rfl,s1.cat s2,by omega⟩) (fun hge=>?_)
 have hyy:=hy (by omega)
 simp only [Zba i2,Nat.zero_add,List.getElem?_cons_succ,List.getElem?_cons_zero,Zae]
 have hN:=hb.2.2.1
 unfold Zpt at hN
 refine (Yal (r.same' (s1.cat s2)) (fun p hp=>hb.2.2.2 p hp) (by omega) (left:=y) (by omega)).mono ?_
 rintro v h3 ⟨z,rfl,s3,hz⟩
 simp only [Zbg]
 refine Zaq (fun hlt=>⟨_,rfl,(s1.cat s2).cat s3,by omega⟩) (fun hge=>⟨_,rfl,(s1.cat s2).cat s3,fun h0=>?_⟩)
 have:=hz h0
 unfold isz; omega
theorem Zrx {h:Zab} {a0 a:Pt} {n0 c0 n cp:Nat} {e:Bool} {w:Wd} {x:Int} (r:Zip h a0 n0 c0 a n cp w) (hb:Yix w) (hx:0≤x∧x≤1048576) :
  Zag pg Zhp [.slice a n cp e,.int .i64 x] h fun v h'=>∃ y,v=.int .i64 y∧Zbb h.length h h'∧(0≤y→(w.is.length:Int) + Yaq w.is + y=x):=by
 have hl:=r.len1
 have hbl:=hb.li
 unfold Zpt at hbl
 apply Zek.call
 rw [IntWalk.i64_in _ (by omega)]
 refine Zaq (fun hlt=>⟨_,rfl,Zbb.refl _ _,by omega⟩) (fun hge=>?_)
 refine Zek.L5ind _ _ _ _ _ (J:=fun (g:Nat) x1 x5 h'=>x5=(g:Int)∧Zbb h.length h h'∧g≤n∧0≤x1∧x1 + n + Yaq (w.is.take g)=x) (fun g=>n - g) ?_ 0 _ 0 h ⟨rfl,Zbb.refl _ _,by omega,by omega,by simp [Yaq]⟩
 rintro g x1 x5 h' ⟨rfl,hS,hg,h0,ht⟩ R hR
 unfold Zek.L5t
 refine Zaq (fun hlt=>?_) (fun hge=>?_)
 ·obtain ⟨i,o,hgl,a2,n2,c2,e2,rfl,_,hr,_,_,_,hrow,hn⟩:=(r.same hS).inst (k:=g) (by omega)
  simp only [Zbd,Int.toNat_natCast,hr,Zar,Zah,Zal,Zaj,Zae]
  refine ⟨by omega,(Zop (i:=w.is[g]) hrow (hb.is _ (List.getElem_mem hgl)) (by omega)).mono ?_⟩
  rintro v h1 ⟨y,rfl,hs1,hy⟩
  simp only [Zbg]
  have hS1:=hS.cat hs1
  refine Zaq (fun hneg=>⟨_,rfl,hS1,by omega⟩) (fun hneg=>?_)
  have hyy:=hy (by omega)
  rw [Zcp (by omega)]
  exact hR (g + 1) _ _ _ (by omega) ⟨rfl,hS1,by omega,by omega,by rw [Zvz hgl]; omega⟩
 ·have:g=n:=by omega
  subst this
  rw [List.take_of_length_le (by omega)] at ht
  exact Zek.A5x0i _ _ _ ⟨_,rfl,hS,by omega⟩
theorem Zyz {h:Zab} {a0 a1:Pt} {n0 c0 n1 c1:Nat} {e0 e1:Bool} {w:Wd} {x:Int} (r:Zip h a0 n0 c0 a1 n1 c1 w) (hb:Yix w) (hx:0≤x∧x≤1048576) :
  Zag pg Zkd [.agg [.slice a0 n0 c0 e0,.slice a1 n1 c1 e1],.int .i64 x] h fun v h'=>∃ y,v=.int .i64 y∧Zbb h.length h h'∧(0≤y→(wsz w:Int) + y=x):=by
 have hl0:=r.len0
 apply Znk.call
 simp only [Zbh]
 have s1:Zbb h.length h (h ++ [.cells Zcz [.slice a0 n0 c0 e0,.slice a1 n1 c1 e1] false]):=Zan
 have hi:(h ++ [Zbv.cells Zcz [.slice a0 n0 c0 e0,.slice a1 n1 c1 e1] false])[h.length]?=some (.cells Zcz [.slice a0 n0 c0 e0,.slice a1 n1 c1 e1] false):=by simp
 simp only [Zba hi,Nat.add_zero,List.getElem?_cons_zero,Zae]
 have hN:=hb.lc
 unfold Zpt at hN
 refine (Zve (r.cls.same' s1) (fun p hp=>⟨(hb.cs p hp).1,(hb.cs p hp).2.1⟩) (by omega) hx).mono ?_
 rintro v h2 ⟨y,rfl,s2,hy⟩
 simp only [Zbg]
 have i2:=s2.get hi (Own.lt hi)
 refine Zaq (fun hlt=>⟨_,rfl,s1.cat s2,by omega⟩) (fun hge=>?_)
 have hyy:=hy (by omega)
 simp only [Zba i2,Nat.zero_add,List.getElem?_cons_succ,List.getElem?_cons_zero,Zae]
 refine (Zrx (r.same (s1.cat s2)) hb (x:=y) (by omega)).mono ?_
 rintro v h3 ⟨z,rfl,s3,hz⟩
 simp only [Zbg]
 refine Zaq (fun hlt=>⟨_,rfl,(s1.cat s2).cat s3,by omega⟩) (fun hge=>⟨_,rfl,(s1.cat s2).cat s3,fun h0=>?_⟩)
 have:=hz h0
 unfold wsz; omega

theorem Ycq {h:Zab} {i:Nat} {t:TypeId} {x y z v:Zai} (hi:h[i]?=some (.cells t [x,y,z] false)):Zaw h (.ptr (some (i,2))) [v]=some (h.set i (.cells t [x,y,v] false)):=by
 rw [Zay hi (by simp)]; rfl
theorem Zzn {h:Zab} {i:Nat} {t:TypeId} {x y z v u:Zai} (hi:h[i]?=some (.cells t [x,y,z] false)):Zaw h (.ptr (some (i,0))) [v,u]=some (h.set i (.cells t [v,u,z] false)):=by
 rw [Zay hi (by simp)]; rfl
theorem Yae {h:Zab} {i:Nat} {t:TypeId} {x y z a b c:Zai} (hi:h[i]?=some (.cells t [x,y,z] false)):Zaw h (.ptr (some (i,0))) [a,b,c]=some (h.set i (.cells t [a,b,c] false)):=by
 rw [Zay hi (by simp)]; rfl
theorem Zdt {h:Zab} {i:Nat} {t:TypeId} {x y z:Zai} {ro:Bool} (hi:h[i]?=some (.cells t [x,y,z] ro)):Zax h (.ptr (some (i,0))) 3=some [x,y,z]:=by
 rw [Zhu hi (by simp)]; rfl
theorem Ydd {h:Zab} {i:Nat} {t:TypeId} {x y z:Zai} {ro:Bool} (hi:h[i]?=some (.cells t [x,y,z] ro)):Zax h (.ptr (some (i,0))) 2=some [x,y]:=by
 rw [Zhu hi (by simp)]; rfl
theorem Zbb.set' {b i:Nat} {h h1:Zab} {x:Zbv} (s:Zbb b h h1) (hi:b≤i):Zbb b h (h1.set i x):=⟨by simp; exact s.le,fun j hj=>by rw [Zbn (by omega)]; exact s.eq j hj⟩
theorem Zcd.keep {α:Type} {ty:TypeId} {enc:α→List Zai} {b b':Nat} {h h':Zab} {a:Pt} {n:Nat} {l:List α} (f:Zcd ty enc b h a n l) (hb:b'≤b) (hk:∀ i,b≤i→i < h.length→h'[i]?=h[i]?):Zcd ty enc b' h' a n l:=
 ⟨f.1,f.2.imp id fun ⟨i,ha,hbi,hi⟩=>⟨i,ha,by omega,by rw [hk i hbi (Own.lt hi)]; exact hi⟩⟩
theorem Zee {h:Zab} {a:Pt} {n cp:Nat} {e:Bool} {i:Ins} (r:Row h.length h a (n * 2) (Zdf eP i.2)) (hn:n≤1048576) :
  Zag pg Zby [.agg [.str i.1.1,.str i.1.2,.slice a n cp e]] h fun v h'=>∃ a' c' e',v=.agg [.str i.1.1,.str i.1.2,.slice a' n c' e']∧Zbb h.length h h'∧Zcd Zap eP h.length h' a' n i.2∧a'≠none:=by
 apply Zkq.call
 simp only [Zbh]
 generalize hh0:h ++ [Zbv.cells Zce [.str i.1.1,.str i.1.2,.slice a n cp e] false]=h0
 generalize hh1:h0 ++ [Zbv.cells Zaa [.str [],.str [],.slice none 0 0 true] false]=h1
 generalize hh2:h1 ++ [Zbv.cells Zaa [.str [],.str [],.slice none 0 0 true] false]=h2
 have s0:Zbb h.length h h0:=by rw [← hh0]; exact Zan
 have s1:Zbb h0.length h0 h1:=by rw [← hh1]; exact Zan
 have s2:Zbb h1.length h1 h2:=by rw [← hh2]; exact Zan
 have l0:h0.length=h.length + 1:=by rw [← hh0]; simp
 have l1:h1.length=h.length + 2:=by rw [← hh1]; simp [l0]
 have l2:h2.length=h.length + 3:=by rw [← hh2]; simp [l1]
 have x0:h0[h.length]?=some (.cells Zce [.str i.1.1,.str i.1.2,.slice a n cp e] false):=by rw [← hh0]; simp
 have y1:h1[h0.length]?=some (.cells Zaa [.str [],.str [],.slice none 0 0 true] false):=by rw [← hh1]; simp
 have z2:h2[h1.length]?=some (.cells Zaa [.str [],.str [],.slice none 0 0 true] false):=by rw [← hh2]; simp
 have x2:=s2.get (s1.get x0 (by omega)) (by omega)
 have y2:=s2.get y1 (by omega)
 have S2:=(s0.cat s1).cat s2
 simp only [Nat.add_zero,Nat.zero_add]
 rw [Ydd x2]
 simp only [Zar,Zah,Zal,Zaj]
 refine Zvj.mono ?_
 rintro v h3 ⟨rfl,s3⟩
 simp only [Zcj,Zah,Zal,Zaj]
 have z3:=s3.get z2 (by omega)
 have x3:=s3.get x2 (by omega)
 have y3:=s3.get y2 (by omega)
 have l3:=s3.le
 rw [Zzn z3]
 simp only [Zam]
 have x4:(h3.set h1.length (.cells Zaa [.str i.1.1,.str i.1.2,.slice none 0 0 true] false))[h.length]?=some (.cells Zce [.str i.1.1,.str i.1.2,.slice a n cp e] false):=by rw [Zbn (by omega)]; exact x3
 have y4:(h3.set h1.length (.cells Zaa [.str i.1.1,.str i.1.2,.slice none 0 0 true] false))[h0.length]?=some (.cells Zaa [.str [],.str [],.slice none 0 0 true] false):=by rw [Zbn (by omega)]; exact y3
 have z4:(h3.set h1.length (.cells Zaa [.str i.1.1,.str i.1.2,.slice none 0 0 true] false))[h1.length]?=some (.cells Zaa [.str i.1.1,.str i.1.2,.slice none 0 0 true] false):=Zbm z3
 have S4:Zbb h.length h (h3.set h1.length (.cells Zaa [.str i.1.1,.str i.1.2,.slice none 0 0 true] false)):=(S2.cat s3).set' (by omega)
 generalize hh4:h3.set h1.length (.cells Zaa [.str i.1.1,.str i.1.2,.slice none 0 0 true] false)=h4 at *
 have l4:h4.length=h3.length:=by rw [← hh4]; simp
 simp only [Zba x4,List.getElem?_cons_succ,List.getElem?_cons_zero,Zae]
 refine (Zwv (r.same' S4) hn).mono ?_
 rintro v h5 ⟨a',c',e',rfl,s5,f5,hc5,hnn⟩
 simp only [Zae]
 have l5:=s5.le
 have y5:=s5.get y4 (by omega)
 have z5:=s5.get z4 (by omega)
 rw [Ycq z5]
 simp only [Zam]
 rw [Zdt (Zbm z5)]
 simp only [Zar,Zah,Zal,Zaj,Zae]
 have y6:(h5.set h1.length (.cells Zaa [.str i.1.1,.str i.1.2,.slice a' n c' e'] false))[h0.length]?=some (.cells Zaa [.str [],.str [],.slice none 0 0 true] false):=by rw [Zbn (by omega)]; exact y5
 rw [Yae y6]
 simp only [Zam]
 rw [Zdt (Zbm y6)]
 simp only [Zar,Zah,Zal,Zaj,Zae]
 exact ⟨_,_,_,rfl,((S4.cat s5).set' (by omega)).set' (by omega),f5.keep (by omega) fun j hj _=>by rw [Zbn (by omega),Zbn (by omega)],hnn⟩
end Go.Sim

set_option linter.unusedVariables false
set_option linter.unusedSimpArgs false
set_option maxRecDepth 20000
namespace Go.Sim
open Go Go.RowKit

theorem Yev {α:Type} {enc:α→List Zai} {w:Nat} (hw:∀ x,(enc x).length=w) {ys:List α} {y:α} {k n:Nat} {z:List Zai} (hk:ys.length=k) (hn:k < n) (hz:z.length=w) :
  Zbj (Zdf enc ys ++ reps (n - k) z) (k * w) (enc y)=Zdf enc (ys ++ [y]) ++ reps (n - (k + 1)) z:=by
 have h1:(Zdf enc ys).length=k * w:=by rw [Zbl hw,hk]
 have h2:reps (n - k) z=z ++ reps (n - (k + 1)) z:=by
  rw [show n - k=(n - (k + 1)) + 1 by omega]; simp [reps,List.replicate_succ]
 unfold Zbj
 rw [List.take_append_of_le_length (by omega),List.take_of_length_le (by omega),Zll,Zfv,Ydu,List.append_nil,hw,h2,List.append_assoc,List.append_assoc]
 congr 2
 rw [← h1,← hz,List.drop_append,List.drop_of_length_le (by omega)]
 simp
theorem Yeo {α:Type} {enc:α→List Zai} {w:Nat} (hw:∀ x,(enc x).length=w) {ys:List α} {k n:Nat} {z:List Zai} (hk:ys.length=k) (hn:k≤n) (hz:z.length=w):(Zdf enc ys ++ reps (n - k) z).length=n * w:=by
 have h1:(reps (n - k) z).length=(n - k) * w:=by unfold reps; rw [List.length_flatten]; simp [hz]
 rw [List.length_append,Zbl hw,h1,hk,← Nat.add_mul]; congr 1; omega
theorem Zrn {h:Zab} {a0 a:Pt} {n0 c0 n cp:Nat} {e:Bool} {w:Wd} (r:Zip h a0 n0 c0 a n cp w) (b:WB w) :
  Zag pg Zhs [.slice a n cp e] h fun v h'=>∃ a' c' e' ys,v=.slice a' n c' e'∧n≤c'∧Zbb h.length h h'∧Zcd Zaa eN h.length h' a' n ys∧ys.length=w.is.length ∧
   (∀ (k:Nat) (x:EI) (i:Ins),ys[k]?=some x→w.is[k]?=some i→x.c=i.1.1∧x.t=i.1.2∧Zcd Zap eP h.length h' x.a x.n i.2) ∧
   (∀ (j k:Nat) (x y:EI),j≠k→ys[j]?=some x→ys[k]?=some y→x.n≠0→y.n≠0→x.a≠y.a)∧∀ x∈ys,x.a≠none:=by
 have hl:=r.len1
 have hli:=b.li
 apply Zel.call
 simp only [Zbh,Int.toNat_natCast]
 refine ⟨by trivial,by trivial,⟨by omega,by omega,by omega⟩,?_⟩
 refine Zel.L3ind _ _ _ _ _ _ _ _ _ (J:=fun (g:Nat) x4 h'=>x4=(g:Int)∧g≤n∧Zbb h.length h h'∧∃ ys:List EI,ys.length=g∧h'[h.length]?=some (.cells Zaa (Zdf eN ys ++ reps (n - g) [.str [],.str [],.slice none 0 0 true]) false) ∧
   (∀ (k:Nat) (x:EI) (i:Ins),ys[k]?=some x→w.is[k]?=some i→x.c=i.1.1∧x.t=i.1.2∧Zcd Zap eP (h.length + 1) h' x.a x.n i.2) ∧
   (∀ (j k:Nat) (x y:EI),j≠k→ys[j]?=some x→ys[k]?=some y→x.n≠0→y.n≠0→x.a≠y.a)∧∀ x∈ys,x.a≠none) (fun g=>n - g) ?_ 0 _ _
  ⟨rfl,by omega,Zbb.app (Nat.le_refl _) _,[],rfl,by simp,by simp,by simp,by simp⟩
 rintro g x4 h' ⟨rfl,hg,hs,ys,hy,ho,hrep,hsep,hnn⟩ R hR
 unfold Zel.L3t
 refine Zaq (fun hlt=>?_) (fun hge=>?_)
 ·have hlt':g < n:=by omega
  obtain ⟨i,o,hgl,a2,n2,c2,e2,rfl,_,hr,_,_,_,hrow,hn⟩:=(r.same hs).inst (k:=g) (by omega)
  simp only [Zbd,Int.toNat_natCast,hr,Zar,Zah,Zal,Zaj,Zae]
  have hb:=b.is _ (List.getElem_mem hgl)
  refine ⟨by omega,(Zee (i:=w.is[g]) hrow (by omega)).mono ?_⟩
  rintro v h1 ⟨a',c',e',rfl,s1,f1,hnn1⟩
  simp only [Zcj,Zah,Zal,Zaj,Zae]
  have hol:=Own.lt ho
  have ho1:=s1.get ho hol
  have hlen:=Yeo (enc:=eN) Zgu (ys:=ys) (k:=g) (n:=n) (z:=[.str [],.str [],.slice none 0 0 true]) hy hg rfl
  rw [Zay ho1 (by rw [hlen]; simp; omega)]
  simp only [Zam]
  have hput:=Yev (enc:=eN) Zgu (ys:=ys) (y:=⟨w.is[g].1.1,w.is[g].1.2,a',n2,c',e'⟩) (k:=g) (n:=n) (z:=[.str [],.str [],.slice none 0 0 true]) hy hlt' rfl
  rw [Nat.zero_add,show ([.str w.is[g].1.1,.str w.is[g].1.2,.slice a' n2 c' e']:List Zai)=eN ⟨w.is[g].1.1,w.is[g].1.2,a',n2,c',e'⟩ from rfl,hput,Zcp (by omega)]
  refine ⟨by omega,hR (g + 1) _ _ (by omega) ⟨rfl,by omega,(hs.cat s1).set' (Nat.le_refl _),ys ++ [⟨w.is[g].1.1,w.is[g].1.2,a',n2,c',e'⟩],by simp [hy],Zbm ho1,?_,?_,fun x hx=>by
   rcases List.mem_append.1 hx with hx | hx
   ·exact hnn x hx
   ·rw [List.mem_singleton] at hx; subst hx; exact hnn1⟩⟩
  ·intro k x j hx hj
   by_cases hk:k < g
   ·rw [List.getElem?_append_left (by omega)] at hx
    obtain ⟨p1,p2,p3⟩:=hrep k x j hx hj
    refine ⟨p1,p2,p3.keep (Nat.le_refl _) fun q hq hq2=>?_⟩
    rw [Zbn (by omega)]; exact s1.eq q hq2
   ·have hkl:=(List.getElem?_eq_some_iff.1 hx).1
    simp [hy] at hkl
    have:k=g:=by omega
    subst this
    rw [List.getElem?_append_right (by omega),hy,Nat.sub_self] at hx
    simp at hx
    subst hx
    rw [List.getElem?_eq_getElem hgl] at hj
    cases hj
    exact ⟨rfl,rfl,f1.keep (by omega) fun q hq hq2=>by rw [Zbn (by omega)]⟩
  ·have old:∀ (j:Nat) (x:EI),ys[j]?=some x→x.n≠0→x.a≠a' ∨ n2=0:=by
    intro j x hx hn
    have hjl:=(List.getElem?_eq_some_iff.1 hx).1
    obtain ⟨_,_,_,p3⟩:=hrep j x (w.is[j]'(by omega)) hx (List.getElem?_eq_getElem (by omega))
    rcases p3 with h0 | ⟨q,hq,_,hq2⟩
    ·exact absurd h0 hn
    ·have:=Own.lt hq2
     rcases f1.2 with h0 | ⟨q',hq',hb',_⟩
     ·exact .inr h0
     ·refine .inl ?_
      rw [hq,hq']; intro e; cases e; omega
   intro j k x y hjk hx hy' hxn hyn
   by_cases hj:j < g <;> by_cases hk:k < g
   ·rw [List.getElem?_append_left (by omega)] at hx hy'
    exact hsep j k x y hjk hx hy' hxn hyn
   ·have hkl:=(List.getElem?_eq_some_iff.1 hy').1
    simp [hy] at hkl
    have:k=g:=by omega
    subst this
    rw [List.getElem?_append_right (by omega),hy,Nat.sub_self] at hy'
    simp at hy'
    subst hy'
    rw [List.getElem?_append_left (by omega)] at hx
    rcases old j x hx hxn with h1 | h1
    ·exact h1
    ·exact absurd h1 hyn
   ·have hkl:=(List.getElem?_eq_some_iff.1 hx).1
    simp [hy] at hkl
    have:j=g:=by omega
    subst this
    rw [List.getElem?_append_right (by omega),hy,Nat.sub_self] at hx
    simp at hx
    subst hx
    rw [List.getElem?_append_left (by omega)] at hy'
    rcases old k y hy' hyn with h1 | h1
    ·exact fun e=>h1 e.symm
    ·exact absurd h1 hxn
   ·have h1:=(List.getElem?_eq_some_iff.1 hx).1
    have h2:=(List.getElem?_eq_some_iff.1 hy').1
    simp [hy] at h1 h2
    omega
 ·have:g=n:=by omega
  subst this
  apply Zel.A3x0i
  simp [reps] at ho
  refine ⟨_,_,_,ys,rfl,Nat.le_refl _,hs,⟨hy,.inr ⟨h.length,rfl,Nat.le_refl _,ho⟩⟩,by omega,fun k x i hx hi=>?_,hsep,hnn⟩
  obtain ⟨p1,p2,p3⟩:=hrep k x i hx hi
  exact ⟨p1,p2,p3.keep (by omega) fun _ _ _=>rfl⟩
theorem Zvb {h:Zab} {i:Nat} {t:TypeId} {x y v:Zai} (hi:h[i]?=some (.cells t [x,y] false)):Zaw h (.ptr (some (i,0))) [v]=some (h.set i (.cells t [v,y] false)):=by
 rw [Zay hi (by simp)]; rfl
theorem Ztp {h:Zab} {i:Nat} {t:TypeId} {x y v:Zai} (hi:h[i]?=some (.cells t [x,y] false)):Zaw h (.ptr (some (i,1))) [v]=some (h.set i (.cells t [x,v] false)):=by
 rw [Zay hi (by simp)]; rfl
theorem Zzc {h:Zab} {i:Nat} {t:TypeId} {x y a b:Zai} (hi:h[i]?=some (.cells t [x,y] false)):Zaw h (.ptr (some (i,0))) [a,b]=some (h.set i (.cells t [a,b] false)):=by
 rw [Zay hi (by simp)]; rfl
theorem Zck {h:Zab} {i:Nat} {t:TypeId} {x y:Zai} {ro:Bool} (hi:h[i]?=some (.cells t [x,y] ro)):Zax h (.ptr (some (i,0))) 2=some [x,y]:=by
 rw [Zhu hi (by simp)]; rfl
theorem Zjh {h:Zab} {a0 a1:Pt} {n0 c0 n1 c1:Nat} {e0 e1:Bool} {w:Wd} (r:Zip h a0 n0 c0 a1 n1 c1 w) (b:WB w) :
  Zag pg Zde [.agg [.slice a0 n0 c0 e0,.slice a1 n1 c1 e1]] h fun v h'=>∃ b0 d0 f0 b1 d1 f1 ys,v=.agg [.slice b0 n0 d0 f0,.slice b1 n1 d1 f1]∧n0≤d0∧n1≤d1∧Zbb h.length h h'∧Zfw h.length h' b0 n0 b1 n1 ys w:=by
 have hl0:=r.len0
 have hlc:=b.lc
 apply Znj.call
 simp only [Zbh]
 generalize hh0:h ++ [Zbv.cells Zcz [.slice a0 n0 c0 e0,.slice a1 n1 c1 e1] false]=h0
 generalize hh1:h0 ++ [Zbv.cells Zac [.slice none 0 0 true,.slice none 0 0 true] false]=h1
 generalize hh2:h1 ++ [Zbv.cells Zac [.slice none 0 0 true,.slice none 0 0 true] false]=h2
 have s0:Zbb h.length h h0:=by rw [← hh0]; exact Zan
 have s1:Zbb h0.length h0 h1:=by rw [← hh1]; exact Zan
 have s2:Zbb h1.length h1 h2:=by rw [← hh2]; exact Zan
 have l0:h0.length=h.length + 1:=by rw [← hh0]; simp
 have l1:h1.length=h.length + 2:=by rw [← hh1]; simp [l0]
 have l2:h2.length=h.length + 3:=by rw [← hh2]; simp [l1]
 have x0:h0[h.length]?=some (.cells Zcz [.slice a0 n0 c0 e0,.slice a1 n1 c1 e1] false):=by rw [← hh0]; simp
 have y1:h1[h0.length]?=some (.cells Zac [.slice none 0 0 true,.slice none 0 0 true] false):=by rw [← hh1]; simp
 have z2:h2[h1.length]?=some (.cells Zac [.slice none 0 0 true,.slice none 0 0 true] false):=by rw [← hh2]; simp
 have x2:=s2.get (s1.get x0 (by omega)) (by omega)
 have y2:=s2.get y1 (by omega)
 have S2:=(s0.cat s1).cat s2
 simp only [Nat.add_zero,Nat.zero_add,Zba x2,List.getElem?_cons_zero,Zae]
 refine (Zuf (r.cls.same' S2) (by omega)).mono ?_
 rintro v h3 ⟨b0,d0,f0,rfl,s3,g3,hd0,hb0⟩
 simp only [Zae]
 have z3:=s3.get z2 (by omega)
 have x3:=s3.get x2 (by omega)
 have y3:=s3.get y2 (by omega)
 have l3:=s3.le
 rw [Zvb z3]
 simp only [Zam]
 have x4:(h3.set h1.length (.cells Zac [.slice b0 n0 d0 f0,.slice none 0 0 true] false))[h.length]?=some (.cells Zcz [.slice a0 n0 c0 e0,.slice a1 n1 c1 e1] false):=by rw [Zbn (by omega)]; exact x3
 have y4:(h3.set h1.length (.cells Zac [.slice b0 n0 d0 f0,.slice none 0 0 true] false))[h0.length]?=some (.cells Zac [.slice none 0 0 true,.slice none 0 0 true] false):=by rw [Zbn (by omega)]; exact y3
 have z4:(h3.set h1.length (.cells Zac [.slice b0 n0 d0 f0,.slice none 0 0 true] false))[h1.length]?=some (.cells Zac [.slice b0 n0 d0 f0,.slice none 0 0 true] false):=Zbm z3
 have S4:Zbb h.length h (h3.set h1.length (.cells Zac [.slice b0 n0 d0 f0,.slice none 0 0 true] false)):=(S2.cat s3).set' (by omega)
 have g4:Zcd Zat eP (h.length + 3) (h3.set h1.length (.cells Zac [.slice b0 n0 d0 f0,.slice none 0 0 true] false)) b0 n0 w.cs:=g3.keep (by omega) fun j hj _=>by rw [Zbn (by omega)]
 generalize hh4:h3.set h1.length (.cells Zac [.slice b0 n0 d0 f0,.slice none 0 0 true] false)=h4 at *
 have l4:h4.length=h3.length:=by rw [← hh4]; simp
 simp only [Zba x4,List.getElem?_cons_succ,List.getElem?_cons_zero,Zae]
 refine (Zrn (r.same S4) b).mono ?_
 rintro v h5 ⟨b1,d1,f1,ys,rfl,hd1,s5,g5,hyl,hrep,hsep,hnn⟩
 simp only [Zae]
 have l5:=s5.le
 have y5:=s5.get y4 (by omega)
 have z5:=s5.get z4 (by omega)
 rw [Ztp z5]
 simp only [Zam]
 rw [Zck (Zbm z5)]
 simp only [Zar,Zah,Zal,Zae]
 have y6:(h5.set h1.length (.cells Zac [.slice b0 n0 d0 f0,.slice b1 n1 d1 f1] false))[h0.length]?=some (.cells Zac [.slice none 0 0 true,.slice none 0 0 true] false):=by rw [Zbn (by omega)]; exact y5
 rw [Zzc y6]
 simp only [Zam]
 rw [Zck (Zbm y6)]
 simp only [Zar,Zah,Zal,Zae]
 refine ⟨_,_,_,_,_,_,ys,rfl,hd0,hd1,((S4.cat s5).set' (by omega)).set' (by omega),?_⟩
 have kp:∀ j,h.length + 3≤j→j < h5.length→((h5.set h1.length (.cells Zac [.slice b0 n0 d0 f0,.slice b1 n1 d1 f1] false)).set h0.length (.cells Zac [.slice b0 n0 d0 f0,.slice b1 n1 d1 f1] false))[j]?=h5[j]?:=fun j hj _=>by rw [Zbn (by omega),Zbn (by omega)]
 exact ⟨(g4.same s5).keep (by omega) fun j hj hj2=>kp j hj hj2,g5.keep (by omega) fun j hj hj2=>kp j (by omega) hj2,hyl,fun k x i hx hi=>by
  obtain ⟨p1,p2,p3⟩:=hrep k x i hx hi
  exact ⟨p1,p2,p3.keep (by omega) fun j hj hj2=>kp j (by omega) hj2⟩,hsep,hnn,hb0⟩

theorem Zol {h:Zab} {a a':Pt} {n n' c c':Nat} {e e':Bool} {i:Ins} (r:Row h.length h a (n * 2) (Zdf eP i.2)) (r':Row h.length h a' (n' * 2) (Zdf eP i.2)) (hn:n≤1048576) :
  Zag pg Zgd [.agg [.str i.1.1,.str i.1.2,.slice a n c e],.agg [.str i.1.1,.str i.1.2,.slice a' n' c' e']] h fun v h'=>v=.bool true∧Zbb h.length h h':=by
 apply Zky.call
 simp only [Zbh]
 generalize hh0:h ++ [Zbv.cells Zaa [.str i.1.1,.str i.1.2,.slice a n c e] false]=h0
 generalize hh1:h0 ++ [Zbv.cells Zaa [.str i.1.1,.str i.1.2,.slice a' n' c' e'] false]=h1
 have s0:Zbb h.length h h0:=by rw [← hh0]; exact Zan
 have s1:Zbb h0.length h0 h1:=by rw [← hh1]; exact Zan
 have x0:h0[h.length]?=some (.cells Zaa [.str i.1.1,.str i.1.2,.slice a n c e] false):=by rw [← hh0]; simp
 have y1:h1[h0.length]?=some (.cells Zaa [.str i.1.1,.str i.1.2,.slice a' n' c' e'] false):=by rw [← hh1]; simp
 have x1:=s1.get x0 (Own.lt x0)
 simp only [Nat.add_zero,Nat.zero_add]
 rw [Ydd x1,Ydd y1]
 simp only [Zar,Zah,Zal,Zaj]
 refine Zvv.mono ?_
 rintro v h2 ⟨rfl,s2⟩
 simp only [Zau,decide_true,Bool.and_self,Bool.not_true,Zbr]
 simp only [Zba (s2.get x1 (Own.lt x1)),Zba (s2.get y1 (Own.lt y1)),List.getElem?_cons_succ,List.getElem?_cons_zero,Zae]
 have S2:=(s0.cat s1).cat s2
 refine (Zzq (r.same' S2) (r'.same' S2) (by omega) rfl).mono ?_
 rintro v h3 ⟨rfl,s3⟩
 simp only [Zau,Bool.not_true,Zbr]
 exact ⟨by trivial,S2.cat s3⟩
theorem Zrw {h:Zab} {a a' x x':Pt} {n n' c c' m m' d d':Nat} {e e':Bool} {w:Wd} (r:Zip h x m d a n c w) (r':Zip h x' m' d' a' n' c' w) (b:WB w) :
  Zag pg Zhy [.slice a n c e,.slice a' n' c' e'] h fun v h'=>v=.bool true∧Zbb h.length h h':=by
 have hl:=r.len1
 have hl':=r'.len1
 have hli:=b.li
 have:n'=n:=by omega
 subst this
 apply Zen.call
 simp only [beq_self_eq_true,Bool.not_true,Zbr]
 refine Zen.L4ind _ _ _ _ _ _ _ _ _ (J:=fun (k:Nat) x5 h'=>Zbb h.length h h'∧x5=(k:Int)∧k≤n') (fun k=>n' - k) ?_ 0 0 h ⟨Zbb.refl _ _,rfl,by omega⟩
 rintro k x5 h' ⟨hs,rfl,hk⟩ R hR
 unfold Zen.L4t
 refine Zaq (fun hlt=>?_) (fun hge=>Zen.A4x0i _ _ ⟨rfl,hs⟩)
 obtain ⟨i,o,hgl,a2,n2,c2,e2,rfl,_,hr,_,_,_,hrow,hn⟩:=(r.same hs).inst (k:=k) (by omega)
 obtain ⟨i',o',hgl',a2',n2',c2',e2',rfl,_,hr',_,_,_,hrow',hn'⟩:=(r'.same hs).inst (k:=k) (by omega)
 have hb:=b.is _ (List.getElem_mem hgl)
 simp only [Zbd,Int.toNat_natCast,hr,hr',Zar,Zah,Zal,Zaj,Zae,true_and]
 refine ⟨⟨by omega,by omega⟩,⟨by omega,by omega⟩,(Zol (i:=w.is[k]) hrow hrow' (by omega)).mono ?_⟩
 rintro v h1 ⟨rfl,s1⟩
 simp only [Zau,Bool.not_true,Zbr]
 rw [Zcp (by omega)]
 exact hR (k + 1) _ _ (by omega) ⟨hs.cat s1,rfl,by omega⟩
theorem Zmy {h:Zab} {a0 a1 b0 b1:Pt} {n0 c0 n1 c1 m0 d0 m1 d1:Nat} {e0 e1 f0 f1:Bool} {w:Wd} (r:Zip h a0 n0 c0 a1 n1 c1 w) (r':Zip h b0 m0 d0 b1 m1 d1 w) (b:WB w) :
  Zag pg Zcv [.agg [.slice a0 n0 c0 e0,.slice a1 n1 c1 e1],.agg [.slice b0 m0 d0 f0,.slice b1 m1 d1 f1]] h fun v h'=>v=.bool true∧Zbb h.length h h':=by
 have hl:=r.len0
 have hlc:=b.lc
 apply Zni.call
 simp only [Zbh]
 generalize hh0:h ++ [Zbv.cells Zac [.slice a0 n0 c0 e0,.slice a1 n1 c1 e1] false]=h0
 generalize hh1:h0 ++ [Zbv.cells Zac [.slice b0 m0 d0 f0,.slice b1 m1 d1 f1] false]=h1
 have s0:Zbb h.length h h0:=by rw [← hh0]; exact Zan
 have s1:Zbb h0.length h0 h1:=by rw [← hh1]; exact Zan
 have x0:h0[h.length]?=some (.cells Zac [.slice a0 n0 c0 e0,.slice a1 n1 c1 e1] false):=by rw [← hh0]; simp
 have y1:h1[h0.length]?=some (.cells Zac [.slice b0 m0 d0 f0,.slice b1 m1 d1 f1] false):=by rw [← hh1]; simp
 have x1:=s1.get x0 (Own.lt x0)
 simp only [Nat.add_zero,Nat.zero_add,Zba x1,Zba y1,List.getElem?_cons_zero,Zae]
 have S1:=s0.cat s1
 refine (Zuv (r.cls.same' S1) (r'.cls.same' S1) (by omega) rfl).mono ?_
 rintro v h2 ⟨rfl,s2⟩
 simp only [Zau,Bool.not_true,Zbr,Zba (s2.get x1 (Own.lt x1)),Zba (s2.get y1 (Own.lt y1)),List.getElem?_cons_succ,List.getElem?_cons_zero,Zae]
 refine (Zrw (r.same (S1.cat s2)) (r'.same (S1.cat s2)) b).mono ?_
 rintro v h3 ⟨rfl,s3⟩
 simp only [Zau,Bool.not_true,Zbr]
 exact ⟨by trivial,(S1.cat s2).cat s3⟩
end Go.Sim

set_option linter.unusedVariables false
set_option linter.unusedSimpArgs false
set_option maxRecDepth 20000
namespace Go.Sim
open Go Go.RowKit

theorem Zju.same {S:Nat→Prop} {h h':Zab} (s:Zbb h.length h h'):∀ {t:Ty} {v:List Zai},Zju S h t v→Zju S h' t v
 | .k d,_,h=>h
 | .u d x,_,⟨j,c,e,r,hv,sj,hj,hr⟩=>⟨j,c,e,r,hv,sj,s.get hj (Own.lt hj),hr.same s⟩
 | .w d x y,_,⟨j,c,e,r,r',hv,sj,hj,hr,hr'⟩=>⟨j,c,e,r,r',hv,sj,s.get hj (Own.lt hj),hr.same s,hr'.same s⟩
end Go.Sim

set_option linter.unusedVariables false
set_option linter.unusedSimpArgs false
set_option maxRecDepth 20000
namespace Go.Sim
open Go Go.RowKit

theorem Zof.keep {S:Nat→Prop} {h h':Zab} (hh:∀ j,S j→j < h.length→h'[j]?=h[j]?):∀ {t:Ty} {p:Pt},Zof S h t p→Zof S h' t p
 | .k d,p,⟨i,a,c,e,hp,si,hi⟩=>⟨i,a,c,e,hp,si,by rw [hh i si (Own.lt hi)]; exact hi⟩
 | .u d x,p,⟨i,j,c,e,q,hp,si,hi,sj,hj,hq⟩=>⟨i,j,c,e,q,hp,si,by rw [hh i si (Own.lt hi)]; exact hi,sj,by rw [hh j sj (Own.lt hj)]; exact hj,hq.keep hh⟩
 | .w d x y,p,⟨i,j,c,e,q,r,hp,si,hi,sj,hj,hq,hr⟩=>⟨i,j,c,e,q,r,hp,si,by rw [hh i si (Own.lt hi)]; exact hi,sj,by rw [hh j sj (Own.lt hj)]; exact hj,hq.keep hh,hr.keep hh⟩
theorem Zof.same {S:Nat→Prop} {h h':Zab} {t:Ty} {p:Pt} (r:Zof S h t p) (s:Zbb h.length h h'):Zof S h' t p:=r.keep fun j _ hj=>s.eq j hj
theorem Zju.keep {S:Nat→Prop} {h h':Zab} (hh:∀ j,S j→j < h.length→h'[j]?=h[j]?):∀ {t:Ty} {v:List Zai},Zju S h t v→Zju S h' t v
 | .k d,_,h=>h
 | .u d x,_,⟨j,c,e,r,hv,sj,hj,hr⟩=>⟨j,c,e,r,hv,sj,by rw [hh j sj (Own.lt hj)]; exact hj,hr.keep hh⟩
 | .w d x y,_,⟨j,c,e,r,r',hv,sj,hj,hr,hr'⟩=>⟨j,c,e,r,r',hv,sj,by rw [hh j sj (Own.lt hj)]; exact hj,hr.keep hh,hr'.keep hh⟩
theorem Zju.get {S:Nat→Prop} {h:Zab} {t:Ty} {a:Pt} {vs:List (List Zai)} (hrow:Row h.length h a (t.ps.length * 2) vs.flatten) (hvl:vs.length=t.ps.length) (hp:∀ (k:Nat) (w:List Zai) (x:Ty),vs[k]?=some w→t.ps[k]?=some x→Zju S h x w) {g:Nat} (hg':g < t.ps.length) :
  ∃ i o a2 c2 e2,a=some (i,o)∧Zax h (.ptr (some (i,o + g * 2))) 2=some [.int .u8 (t.ps[g].hd:Int),.slice a2 t.ps[g].ps.length c2 e2]∧Zju S h t.ps[g] [.int .u8 (t.ps[g].hd:Int),.slice a2 t.ps[g].ps.length c2 e2]:=by
 have hgv:g < vs.length:=by omega
 have hk:=hp g vs[g] t.ps[g] (List.getElem?_eq_getElem hgv) (List.getElem?_eq_getElem hg')
 have hz:∀ v∈vs,v.length=2:=fun v hv=>by
  obtain ⟨k,hk,rfl⟩:=List.mem_iff_getElem.1 hv
  exact (hp k vs[k] (t.ps[k]'(by omega)) (List.getElem?_eq_getElem hk) (List.getElem?_eq_getElem (by omega))).len
 have hfl:vs.flatten=Zdf (fun (v:{v:List Zai // v.length=2})=>v.1) (vs.attach.map fun v=>⟨v.1,hz v.1 v.2⟩):=by
  unfold Zdf; rw [List.flatMap_map]; simp
 rw [hfl] at hrow
 obtain ⟨i,o,hk',ha,_,hr,_⟩:=Row.el (enc:=fun (v:{v:List Zai // v.length=2})=>v.1) (fun x=>x.2) hrow (by simp [hvl]) (k:=g) hg' (by omega)
 obtain ⟨a2,c2,e2,hv2⟩:=hk.shape
 rw [hv2] at hk
 exact ⟨i,o,a2,c2,e2,ha,by rw [hr]; simp [hv2],hk⟩
end Go.Sim

set_option linter.unusedVariables false
namespace Go.Sim
open Go Go.RowKit Go.Maps Go.Sort Go.Shelf Go.Proofs
end Go.Sim

set_option linter.unusedSimpArgs false
set_option linter.unusedVariables false
namespace Go.Sim

abbrev Bd:=List (Nat × Ty)
def Yaz:Bd→Nat→Option Ty
 | [],_=>none
 | (v,t) :: m,x=>if v=x then some t else Yaz m x
def Yhk (m:Bd) (v:Nat) (t:Ty):Option Bd:=match Yaz m v with | some t'=>if t'=t then some m else none | none=>some (m ++ [(v,t)])
def matchT:Bd→Ty→Ty→Option Bd
 | m,.k c,t=>if Zhj c then Yhk m c t else if c=t.hd then some m else none
 | m,.u c a,t=>if c=t.hd then (match t.ps with | [x]=>matchT m a x | _=>none) else none
 | m,.w c a b,t=>if c=t.hd then (match t.ps with | [x,y]=>(match matchT m a x with | some m1=>matchT m1 b y | none=>none) | _=>none) else none
structure BOk (n:Nat) (m:Bd):Prop where
 var:∀ p∈m,Zhj p.1=true∧p.2.ok=true∧p.2.txt.length≤n
 nd:(m.map (·.1)).Nodup
theorem Zuj:∀ {m:Bd} {v:Nat},Yaz m v=none ↔ v ∉ m.map (·.1)
 | [],v=>by simp [Yaz]
 | (w,u) :: m,v=>by
  simp only [Yaz]
  by_cases e:w=v
  ·simp [e]
  ·simp only [e,if_false,Zuj (m:=m),List.map_cons,List.mem_cons,not_or]
   exact ⟨fun h=>⟨fun e'=>e e'.symm,h⟩,fun h=>h.2⟩
theorem BOk.nil {n:Nat}:BOk n []:=⟨by simp,by simp⟩
theorem BOk.note {n:Nat} {m m':Bd} {v:Nat} {t:Ty} (b:BOk n m) (hv:Zhj v=true) (ht:t.ok=true) (hn:t.txt.length≤n) (h:Yhk m v t=some m'):BOk n m':=by
 unfold Yhk at h
 split at h
 ·split at h
  ·cases h; exact b
  ·cases h
 ·rename_i hg
  cases h
  refine ⟨?_,?_⟩
  ·intro p hp
   rcases List.mem_append.1 hp with hp | hp
   ·exact b.var p hp
   ·simp at hp; subst hp; exact ⟨hv,ht,hn⟩
  ·rw [List.map_append,List.nodup_append]
   refine ⟨b.nd,by simp,?_⟩
   intro x hx y hy e
   simp at hy; subst hy; subst e
   exact Zuj.1 hg hx
theorem Zte {t x:Ty} (h:x∈t.ps):x.txt.length≤t.txt.length:=by
 cases t with
 | k c=>simp [Ty.ps] at h
 | u c a=>simp [Ty.ps] at h; subst h; simp [Ty.txt]; omega
 | w c a b=>simp [Ty.ps] at h; rcases h with rfl | rfl <;> simp [Ty.txt] <;> omega
theorem BOk.matchT {n:Nat}:∀ {a t:Ty} {m m':Bd},a.ok=true→t.ok=true→t.txt.length≤n→BOk n m→Go.Sim.matchT m a t=some m'→BOk n m'
 | .k c,t,m,m',ha,ht,hn,b,h=>by
  simp only [Go.Sim.matchT] at h
  split at h
  ·rename_i hv; exact b.note hv ht hn h
  ·split at h
   ·cases h; exact b
   ·cases h
 | .u c a,t,m,m',ha,ht,hn,b,h=>by
  simp only [Ty.ok,Bool.and_eq_true] at ha
  simp only [Go.Sim.matchT] at h
  split at h
  ·split at h
   ·rename_i x hx
    have hm:x∈t.ps:=by rw [hx]; simp
    exact BOk.matchT ha.2 (Ty.ok_ps ht x hm) (Nat.le_trans (Zte hm) hn) b h
   ·cases h
  ·cases h
 | .w c a a2,t,m,m',ha,ht,hn,b,h=>by
  simp only [Ty.ok,Bool.and_eq_true] at ha
  simp only [Go.Sim.matchT] at h
  split at h
  ·split at h
   ·rename_i x y hx
    have hm:x∈t.ps:=by rw [hx]; simp
    have hm2:y∈t.ps:=by rw [hx]; simp
    split at h
    ·rename_i m1 h1
     exact BOk.matchT ha.2 (Ty.ok_ps ht y hm2) (Nat.le_trans (Zte hm2) hn) (BOk.matchT ha.1.2 (Ty.ok_ps ht x hm) (Nat.le_trans (Zte hm) hn) b h1) h
    ·cases h
   ·cases h
  ·cases h
def bdL (m:Bd):List Nd:=Zng.filterMap fun v=>(Yaz m v).map fun t=>([v],t.txt)
noncomputable def Ygc (p s:List Nat):Option Bd:=match Zmd p,Zmd s with | some a,some b=>matchT [] a b | _,_=>none
noncomputable def Yji (p s:List Nat):Bool:=(Ygc p s).isSome
end Go.Sim

set_option linter.unusedVariables false
set_option linter.unusedSimpArgs false
set_option maxRecDepth 20000
namespace Go.Sim
open Go Go.RowKit

def Yit (h:Zab) (i:Nat) (m:Bd):Prop:=∃ es clk,h[i]?=some (.map es clk)∧es.map (·.1)=m.map (fun p=>Zai.str [p.1])∧es.map (·.2.1)=m.map (fun p=>Zai.str p.2.txt)∧(es.map (·.2.2)).Nodup∧∀ e∈es,e.2.2 < clk
theorem Yit.eq {h h':Zab} {i:Nat} {m:Bd} (r:Yit h i m) (he:h'[i]?=h[i]?):Yit h' i m:=by
 obtain ⟨es,clk,h1,x⟩:=r
 exact ⟨es,clk,by rw [he]; exact h1,x⟩
theorem Yit.lt {h:Zab} {i:Nat} {m:Bd} (r:Yit h i m):i < h.length:=by obtain ⟨es,clk,h1,_⟩:=r; exact Own.lt h1
end Go.Sim

set_option linter.unusedVariables false
set_option linter.unusedSimpArgs false
set_option maxRecDepth 20000
namespace Go.Sim
open Go Go.RowKit

theorem Vec.fresh {α:Type} {ty:TypeId} {enc:α→List Zai} {b:Nat} {h:Zab} {a:Pt} {n c:Nat} {l:List α} (v:Vec ty h a n c (Zdf enc l)) (hn:n=l.length) (ha:∀ i,a=some (i,0)→b≤i):Zcd ty enc b h a n l:=by
 refine ⟨hn.symm,?_⟩
 rcases v with ⟨rfl,h0,_⟩ | ⟨i,rfl,hi⟩
 ·exact .inl h0
 ·exact .inr ⟨i,rfl,ha i rfl,hi⟩
end Go.Sim

set_option linter.unusedSimpArgs false
set_option linter.unusedVariables false
namespace Go.Sim

noncomputable def Yhz (l:List Nd) (i:Nat):Bool:=Zoq (l.getD i ([],[])).1 && Zpz (l.getD i ([],[])).2 && (i == 0 || Zeg (l.getD (i - 1) ([],[])).1 (l.getD i ([],[])).1)
noncomputable def Yin (l:List Nd):Bool:=(List.range l.length).all (Yhz l)
def Yjv (l:List Nd) (c:Nat):List Nat:=match l.find? fun p=>decide (p.1=[c]) with | some p=>p.2 | none=>[c]
def Yda (l:List Nd) (t:List Nat):List Nat:=t.flatMap (Yjv l)
noncomputable def subst (f:Nat→Option Ty):Ty→Ty
 | .k c=>(f c).getD (.k c)
 | .u c a=>.u c (subst f a)
 | .w c a b=>.w c (subst f a) (subst f b)
noncomputable def Yii (l:List Nd) (t:List Nat):Option (List Nat):=if Yin l && Zpz t && decide ((Yda l t).length≤60) then some (Yda l t) else none
noncomputable def Yhq (i:Ins) (t:List Nat):Option (List Nd):=
 match Ygc i.1.2 t with
 | none=>none
 | some m=>if i.2.all fun n=>(Yii (bdL m) n.2).isSome then some (i.2.map fun n=>(n.1,Yda (bdL m) n.2)) else none
end Go.Sim

set_option linter.unusedVariables false
set_option linter.unusedSimpArgs false
set_option maxRecDepth 20000
namespace Go.Sim
open Go Go.RowKit

end Go.Sim

set_option linter.unusedVariables false
set_option linter.unusedSimpArgs false
set_option maxRecDepth 20000
namespace Go.Sim
open Go Go.RowKit

theorem Zls.of_same {i:Nat} {h h':Zab} (s:Zbb h.length h h'):Zls i h h':=⟨s.le,fun j hj _=>s.eq j hj⟩
end Go.Sim

set_option linter.unusedVariables false
set_option linter.unusedSimpArgs false
set_option maxRecDepth 20000
namespace Go.Sim
open Go Go.RowKit

end Go.Sim

set_option linter.unusedVariables false
set_option linter.unusedSimpArgs false
set_option maxRecDepth 20000
namespace Go.Sim
open Go Go.RowKit

theorem Zju.below {S:Nat→Prop} {h:Zab}:∀ {t:Ty} {v:List Zai},Zju S h t v→Zju (fun j=>S j∧j < h.length) h t v
 | .k d,_,h=>h
 | .u d x,_,⟨j,c,e,r,hv,sj,hj,hr⟩=>⟨j,c,e,r,hv,⟨sj,Own.lt hj⟩,hj,hr.below⟩
 | .w d x y,_,⟨j,c,e,r,r',hv,sj,hj,hr,hr'⟩=>⟨j,c,e,r,r',hv,⟨sj,Own.lt hj⟩,hj,hr.below,hr'.below⟩
end Go.Sim

set_option linter.unusedVariables false
set_option linter.unusedSimpArgs false
set_option maxRecDepth 20000
namespace Go.Sim
open Go Go.RowKit

def Yeq (p:Nd):Prop:=Zpt p.1.length∧Zpt p.2.length∧(∀ b∈p.1,b < 256)∧∀ b∈p.2,b < 256
theorem Ybo {P:Program} {h:Zab} {f:Nat} {e:TypeId} {f0 f1:Field} {v:List Zai} {d:Dt} (he:P.underlying e=some (.struct #[f0,f1])) (h0:P.underlying f0.type=some .string) (h1:P.underlying f1.type=some .string) (hr:rd P h (f + 2) e v d) :
  ∃ p:Nd,v=eP p∧Yeq p:=by
 unfold rd at hr
 rw [he] at hr
 obtain ⟨ds',vs',rfl,hd1,hd2,rfl,hall'⟩:=hr
 match vs',ds',hd2,hd1 with
 | [u,w],[x,y],_,_=>
  have g0:=(hall' 0 f0 u x rfl rfl rfl).2
  have g1:=(hall' 1 f1 w y rfl rfl rfl).2
  simp only [rd,h0] at g0
  simp only [rd,h1] at g1
  obtain ⟨s,rfl,_,hs1,hs2⟩:=g0
  obtain ⟨t,rfl,_,ht1,ht2⟩:=g1
  exact ⟨(s,t),rfl,hs1,ht1,hs2,ht2⟩
theorem Ybk {P:Program} {h:Zab} {f:Nat} {e:TypeId} {α:Type} {enc:α→List Zai} {G:α→Prop} (el:∀ v d,rd P h f e v d→∃ x:α,v=enc x∧G x) :
  ∀ (vs:List (List Zai)) (ds:List Dt),ds.length=vs.length→(∀ (i:Nat) (v:List Zai) (x:Dt),vs[i]?=some v→ds[i]?=some x→v.length=P.cellsOf e∧rd P h f e v x) →
  ∃ l:List α,l.length=vs.length∧vs.flatten=Zdf enc l∧∀ x∈l,G x
 | [],_,_,_=>⟨[],rfl,rfl,by simp⟩
 | v :: vs,[],h,_=>by simp at h
 | v :: vs,d :: ds,hl,hall=>by
  obtain ⟨l,hll,hfl,hs⟩:=Ybk el vs ds (by simpa using hl) fun i v x hv hx=>hall (i + 1) v x (by simpa using hv) (by simpa using hx)
  obtain ⟨x,rfl,hx⟩:=el v d (hall 0 v d rfl rfl).2
  exact ⟨x :: l,by simp [hll],by simp [hfl],fun y hy=>(List.mem_cons.1 hy).elim (fun e=>e ▸ hx) (hs y)⟩
theorem Ydj {P:Program} {h:Zab} {f:Nat} {t e:TypeId} {α:Type} {enc:α→List Zai} {G:α→Prop} {cs:List Zai} {d:Dt} (ht:P.underlying t=some (.slice e)) (el:∀ v d,rd P h f e v d→∃ x:α,v=enc x∧G x) (hr:rd P h (f + 1) t cs d) :
  ∃ a n c ex,∃ l:List α,cs=[.slice a n c ex]∧Row h.length h a (n * P.cellsOf e) (Zdf enc l)∧Zpt n∧l.length=n∧∀ x∈l,G x:=by
 unfold rd at hr
 rw [ht] at hr
 obtain ⟨a,n,c,ex,ds,vs,rfl,rfl,hdl,hn,hvl,hrow,hall⟩:=hr
 obtain ⟨l,hll,hfl,hs⟩:=Ybk el vs ds (by omega) hall
 rw [hfl] at hrow
 exact ⟨a,n,c,ex,l,rfl,hrow,hn,by omega,hs⟩
theorem Zyt {P:Program} {h:Zab} {f:Nat} {t e:TypeId} {f0 f1:Field} {cs:List Zai} {d:Dt} (ht:P.underlying t=some (.slice e)) (he:P.underlying e=some (.struct #[f0,f1])) (h0:P.underlying f0.type=some .string) (h1:P.underlying f1.type=some .string) (hc:P.cellsOf e=2)
  (hr:rd P h (f + 3) t cs d):∃ a n c ex,∃ l:List Nd,cs=[.slice a n c ex]∧Row h.length h a (n * 2) (Zdf eP l)∧Zpt n∧l.length=n∧∀ p∈l,Yeq p:=by
 have:=Ydj (enc:=eP) (G:=Yeq) ht (fun v d hr=>Ybo he h0 h1 hr) hr
 rwa [hc] at this
def Ykh (h:Zab) (x:EI):Prop:=∃ i:Ins,Yfn h x i∧Yeq i.1∧Zpt i.2.length∧∀ p∈i.2,Yeq p
theorem rd_inst {P:Program} {h:Zab} {f:Nat} {ti tn ts:TypeId} {g0 g1 f0 f1:Field} {v:List Zai} {d:Dt} (hi:P.underlying ti=some (.struct #[g0,g1])) (hg0:g0.type=tn) (hg1:g1.type=ts)
  (he:P.underlying tn=some (.struct #[f0,f1])) (h0:P.underlying f0.type=some .string) (h1:P.underlying f1.type=some .string) (hc:P.cellsOf tn=2) (ht:P.underlying ts=some (.slice tn)) (hr:rd P h (f + 4) ti v d) :
  ∃ x:EI,v=eN x∧Ykh h x:=by
 unfold rd at hr
 rw [hi] at hr
 obtain ⟨ds',vs',rfl,hd1,hd2,rfl,hall'⟩:=hr
 match vs',ds',hd2,hd1 with
 | [u,w],[x,y],_,_=>
  have k0:=(hall' 0 g0 u x rfl rfl rfl).2
  have k1:=(hall' 1 g1 w y rfl rfl rfl).2
  rw [hg0] at k0
  rw [hg1] at k1
  obtain ⟨p,rfl,hp⟩:=Ybo (f:=f + 1) he h0 h1 k0
  obtain ⟨a,n,c,ex,l,rfl,hrow,hn,hll,hl⟩:=Zyt (f:=f) ht he h0 h1 hc k1
  exact ⟨⟨p.1,p.2,a,n,c,ex⟩,rfl,(p,l),⟨rfl,rfl,hrow⟩,hp,by rw [hll]; exact hn,hl⟩
theorem Zqn {h:Zab}:∀ {xs:List EI},(∀ x∈xs,Ykh h x)→∃ is:List Ins,Zzp h xs is∧∀ i∈is,Yeq i.1∧Zpt i.2.length∧∀ p∈i.2,Yeq p
 | [],_=>⟨[],⟨rfl,by simp⟩,by simp⟩
 | x :: xs,hx=>by
  obtain ⟨is,⟨hl,hr⟩,hb⟩:=Zqn (xs:=xs) fun y hy=>hx y (by simp [hy])
  obtain ⟨i,hi,hib⟩:=hx x (by simp)
  refine ⟨i :: is,⟨by simp [hl],fun k y j hy hj=>?_⟩,fun j hj=>(List.mem_cons.1 hj).elim (fun e=>e ▸ hib) (hb j)⟩
  cases k with
  | zero=>simp at hy hj; subst hy; subst hj; exact hi
  | succ k=>simp at hy hj; exact hr k y j hy hj
theorem rd_world {P:Program} {h:Zab} {f:Nat} {tw tc tcs ti tis tn ts:TypeId} {w0 w1 q0 q1 g0 g1 f0 f1:Field} {cs:List Zai} {d:Dt} (hw:P.underlying tw=some (.struct #[w0,w1])) (hw0:w0.type=tcs) (hw1:w1.type=tis)
  (hcs:P.underlying tcs=some (.slice tc)) (hct:P.underlying tc=some (.struct #[q0,q1])) (hq0:P.underlying q0.type=some .string) (hq1:P.underlying q1.type=some .string) (hcc:P.cellsOf tc=2)
  (his:P.underlying tis=some (.slice ti)) (hic:P.cellsOf ti=3) (hi:P.underlying ti=some (.struct #[g0,g1])) (hg0:g0.type=tn) (hg1:g1.type=ts)
  (he:P.underlying tn=some (.struct #[f0,f1])) (h0:P.underlying f0.type=some .string) (h1:P.underlying f1.type=some .string) (hc:P.cellsOf tn=2) (ht:P.underlying ts=some (.slice tn)) (hr:rd P h (f + 6) tw cs d) :
  ∃ a0 n0 c0 e0 a1 n1 c1 e1,∃ w:Wd,cs=[.slice a0 n0 c0 e0,.slice a1 n1 c1 e1]∧(n0≤c0→n1≤c1→Zip h a0 n0 c0 a1 n1 c1 w)∧Yix w:=by
 unfold rd at hr
 rw [hw] at hr
 obtain ⟨ds',vs',rfl,hd1,hd2,rfl,hall'⟩:=hr
 match vs',ds',hd2,hd1 with
 | [u,v],[x,y],_,_=>
  have k0:=(hall' 0 w0 u x rfl rfl rfl).2
  have k1:=(hall' 1 w1 v y rfl rfl rfl).2
  rw [hw0] at k0
  rw [hw1] at k1
  obtain ⟨a0,n0,c0,e0,l0,rfl,hrow0,hn0,hl0,hb0⟩:=Zyt (f:=f + 2) hcs hct hq0 hq1 hcc k0
  obtain ⟨a1,n1,c1,e1,l1,rfl,hrow1,hn1,hl1,hb1⟩:=Ydj (f:=f + 4) (enc:=eN) (G:=Ykh h) his (fun v d hr=>rd_inst hi hg0 hg1 he h0 h1 hc ht hr) k1
  rw [hic] at hrow1
  obtain ⟨is,hrep,hib⟩:=Zqn hb1
  refine ⟨a0,n0,c0,e0,a1,n1,c1,e1,⟨l0,is⟩,rfl,fun k0 k1=>⟨hrow0,⟨l1,hrow1,hrep⟩,k0,k1⟩,?_⟩
  refine ⟨by rw [show (Wd.mk l0 is).cs.length=n0 from hl0]; exact hn0,?_,fun p hp=>⟨(hb0 p hp).1,(hb0 p hp).2.1,(hb0 p hp).2.2.1⟩,fun i hi=>?_⟩
  ·have:is.length=n1:=by have:=hrep.1; omega
   show Zpt is.length
   rw [this]; exact hn1
  ·obtain ⟨p1,p2,p3⟩:=hib i hi
   exact ⟨p1.1,p1.2.1,p2,fun p hp=>⟨(p3 p hp).1,(p3 p hp).2.1⟩⟩

end Go.Sim

set_option linter.unusedSimpArgs false
set_option linter.unusedVariables false
namespace Go.Sim

def Ydp:Ty→List Nat
 | .k c=>if Zhj c then [c] else []
 | .u c a=>Ydp a
 | .w c a b=>Ydp a ++ Ydp b
structure Ykv (m m':Bd) (a t:Ty):Prop where
 keep:∀ v u,Yaz m v=some u→Yaz m' v=some u
 sub:subst (Yaz m') a=t
 vars:∀ v,(Yaz m' v).isSome=true ↔ ((Yaz m v).isSome=true ∨ v∈Ydp a)
end Go.Sim

set_option linter.unusedSimpArgs false
set_option linter.unusedVariables false
namespace Go.Sim

structure Yks (f:Nat→Option Ty):Prop where
 nv:∀ v,Zhj v=false→f v=none
 ok:∀ v t,f v=some t→t.ok=true
noncomputable def after (f g:Nat→Option Ty) (v:Nat):Option Ty:=if Zhj v then some (subst g ((f v).getD (.k v))) else none
noncomputable def Ykf (a b:Ins):Bool:=decide (a.1.1=b.1.1) && Yji b.1.2 a.1.2
end Go.Sim

set_option linter.unusedVariables false
set_option linter.unusedSimpArgs false
set_option maxRecDepth 20000
namespace Go.Sim
open Go Go.RowKit

end Go.Sim

set_option linter.unusedVariables false
set_option linter.unusedSimpArgs false
set_option maxRecDepth 20000
namespace Go.Sim
open Go Go.RowKit

def ixs {α:Type} (f:α→Bool) (l:List α):List Int:=(l.zipIdx.filter fun p=>f p.1).map fun p=>(p.2:Int)
end Go.Sim

set_option linter.unusedVariables false
set_option linter.unusedSimpArgs false
set_option maxRecDepth 20000
namespace Go.Sim
open Go Go.RowKit

noncomputable def Yka (n:Nd) (i:Ins):Bool:=decide (i.1.1=n.1) && Yji i.1.2 n.2
noncomputable def Yjs (w:Wd) (n:Nd):List Int:=ixs (Yka n) w.is
theorem Zcd.low {α:Type} {ty:TypeId} {enc:α→List Zai} {b b':Nat} {h:Zab} {a:Pt} {n:Nat} {l:List α} (f:Zcd ty enc b h a n l) (hb:b'≤b):Zcd ty enc b' h a n l:=
 ⟨f.1,f.2.imp id fun ⟨i,ha,hbi,hi⟩=>⟨i,ha,by omega,hi⟩⟩
end Go.Sim

set_option linter.unusedVariables false
set_option linter.unusedSimpArgs false
set_option maxRecDepth 20000
namespace Go.Sim
open Go Go.RowKit

def Ygi (w:Wd) (x:Int):Ins:=w.is.getD x.toNat (([],[]),[])
noncomputable def Ykc (w:Wd) (l:List Int) (x:Int):Bool:=l.all fun k=>Ykf (Ygi w x) (Ygi w k)
noncomputable def Yjt (w:Wd) (l:List Int):Int:=match l.find? (Ykc w l) with | some x=>x | none=>-1
theorem Row.i64 {b:Nat} {h:Zab} {a:Pt} {n:Nat} {l:List Int} (r:Row b h a n (Zdf eI l)) {k:Nat} (hk:k < n):∃ i o,∃ hk':k < l.length,a=some (i,o)∧i < b∧Zaf h (.ptr (some (i,o + k * 1)))=some (.int .i64 l[k]):=by
 obtain ⟨i,o,hk',ha,hi,hc⟩:=Row.el1 Yiu r hk
 exact ⟨i,o,hk',ha,hi,hc⟩
end Go.Sim

set_option linter.unusedSimpArgs false
set_option linter.unusedVariables false
namespace Go.Sim

end Go.Sim

set_option linter.unusedVariables false
set_option linter.unusedSimpArgs false
set_option maxRecDepth 20000
namespace Go.Sim
open Go Go.RowKit

end Go.Sim

set_option linter.unusedVariables false
set_option linter.unusedSimpArgs false
set_option maxRecDepth 20000
namespace Go.Sim
open Go Go.RowKit

end Go.Sim

set_option linter.unusedSimpArgs false
set_option linter.unusedVariables false
namespace Go.Sim

def Up (cs:List Nd) (a b:Nat):Prop:=∃ i,∃ h:i < cs.length,cs[i].1=[a]∧b∈cs[i].2
inductive Rch (cs:List Nd) (a:Nat):Nat→Prop
 | one {b:Nat}:Up cs a b→Rch cs a b
 | more {b c:Nat}:Rch cs a b→Up cs b c→Rch cs a c
theorem Ztm {cs:List Nd} (h:Zhl cs=true) {i:Nat} (hi:i < cs.length):Zqk cs i=true:=by
 unfold Zhl at h
 simp only [Bool.and_eq_true,List.all_eq_true] at h
 exact h.1 i (List.mem_range.2 hi)
theorem Ydt {cs:List Nd} (h:Zhl cs=true) {i:Nat} (hi:i < cs.length):∃ d,cs[i].1=[d]∧65≤d∧d≤84:=by
 have:=Ztm h hi
 unfold Zqk at this
 rw [Zho hi] at this
 simp only [Bool.and_eq_true] at this
 have h1:=this.1.1
 unfold Zoz at h1
 split at h1
 ·rename_i d hd; exact ⟨d,hd,by simpa using h1⟩
 ·cases h1
theorem Zup {cs:List Nd} (h:Zhl cs=true) {i:Nat} (hi:i + 1 < cs.length) {a b:Nat} (ha:cs[i].1=[a]) (hb:cs[i + 1].1=[b]):a < b:=by
 have:=Ztm h hi
 unfold Zqk at this
 rw [Zho hi,Nat.add_sub_cancel,Zho (by omega),ha,hb] at this
 simp only [Bool.and_eq_true] at this
 have h1:=this.1.2
 simpa [Zeg] using h1
theorem Ztl {cs:List Nd} (h:Zhl cs=true):∀ (k i:Nat) (hi:i + k + 1 < cs.length) {a b:Nat},cs[i].1=[a]→cs[i + k + 1].1=[b]→a < b
 | 0,i,hi,a,b,ha,hb=>Zup h hi ha hb
 | k + 1,i,hi,a,b,ha,hb=>by
  obtain ⟨d,hd,_⟩:=Ydt h (show i + k + 1 < cs.length by omega)
  have h1:=Ztl h k i (by omega) ha hd
  have h2:=Zup h (i:=i + k + 1) (by omega) hd hb
  omega
theorem Zxq {cs:List Nd} (h:Zhl cs=true) {i j:Nat} (hi:i < cs.length) (hj:j < cs.length) {a:Nat} (ha:cs[i].1=[a]) (hb:cs[j].1=[a]):i=j:=by
 rcases Nat.lt_trichotomy i j with hl | he | hl
 ·obtain ⟨k,rfl⟩:∃ k,j=i + k + 1:=⟨j - i - 1,by omega⟩
  have:=Ztl h k i hj ha hb; omega
 ·exact he
 ·obtain ⟨k,rfl⟩:∃ k,i=j + k + 1:=⟨i - j - 1,by omega⟩
  have:=Ztl h k j hi hb ha; omega
theorem Zou {cs:List Nd} (h:Zhl cs=true) {i:Nat} (hi:i < cs.length) {b:Nat} (hb:b∈cs[i].2):∃ j,∃ hj:j < i,cs[j].1=[b]:=by
 have:=Ztm h hi
 unfold Zqk at this
 rw [Zho hi] at this
 simp only [Bool.and_eq_true] at this
 have h1:=this.2
 unfold Zvc at h1
 rw [List.all_eq_true] at h1
 obtain ⟨k,hk,rfl⟩:=List.mem_iff_getElem.1 hb
 have h2:=h1 k (List.mem_range.2 hk)
 unfold Zry at h2
 rw [Zho hk] at h2
 simp only [Bool.and_eq_true] at h2
 have h3:=h2.1
 unfold Zfs at h3
 rw [List.any_eq_true] at h3
 obtain ⟨x,hx,he⟩:=h3
 obtain ⟨j,hj,rfl⟩:=List.mem_iff_getElem.1 hx
 rw [List.length_take] at hj
 exact ⟨j,by omega,by simpa using he⟩
theorem Up.ix {cs:List Nd} (h:Zhl cs=true) {a b i:Nat} (u:Up cs a b) (hi:i < cs.length) (ha:cs[i].1=[a]):b∈cs[i].2:=by
 obtain ⟨j,hj,hja,hb⟩:=u
 have:=Zxq h hi hj ha hja
 subst this; exact hb
theorem Rch.ix {cs:List Nd} (h:Zhl cs=true) {a b i:Nat} (r:Rch cs a b) (hi:i < cs.length) (ha:cs[i].1=[a]):∃ j,∃ hj:j < i,cs[j].1=[b]:=by
 induction r with
 | one u=>exact Zou h hi (u.ix h hi ha)
 | more _ u ih=>
  obtain ⟨j,hj,hb⟩:=ih
  obtain ⟨k,hk,hc⟩:=Zou h (show j < cs.length by omega) (u.ix h (by omega) hb)
  exact ⟨k,by omega,hc⟩
structure Zus (cs:List Nd) (a:Nat) (i:Nat) (ab:List Nat):Prop where
 sound:∀ d∈ab,Rch cs a d
 done:∀ j,i≤j→∀ hj:j < cs.length,(cs[j].1=[a] ∨ ∃ d,cs[j].1=[d]∧d∈ab)→∀ b∈cs[j].2,b∈ab
theorem Zus.step {cs:List Nd} (h:Zhl cs=true) {a i:Nat} {ab:List Nat} (D:Zus cs a (i + 1) ab) (hi:i < cs.length) (hc:cs[i].1=[a] ∨ ∃ d,cs[i].1=[d]∧d∈ab):Zus cs a i (ab ++ cs[i].2):=by
 refine ⟨fun d hd=>?_,fun j hj hjl hcj b hb=>?_⟩
 ·rcases List.mem_append.1 hd with hd | hd
  ·exact D.sound d hd
  ·rcases hc with hc | ⟨e,he,hm⟩
   ·exact .one ⟨i,hi,hc,hd⟩
   ·exact .more (D.sound e hm) ⟨i,hi,he,hd⟩
 ·by_cases hji:j=i
  ·subst hji; exact List.mem_append_right _ hb
  ·refine List.mem_append_left _ (D.done j (by omega) hjl ?_ b hb)
   rcases hcj with hcj | ⟨e,he,hm⟩
   ·exact .inl hcj
   ·rcases List.mem_append.1 hm with hm | hm
    ·exact .inr ⟨e,he,hm⟩
    ·exfalso
     obtain ⟨k,hk,hke⟩:=Zou h hi hm
     have:=Zxq h hjl (show k < cs.length by omega) he hke
     omega
theorem Zus.skip {cs:List Nd} {a i:Nat} {ab:List Nat} (D:Zus cs a (i + 1) ab) (hc:∀ hi:i < cs.length,¬ (cs[i].1=[a] ∨ ∃ d,cs[i].1=[d]∧d∈ab)):Zus cs a i ab:=
 ⟨D.sound,fun j hj hjl hcj b hb=>by
  by_cases hji:j=i
  ·subst hji; exact absurd hcj (hc hjl)
  ·exact D.done j (by omega) hjl hcj b hb⟩
theorem Zus.all {cs:List Nd} (h:Zhl cs=true) {a i:Nat} {ab:List Nat} (D:Zus cs a 0 ab) (hi:i < cs.length) (ha:cs[i].1=[a]) (d:Nat):d∈ab ↔ Rch cs a d:=by
 refine ⟨D.sound d,fun r=>?_⟩
 induction r with
 | one u=>exact D.done i (by omega) hi (.inl ha) _ (u.ix h hi ha)
 | more r u ih=>
  obtain ⟨j,hj,hb⟩:=r.ix h hi ha
  exact D.done j (by omega) (by omega) (.inr ⟨_,hb,ih⟩) _ (u.ix h (by omega) hb)
structure Yie (cs:List Nd) (a i:Nat) (r:Nat) (ab:List Nat):Prop where
 sound:∀ d∈ab,Rch cs a d
 first:∀ d,Up cs a d→d∈ab
 near:∀ j,j < i→i≤j + 1 + r→∀ hj:j < cs.length,∀ d,cs[j].1=[d]→Rch cs a d→d∈ab
theorem Yie.next {cs:List Nd} (h:Zhl cs=true) {a i r:Nat} {ab ab':List Nat} (R:Yie cs a i r ab) (hi:i < cs.length) (ha:cs[i].1=[a])
  (hs:∀ d∈ab',d∈ab ∨ ∃ e∈ab,Up cs e d) (hc:∀ d,(d∈ab ∨ ∃ e∈ab,Up cs e d)→d∈ab'):Yie cs a i (r + 1) ab':=by
 refine ⟨fun d hd=>?_,fun d u=>hc d (.inl (R.first d u)),fun j hj hn hjl d hd rc=>?_⟩
 ·rcases hs d hd with hd | ⟨e,he,u⟩
  ·exact R.sound d hd
  ·exact .more (R.sound e he) u
 ·cases rc with
  | one u=>exact hc d (.inl (R.first d u))
  | more rc u=>
   rename_i e
   obtain ⟨k,hk,hb⟩:=rc.ix h hi ha
   have hjk:j < k:=by
    obtain ⟨q,hq,hcq⟩:=Zou h (show k < cs.length by omega) (u.ix h (by omega) hb)
    have:=Zxq h hjl (show q < cs.length by omega) hd hcq
    omega
   exact hc d (.inr ⟨e,R.near k hk (by omega) (by omega) e hb rc,u⟩)
theorem Yie.all {cs:List Nd} (h:Zhl cs=true) {a i r:Nat} {ab:List Nat} (R:Yie cs a i r ab) (hi:i < cs.length) (ha:cs[i].1=[a]) (hr:i≤r + 1) (d:Nat):d∈ab ↔ Rch cs a d:=by
 refine ⟨R.sound d,fun rc=>?_⟩
 obtain ⟨j,hj,hd⟩:=rc.ix h hi ha
 exact R.near j hj (by omega) (by omega) d hd rc
end Go.Sim

set_option linter.unusedVariables false
set_option linter.unusedSimpArgs false
set_option maxRecDepth 20000
namespace Go.Sim
open Go Go.RowKit

end Go.Sim

set_option linter.unusedVariables false
set_option linter.unusedSimpArgs false
set_option maxRecDepth 20000
namespace Go.Sim
open Go Go.RowKit

end Go.Sim

set_option linter.unusedVariables false
set_option linter.unusedSimpArgs false
set_option maxRecDepth 20000
namespace Go.Sim
open Go Go.RowKit

structure Yhl (b:Nat) (h:Zab) (a:Pt) (n c:Nat) (l:List Nd):Prop where
 vec:Vec Zap h a n c (Zdf eP l)
 len:l.length=n
 low:∀ i,a=some (i,0)→b≤i
 cap:n≤c
theorem Yhl.row {b:Nat} {h:Zab} {a:Pt} {n c:Nat} {l:List Nd} (f:Yhl b h a n c l):Row h.length h a (n * 2) (Zdf eP l):=f.vec.row (by rw [Zbl Zdg,f.len])
theorem Yhl.same {b:Nat} {h h':Zab} {a:Pt} {n c:Nat} {l:List Nd} (f:Yhl b h a n c l) (s:Zbb h.length h h'):Yhl b h' a n c l:=⟨f.vec.same s,f.len,f.low,f.cap⟩
def But (a:Pt) (h h':Zab):Prop:=h.length≤h'.length∧∀ j,j < h.length→(∀ i,a=some (i,0)→j≠i)→h'[j]?=h[j]?
theorem But.of {a:Pt} {h h':Zab} (s:Zbb h.length h h'):But a h h':=⟨s.le,fun j hj _=>s.eq j hj⟩
theorem But.below {a:Pt} {b:Nat} {h h':Zab} (s:But a h h') (hb:b≤h.length) (hl:∀ i,a=some (i,0)→b≤i):Zbb b h h':=⟨s.1,fun j hj=>s.2 j (by omega) fun i hi=>by have:=hl i hi; omega⟩
end Go.Sim

set_option linter.unusedSimpArgs false
set_option linter.unusedVariables false
namespace Go.Sim

structure Wk where
 cand:Nd→List Int
 needs:Int→List Nat→Option (List Nd)
 most:List Int→Int
inductive Fnd where
 | ok (s:List Nat)
 | no (why:List Nat) (n:Nd)
end Go.Sim

set_option linter.unusedVariables false
set_option linter.unusedSimpArgs false
set_option maxRecDepth 20000
namespace Go.Sim
open Go Go.RowKit

noncomputable def wk (w:Wd):Wk:=⟨Yjs w,fun x t=>Yhq (Ygi w x) t,Yjt w⟩
structure FrS (i:Nat) (qa:Pt) (h h':Zab) (qa':Pt):Prop where
 le:h.length≤h'.length
 eq:∀ j,j < h.length→j≠i→(∀ q,qa=some (q,0)→j≠q)→h'[j]?=h[j]?
 pt:qa'=qa ∨ ∀ q,qa'=some (q,0)→h.length≤q
theorem FrS.of_same {i:Nat} {qa:Pt} {h h':Zab} (s:Zbb h.length h h'):FrS i qa h h' qa:=⟨s.le,fun j hj _ _=>s.eq j hj,.inl rfl⟩
theorem FrS.refl (i:Nat) (qa:Pt) (h:Zab):FrS i qa h h qa:=.of_same (Zbb.refl _ _)
theorem FrS.ne {i:Nat} {qa qa':Pt} {h h':Zab} (f:FrS i qa h h' qa') {j:Nat} (hj:j < h.length) (hq:∀ q,qa=some (q,0)→j≠q):∀ q,qa'=some (q,0)→j≠q:=by
 intro q hq'
 rcases f.pt with e | e
 ·exact hq q (e ▸ hq')
 ·have:=e q hq'; omega
theorem FrS.trans {i:Nat} {qa qa1 qa2:Pt} {h h1 h2:Zab} (f:FrS i qa h h1 qa1) (g:FrS i qa1 h1 h2 qa2):FrS i qa h h2 qa2:=by
 have:=f.le; have:=g.le
 refine ⟨by omega,fun j hj hi hq=>?_,?_⟩
 ·rw [g.eq j (by omega) hi (f.ne hj hq)]; exact f.eq j hj hi hq
 ·rcases g.pt with e | e
  ·rcases f.pt with e' | e'
   ·exact .inl (e.trans e')
   ·exact .inr fun q hq=>e' q (e ▸ hq)
  ·exact .inr fun q hq=>by have:=e q hq; omega
theorem FrS.set {i:Nat} {qa:Pt} {h:Zab} {x:Zbv}:FrS i qa h (h.set i x) qa:=⟨by simp,fun j _ hi _=>Zbn (fun e=>hi e.symm),.inl rfl⟩
theorem FrS.get {i:Nat} {qa qa':Pt} {h h':Zab} (f:FrS i qa h h' qa') {j:Nat} {x:Zbv} (hj:h[j]?=some x) (hi:j≠i) (hq:∀ q,qa=some (q,0)→j≠q):h'[j]?=some x:=by rw [f.eq j (Own.lt hj) hi hq]; exact hj
theorem FrS.row {i:Nat} {qa qa':Pt} {h h':Zab} (f:FrS i qa h h' qa') {a:Pt} {n:Nat} {cs:List Zai} (r:Row h.length h a n cs) (hn:∀ j o,n≠0→a=some (j,o)→j≠i∧∀ q,qa=some (q,0)→j≠q):Row h'.length h' a n cs:=by
 obtain ⟨hl,r⟩:=r
 by_cases h0:n=0
 ·exact ⟨hl,.inl h0⟩
 ·refine ⟨hl,r.imp id ?_⟩
  rintro ⟨j,o',t,all,ro,ha,hi,hg,x⟩
  have:=f.le
  obtain ⟨h1,h2⟩:=hn j o' h0 ha
  exact ⟨j,o',t,all,ro,ha,by omega,by rw [f.eq j hi h1 h2]; exact hg,x⟩
theorem FrS.below {i b:Nat} {qa qa':Pt} {h h':Zab} (f:FrS i qa h h' qa') (hb:b≤h.length) (hi:b≤i) (hq:∀ q,qa=some (q,0)→b≤q):Zbb b h h':=⟨f.le,fun j hj=>f.eq j (by omega) (by omega) fun q hq'=>by have:=hq q hq'; omega⟩
end Go.Sim

set_option linter.unusedSimpArgs false
set_option linter.unusedVariables false
namespace Go.Sim

section
variable {k:Wk} {sp:Bool} {dec:Int→List Nat}
end
end Go.Sim

set_option linter.unusedVariables false
set_option linter.unusedSimpArgs false
set_option maxRecDepth 20000
namespace Go.Sim
open Go Go.RowKit

theorem Vec.app0 {P:Program} {t ty:TypeId} {h:Zab} {i n c sz:Nat} {e:Bool} {xa:Pt} {m c':Nat} {e':Bool} {cs new:List Zai} {K:Zai→Zab→Prop} (hi:h[i]?=some (.cells ty cs false))
  (hu:P.underlying t=some (.slice ty)) (hc:P.cellsOf ty=sz) (hok:P.okElem ty=true) (hby:P.bytesOf ty≤127) (hn:cs.length=n * sz) (hx:rowOf h xa (m * sz)=some new) (hl:new.all Zai.leaf=true)
  (hle:n + m≤1099511627776) (hk:∀ h',h'.length=h.length + 1→h'[h.length]?=some (.cells ty (cs ++ new) false)→(∀ j,j < h.length→j≠i→h'[j]?=h[j]?) →
   K (.slice (some (h.length,0)) (n + m) (n + m) false) h'):Zcc P t h (.slice (some (i,0)) n c e) (.slice xa m c' e') K:=by
 unfold Zcc
 simp only [hu,hc,hx,Zar]
 refine ⟨⟨hok,?_,hl⟩,.inl ⟨by trivial,?_⟩⟩
 ·have:(n + m) * (P.bytesOf ty + 1)≤(n + m) * 128:=Nat.mul_le_mul_left _ (by omega)
  omega
 ·simp only [Zmj,hi,true_and]
  refine ⟨hn,hk _ (by simp) (by rw [List.getElem?_append_right (by simp)]; simp) fun j hj hne=>?_⟩
  rw [List.getElem?_append_left (by simpa using hj),List.getElem?_set_ne (fun e=>hne e.symm)]
theorem Zvf {h:Zab} {a:Pt} {n c:Nat} {e:Bool} {l:List Nd} (r:Row h.length h a (n * 2) (Zdf eP l)) (he:a=none→e=true) (hn:n≤1048576) :
  Zag pg Zcu [.slice a n c e] h fun v h'=>∃ a' c' e',v=.slice a' n c' e'∧Yhl h.length h' a' n c' l∧Zbb h.length h h'∧(a'=none→e'=true):=by
 have hl:l.length=n:=by have:=r.1; rw [Zbl Zdg] at this; omega
 apply Zef.call
 refine ⟨he,?_⟩
 match a with
 | none=>
  have h0:n=0:=by
   rcases r.2 with h0 | ⟨i,o,t,all,ro,ha,_⟩
   ·omega
   ·cases ha
  subst h0
  have:l=[]:=List.eq_nil_of_length_eq_zero hl
  subst this
  exact ⟨none,0,true,rfl,⟨.inl ⟨rfl,rfl,rfl,rfl⟩,rfl,fun i hi=>(by cases hi),Nat.le_refl _⟩,Zbb.refl _ _,fun _=>rfl⟩
 | some (i,o)=>
  simp only [Option.isNone_some,Zbh]
  generalize hh0:h ++ [Zbv.cells Zap [] false]=h0
  have s0:Zbb h.length h h0:=by rw [← hh0]; exact Zan
  have o0:h0[h.length]?=some (.cells Zap [] false):=by rw [← hh0]; simp
  have l0:h0.length=h.length + 1:=by rw [← hh0]; simp
  refine Zfg (fun h=>by cases h) (fun _=>?_)
  refine Vec.app0 (n:=0) o0 Zxu Yfq Ygf Yfo (by simp) (r.same' s0).rowOf (Zmw (enc:=eP) (fun _=>rfl) l) (by omega) (fun h1 hl1 hi1 hk1=>?_)
  simp only [Zae,Nat.zero_add]
  exact ⟨_,_,_,rfl,⟨Vec.mk1 (by simpa using hi1),hl,fun j hj=>by cases hj; omega,Nat.le_refl _⟩,⟨by omega,fun j hj=>by rw [hk1 j (by omega) (by omega)]; exact s0.eq j hj⟩,fun h=>by cases h⟩
section
variable {hb:Zab} {i:Nat} {u v:Zai} {sp:Bool} {h:Zab} {qa:Pt} {asked:List Nd} {fl:Nd}
end
end Go.Sim

set_option linter.unusedVariables false
set_option linter.unusedSimpArgs false
set_option maxRecDepth 20000
namespace Go.Sim
open Go Go.RowKit

end Go.Sim
