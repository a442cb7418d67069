/- A part of the proof of a statement of this seat: see the text that holds the theorem. No condition. -/
import Derived.Test.YtdglddliggejdaaPTCWVal
import Derived.Test.YtdglddliggejdaaCWVar2
import Derived.Test.YtdglddliggejdaaCSplit
import Derived.Test.YtdglddliggejdaaNm
import Derived.Test.YtdglddliggejdaaSimX
import Derived.Test.YtdglddliggejdaaShelf
set_option linter.unusedVariables false
set_option linter.unusedSimpArgs false
set_option linter.all false
set_option linter.unusedVariables false
set_option linter.unusedSimpArgs false
set_option maxRecDepth 20000
namespace Go.Sim
open Go Go.RowKit

structure WB (w:Wd):Prop where
 lc:w.cs.length≤1048576
 li:w.is.length≤1048576
 cs:∀ p∈w.cs,p.1.length≤1048576∧p.2.length≤1048576∧∀ b∈p.1,b < 256
 is:∀ i∈w.is,i.1.1.length≤1048576∧i.1.2.length≤1048576∧i.2.length≤1048576∧∀ p∈i.2,p.1.length≤1048576∧p.2.length≤1048576
def Ztw (a0:Pt) (n0 c0:Nat) (e0:Bool) (a1:Pt) (n1 c1:Nat) (e1:Bool):Zcp:=.cells Zao [.slice a0 n0 c0 e0,.slice a1 n1 c1 e1] false
theorem Ykz {h:Zaa} {j:Nat} {a0 a1:Pt} {n0 c0 n1 c1:Nat} {e0 e1:Bool} (hj:h[j]?=some (Ztw a0 n0 c0 e0 a1 n1 c1 e1)):Zbo h (.ptr (some (j,0))) 2=some [.slice a0 n0 c0 e0,.slice a1 n1 c1 e1]:=by
 rw [Zfv (show h[j]?=some (.cells Zao [.slice a0 n0 c0 e0,.slice a1 n1 c1 e1] false) from hj) (by simp)]; rfl
theorem Zmf {h:Zaa} {j o:Nat} {a0 a1:Pt} {n0 c0 n1 c1:Nat} {e0 e1:Bool} (hj:h[j]?=some (Ztw a0 n0 c0 e0 a1 n1 c1 e1)):Zaf h (.ptr (some (j,o)))=([.slice a0 n0 c0 e0,.slice a1 n1 c1 e1]:List Zag)[o]?:=Zan (show h[j]?=some (.cells Zao [.slice a0 n0 c0 e0,.slice a1 n1 c1 e1] false) from hj)
theorem Zbb.get {b:Nat} {h h':Zaa} {j:Nat} {x:Zcp} (s:Zbb b h h') (hj:h[j]?=some x) (hb:j < b):h'[j]?=some x:=by rw [s.eq j hb]; exact hj
theorem Zbb.cat {h h1 h2:Zaa} (a:Zbb h.length h h1) (b:Zbb h1.length h1 h2):Zbb h.length h h2:=a.trans (b.mono a.le)

theorem Ymh {h:Zaa} {t:TypeId} {x y:Zag}:Zbo (h ++ [.cells t [x,y] false]) (.ptr (some (h.length,0))) 2=some [x,y]:=Zyr rfl
theorem Ynm {h:Zaa} {t:TypeId} {x y z:Zag}:Zbo (h ++ [.cells t [x,y,z] false]) (.ptr (some (h.length,0))) 3=some [x,y,z]:=Zyr rfl
theorem Ybb {h:Zaa} {a0 a1 a2:Pt} {n0 c0 n1 c1 n2 c2 j:Nat} {e0 e1 e2:Bool} {w:Wd} {ns:List Nd} {ct tt:List Nat} (r:Zqk h a0 n0 c0 a1 n1 c1 w) (b:WB w) (hj:h[j]?=some (Ztw a0 n0 c0 e0 a1 n1 c1 e1))
  (r2:Row h.length h a2 (n2 * 2) (Zdo eP ns)) (hn2:n2≤1048576) (hns:∀ p∈ns,p.2.length≤1048576) (htt:tt.length≤1048576) :
  Zad pg Zbq [.agg [.str ct,.str tt,.slice a2 n2 c2 e2],.ptr (some (j,0))] h fun v h'=>v=.bool (!Zlc w.cs ((ct,tt),ns))∧Zbb h.length h h':=by
 apply Zig.call
 simp only [Zba]
 have s1:Zbb h.length h (h ++ [.cells Zac [.str ct,.str tt,.slice a2 n2 c2 e2] false]):=Zav
 rw [Ykz (s1.get hj (Own.lt hj)),Ynm]
 simp only [Zas,Zak,Zar,Zai,Zap]
 have hlc:=b.lc
 have hl0:=r.len0
 refine (Zru (r.cls.same' s1) r.le0 (by omega) (fun p hp=>(b.cs p hp).2.1) (r2.same' s1) hn2 hns htt).mono ?_
 rintro v h2 ⟨rfl,s2⟩
 simp only [Zah]
 exact ⟨by trivial,s1.cat s2⟩
theorem Yay {h:Zaa} {a0 a1:Pt} {n0 c0 n1 c1 j:Nat} {e0 e1:Bool} {w:Wd} (r:Zqk h a0 n0 c0 a1 n1 c1 w) (b:WB w) (hj:h[j]?=some (Ztw a0 n0 c0 e0 a1 n1 c1 e1)) :
  Zad pg Zcl [.slice a1 n1 c1 e1,.fn Zbq [.ptr (some (j,0))]] h fun v h'=>(∃ z:Int,v=.int .i64 z∧decide (z ≥ 0)=!w.is.all (Zlc w.cs))∧Zbb h.length h h':=by
 have hl:=r.len1
 have hli:=b.li
 apply Zaw.call
 refine Zaw.L2ind _ _ _ _ _ _ _ (J:=fun (g:Nat) x8 h'=>x8=(g:Int)∧g≤n1∧Zbb h.length h h'∧(w.is.take g).all (Zlc w.cs)=true) (fun g=>n1 - g) ?_ 0 _ _ ⟨rfl,by omega,Zbb.refl _ _,rfl⟩
 rintro g x8 h' ⟨rfl,hg,hS,hk⟩ R hR
 unfold Zaw.L2t
 refine Zaj (fun hlt=>?_) (fun hge=>?_)
 ·obtain ⟨i,o,hgl,a2,n2,c2,e2,rfl,_,hr,_,_,_,hrow,hn⟩:=(r.same hS).inst (k:=g) (by omega)
  simp only [Zau,Int.toNat_natCast,hr,Zas,Zak,Zar,Zap,Zai]
  have hb:=b.is _ (List.getElem_mem hgl)
  refine ⟨by omega,(Ybb (r.same hS) b (hS.get hj (Own.lt hj)) hrow (by omega) (fun p hp=>(hb.2.2.2 p hp).2) hb.2.1).mono ?_⟩
  rintro v h2 ⟨rfl,s2⟩
  simp only [Zah]
  have hS2:=hS.cat s2
  refine Zck (fun he=>?_) (fun he=>?_)
  ·exact ⟨⟨_,rfl,by rw [Zqt hgl he]; simp⟩,hS2⟩
  ·rw [Zbp (by omega)]
   exact hR (g + 1) _ _ (by omega) ⟨rfl,by omega,hS2,Zgq hgl hk he⟩
 ·apply Zaw.A2x0i
  have:g=n1:=by omega
  subst this
  rw [List.take_of_length_le (by omega)] at hk
  exact ⟨⟨_,rfl,by rw [hk]; rfl⟩,hS⟩
theorem Zvz {h:Zaa} {a0 a1:Pt} {n0 c0 n1 c1:Nat} {e0 e1:Bool} {w:Wd} (r:Zqk h a0 n0 c0 a1 n1 c1 w) (b:WB w) :
  Zad pg Zil [.agg [.slice a0 n0 c0 e0,.slice a1 n1 c1 e1]] h fun v h'=>v=.bool (Zhl w)∧Zbb h.length h h':=by
 have hl0:=r.len0
 have hl1:=r.len1
 have hlc:=b.lc
 apply Zlq.call
 simp only [Zba]
 generalize hh0:h ++ [Zcp.cells Zao [.slice a0 n0 c0 e0,.slice a1 n1 c1 e1] false]=h0
 have s0:Zbb h.length h h0:=by rw [← hh0]; exact Zav
 have w0:h0[h.length]?=some (Ztw a0 n0 c0 e0 a1 n1 c1 e1):=by rw [← hh0]; simp [Ztw]
 rw [Ykz w0]
 simp only [Zas,Zak,Zar,Zai]
 refine (Zro (r.cls.same' s0) r.le0 (by omega) (fun p hp=>(b.cs p hp).2.1)).mono ?_
 rintro v h2 ⟨rfl,s2⟩
 have S2:=s0.cat s2
 have w2:=s2.get w0 (Own.lt w0)
 simp only [Zah]
 refine Zds (fun b1=>?_) (fun b1=>⟨by unfold Zhl; rw [b1]; rfl,S2⟩)
 simp only [Zmf w2,Nat.zero_add,List.getElem?_cons_succ,List.getElem?_cons_zero,Zai]
 refine Zaj (fun b2=>?_) (fun b2=>⟨by unfold Zhl; rw [b1]; simp [show ¬ w.is.length≤10 by omega],S2⟩)
 apply Zca.call
 refine (Yay (r.same S2) b w2).mono ?_
 rintro v h3 ⟨⟨z,rfl,hz⟩,s3⟩
 simp only [Zal,Zah]
 refine ⟨?_,S2.cat s3⟩
 rw [hz,Bool.not_not]
 unfold Zhl
 rw [b1]; simp [show w.is.length≤10 by omega]
theorem Zun {h:Zaa} {a0 a1:Pt} {n0 c0 n1 c1:Nat} {e0 e1:Bool} {w:Wd} (r:Zqk h a0 n0 c0 a1 n1 c1 w) (b:WB w) :
  Zad pg Zii [.agg [.slice a0 n0 c0 e0,.slice a1 n1 c1 e1]] h fun v h'=>v=.bool (Zhl w)∧Zbb h.length h h':=by
 have hl0:=r.len0
 have hl1:=r.len1
 have hlc:=b.lc
 have hli:=b.li
 apply Zey.call
 simp only [Zba]
 generalize hh0:h ++ [Zcp.cells Zao [.slice a0 n0 c0 e0,.slice a1 n1 c1 e1] false]=h0
 have s0:Zbb h.length h h0:=by rw [← hh0]; exact Zav
 have w0:h0[h.length]?=some (Ztw a0 n0 c0 e0 a1 n1 c1 e1):=by rw [← hh0]; simp [Ztw]
 simp only [Zmf w0,Nat.zero_add,List.getElem?_cons_succ,List.getElem?_cons_zero,Zai]
 refine Zey.L2ind _ _ _ _ _ _ _ _ (J:=fun (g:Nat) x8 h'=>x8=(g:Int)∧g≤n1∧Zbb h0.length h0 h'∧(w.is.take g).all (Zlc w.cs)=true) (fun g=>n1 - g) ?_ 0 _ _ ⟨rfl,by omega,Zbb.refl _ _,rfl⟩
 rintro g x8 h' ⟨rfl,hg,hS,hk⟩ R hR
 have SS:=s0.cat hS
 have w1:=hS.get w0 (Own.lt w0)
 unfold Zey.L2t
 refine Zaj (fun hlt=>?_) (fun hge=>?_)
 ·obtain ⟨i,o,hgl,a2,n2,c2,e2,rfl,_,hr,_,_,_,hrow,hn⟩:=(r.same SS).inst (k:=g) (by omega)
  simp only [Zau,Int.toNat_natCast,hr,Zas,Zak,Zar,Zap,Zai,Zba]
  rw [Ynj]
  generalize hq:h' ++ [Zcp.cells Zac [.str w.is[g].1.1,.str w.is[g].1.2,.slice a2 n2 c2 e2] false]=hq'
  have sq:Zbb h'.length h' hq':=by rw [← hq]; exact Zav
  simp only [Zaq]
  rw [Ykz (sq.get w1 (Own.lt w1)),← hq,Ynm,hq]
  simp only [Zas,Zak,Zar,Zap,Zai]
  have hb:=b.is _ (List.getElem_mem hgl)
  have Sq:=SS.cat sq
  refine ⟨by omega,(Zre (r.cls.same' Sq) r.le0 (by omega) (fun p hp=>(b.cs p hp).2.1) (fun p hp=>(b.cs p hp).2.2) (hrow.same' sq) (by omega) (fun p hp=>(hb.2.2.2 p hp).2) hb.2.1).mono ?_⟩
  rintro v h2 ⟨rfl,s2⟩
  simp only [Zah]
  refine Zck (fun he=>?_) (fun he=>?_)
  ·exact ⟨by unfold Zhl; rw [Zqt hgl he]; simp,Sq.cat s2⟩
  ·rw [Zbp (by omega)]
   exact hR (g + 1) _ _ (by omega) ⟨rfl,by omega,(hS.cat sq).cat s2,Zgq hgl hk he⟩
 ·apply Zey.A2x0i
  have:g=n1:=by omega
  subst this
  rw [List.take_of_length_le (by omega)] at hk
  simp only [Zmf w1,Nat.zero_add,List.getElem?_cons_zero,Zai]
  refine (Zrt (r.cls.same' SS) r.le0 (by omega) (fun p hp=>(b.cs p hp).2.1) (fun p hp=>(b.cs p hp).2.2)).mono ?_
  rintro v h2 ⟨rfl,s2⟩
  simp only [Zah]
  have w2:=s2.get w1 (Own.lt w1)
  refine Zds (fun b1=>?_) (fun b1=>⟨by unfold Zhl; rw [b1]; rfl,SS.cat s2⟩)
  simp only [Zmf w2,Nat.zero_add,List.getElem?_cons_succ,List.getElem?_cons_zero,Zai]
  refine ⟨?_,SS.cat s2⟩
  unfold Zhl
  rw [b1,hk]; congr 1; rw [Bool.eq_iff_iff]; simp; omega
end Go.Sim

set_option linter.unusedVariables false
set_option linter.unusedSimpArgs false
set_option maxRecDepth 20000
namespace Go.Sim
open Go Go.RowKit

end Go.Sim

set_option linter.unusedVariables false
set_option linter.unusedSimpArgs false
set_option maxRecDepth 20000
namespace Go.Sim
open Go Go.RowKit
theorem Ydl {h:Zaa} {c t:List Nat} {x:Int} (hc:c.length≤9223372036854775807) (ht:t.length≤9223372036854775807) (hx:0≤x∧x≤1048576) :
  Zad pg Zlf [.agg [.str c,.str t],.int .i64 x] h fun v h'=>∃ y,v=.int .i64 y∧Zbb h.length h h'∧(0≤y→(c.length:Int) + t.length + y=x):=by
 apply Zoz.call
 simp only [Zba]
 have s1:Zbb h.length h (h ++ [.cells Znr [.str c,.str t] false]):=Zbb.app (Nat.le_refl _) _
 simp [Zaf]
 rw [IntWalk.i64_in _ (by omega)]
 refine Zaj (fun hlt=>s1) (fun hge=>?_)
 rw [IntWalk.i64_in _ (by omega)]
 exact Zaj (fun hlt=>s1) (fun hge=>⟨s1,by omega⟩)
theorem Ydc {h:Zaa} {c t c' t':List Nat} :
  Zad pg Zlg [.agg [.str c,.str t],.agg [.str c',.str t']] h fun v h'=>v=.bool (decide (c=c') && decide (t=t'))∧Zbb h.length h h':=by
 apply Zow.call
 simp only [Zba]
 simp [Zaf]
 by_cases e1:c=c' <;> by_cases e2:t=t' <;> simp [e1,e2] <;> exact Zbb.app (Nat.le_refl _) _
theorem Yeg {h:Zaa} {c t:List Nat} :
  Zad pg Zle [.agg [.str c,.str t]] h fun v h'=>v=.agg [.str c,.str t]∧Zbb h.length h h':=by
 apply Zpa.call
 simp only [Zba]
 simp [Zaf,Zbd,Zbo,Zbm,List.getElem?_append,List.getElem?_set]
 exact Zbb.app (Nat.le_refl _) _

theorem Zze {h:Zaa} {a:Pt} {n c:Nat} {e:Bool} {l:List (List Nat × List Nat)} (r:Row h.length h a (n * 2) (prs l)) (hs:∀ p∈l,p.1.length≤9223372036854775807∧p.2.length≤9223372036854775807) (hn:n≤9223372036854775807) {left:Int} (hl:0≤left∧left≤1048576) :
  Zad pg Zkd [.slice a n c e,.int .i64 left] h fun v h'=>∃ x,v=.int .i64 x∧Zbb h.length h h'∧(0≤x→(n:Int) + Zyb l + x=left):=by
 have hll:l.length=n:=by have:=r.1; rw [Zfr] at this; omega
 apply Zfz.call
 rw [IntWalk.i64_in _ (by omega)]
 refine Zaj (fun hlt=>?_) (fun hge=>?_)
 ·exact ⟨_,rfl,Zbb.refl _ _,by omega⟩
 ·refine Zfz.L5ind _ _ _ _ _ (J:=fun (g:Nat) x1 x5 h'=>x5=(g:Int)∧Zbb h.length h h'∧g≤n∧0≤x1∧x1 + n + Zyb (l.take g)=left) (fun g=>n - g) ?_ 0 _ 0 h ⟨rfl,Zbb.refl _ _,by omega,by omega,by simp [Zyb]⟩
  rintro g x1 x5 h' ⟨rfl,hS,hg,h0,ht⟩ R hR
  unfold Zfz.L5t
  refine Zaj (fun hlt=>?_) (fun hge=>?_)
  ·have hlt':g < n:=by omega
   obtain ⟨i,o,hgl,rfl,hi,hc⟩:=(r.same hS).pair hlt'
   have hsl:=hs _ (List.getElem_mem hgl)
   simp only [Zau,Int.toNat_natCast,hc,Zas,Zak,Zar,Zap]
   refine ⟨by omega,(Ydl hsl.1 hsl.2 (by omega)).mono fun v h1 ⟨y,hv,hs1,hy⟩=>?_⟩
   subst hv
   simp only [Zal]
   have hS1:=hS.trans (hs1.mono hS.le)
   refine Zaj (fun hneg=>⟨_,rfl,hS1,by omega⟩) (fun hneg=>?_)
   rw [Zls hlt' (by omega)]
   have hyy:=hy (by omega)
   refine hR (g + 1) _ _ _ (by omega) ⟨rfl,hS1,by omega,by omega,?_⟩
   rw [Ztu hgl]; omega
  ·have:g=n:=by omega
   subst this
   rw [List.take_of_length_le (by omega)] at ht
   exact Zfz.A5x0i _ _ _ ⟨_,rfl,hS,by omega⟩
theorem Zzh {h:Zaa} {a:Pt} {n c:Nat} {e:Bool} {l:List (List Nat × List Nat)} (r:Row h.length h a (n * 2) (prs l)) (hn:n≤1048576) :
  Zad pg Zka [.slice a n c e] h fun v h'=>∃ a' c' e',v=.slice a' n c' e'∧Zbb h.length h h'∧Zdc Zbh eP h.length h' a' n l∧n≤c'∧a'≠none:=by
 have hll:l.length=n:=by have:=r.1; rw [Zfr] at this; omega
 apply Zgf.call
 refine ⟨rfl,rfl,by omega,?_⟩
 simp only [Zba,Int.toNat_natCast,Yca]
 refine Zgf.L3ind _ _ _ _ _ _ _ _ _ (J:=fun (g:Nat) x4 h'=>x4=(g:Int)∧g≤n∧Zbb h.length h h'∧h'[h.length]?=some (.cells Zbh (prs (l.take g ++ List.replicate (n - g) ([],[]))) false)) (fun g=>n - g) ?_ 0 0 _ ⟨rfl,by omega,Zbb.app (Nat.le_refl _) _,by simp⟩
 rintro g x4 h' ⟨rfl,hg,hs,hi⟩ R hR
 unfold Zgf.L3t
 refine Zaj (fun hlt=>?_) (fun hge=>?_)
 ·have hlt':g < n:=by omega
  obtain ⟨i,o,hgl,rfl,hi',hc⟩:=(r.same hs).pair hlt'
  simp only [Zau,Int.toNat_natCast,hc,Zas,Zak,Zar,Zap]
  refine ⟨by omega,Yeg.mono fun v h1 ⟨hv,hs1⟩=>?_⟩
  subst hv
  have hi1:h1[h.length]?=some (.cells Zbh (prs (l.take g ++ List.replicate (n - g) ([],[]))) false):=by rw [hs1.eq _ (Own.lt hi)]; exact hi
  simp only [Zcw,Zak,Zar,Zap,Nat.zero_add]
  have hmin:min g l.length=g:=Nat.min_eq_left (by omega)
  rw [Zxu hi1 (by simp; omega)]
  simp only [Zaq]
  rw [Zls hlt' (by omega)]
  have hset:(l.take g ++ List.replicate (n - g) ([],[])).take g ++ [(l[g].1,l[g].2)] ++ (l.take g ++ List.replicate (n - g) (([]:List Nat),([]:List Nat))).drop (g + 1)=l.take (g + 1) ++ List.replicate (n - (g + 1)) ([],[]):=by
   have hl1:(l.take g).length=g:=by rw [List.length_take,hmin]
   rw [List.take_left' hl1,List.take_succ_eq_append_getElem hgl,List.drop_append,hl1,List.drop_of_length_le (by omega),List.nil_append,List.drop_replicate]
   congr 2; omega
  rw [hset]
  exact ⟨⟨by omega,by omega⟩,hR (g + 1) _ _ (by omega) ⟨rfl,by omega,(hs.trans (hs1.mono hs.le)).trans (Zbb.set (Nat.le_refl _) _),Zlo hi1⟩⟩
 ·have:g=n:=by omega
  subst this
  rw [List.take_of_length_le (by omega),Nat.sub_self,List.replicate_zero,List.append_nil] at hi
  exact Zgf.A3x0i _ _ _ _ _ _ ⟨_,_,_,rfl,hs,⟨hll,.inr ⟨h.length,rfl,Nat.le_refl _,hi⟩⟩,by simp,by simp⟩
theorem Zyj {h:Zaa} {a0 a1:Pt} {n0 n1 c0 c1:Nat} {e0 e1:Bool} {l0 l1:List (List Nat × List Nat)} (r0:Row h.length h a0 (n0 * 2) (prs l0)) (r1:Row h.length h a1 (n1 * 2) (prs l1)) (hn:n0≤4611686018427387904) (heq:l0=l1) :
  Zad pg Zkn [.slice a0 n0 c0 e0,.slice a1 n1 c1 e1] h fun v h'=>v=.bool true∧Zbb h.length h h':=by
 subst heq
 have hl0:l0.length=n0:=by have:=r0.1; rw [Zfr] at this; omega
 have hl1:l0.length=n1:=by have:=r1.1; rw [Zfr] at this; omega
 have:n1=n0:=by omega
 subst this
 apply Zgb.call
 simp only [beq_self_eq_true,Bool.not_true,Zay]
 refine Zgb.L4ind _ _ _ _ _ _ _ _ _ (J:=fun (k:Nat) x5 h'=>Zbb h.length h h'∧x5=(k:Int)∧k≤n1) (fun k=>n1 - k) ?_ 0 0 h ⟨Zbb.refl _ _,rfl,by omega⟩
 rintro k x5 h' ⟨hs,rfl,hk⟩ R hR
 unfold Zgb.L4t
 refine Zaj (fun hlt=>?_) (fun hge=>Zgb.A4x0i _ _ ⟨rfl,hs⟩)
 have hlt':k < n1:=by omega
 obtain ⟨i,o,hgl,rfl,_,hc0⟩:=(r0.same hs).pair hlt'
 obtain ⟨i',o',_,rfl,_,hc1⟩:=(r1.same hs).pair hlt'
 simp only [Zau,Int.toNat_natCast,hc0,hc1,Zas,Zak,Zar,Zap,true_and]
 refine ⟨⟨by omega,by omega⟩,⟨by omega,by omega⟩,Ydc.mono fun v h1 ⟨hv,hs1⟩=>?_⟩
 subst hv
 simp only [Zah,decide_true,Bool.and_self,Bool.not_true,Zay]
 rw [Zls hlt' (by omega)]
 exact hR (k + 1) _ _ (by omega) ⟨hs.trans (hs1.mono hs.le),rfl,by omega⟩

theorem Zzo {h:Zaa} {a:Pt} {n c:Nat} {e:Bool} {l:List (List Nat × List Nat)} (r:Row h.length h a (n * 2) (prs l)) (hn:n≤1048576) :
  Zad pg Zlm [.slice a n c e] h fun v h'=>∃ a' c' e',v=.slice a' n c' e'∧Zbb h.length h h'∧Zdc Zbl eP h.length h' a' n l∧n≤c'∧a'≠none:=by
 have hll:l.length=n:=by have:=r.1; rw [Zfr] at this; omega
 apply Zgv.call
 refine ⟨rfl,rfl,by omega,?_⟩
 simp only [Zba,Int.toNat_natCast,Yca]
 refine Zgv.L3ind _ _ _ _ _ _ _ _ _ (J:=fun (g:Nat) x4 h'=>x4=(g:Int)∧g≤n∧Zbb h.length h h'∧h'[h.length]?=some (.cells Zbl (prs (l.take g ++ List.replicate (n - g) ([],[]))) false)) (fun g=>n - g) ?_ 0 0 _ ⟨rfl,by omega,Zbb.app (Nat.le_refl _) _,by simp⟩
 rintro g x4 h' ⟨rfl,hg,hs,hi⟩ R hR
 unfold Zgv.L3t
 refine Zaj (fun hlt=>?_) (fun hge=>?_)
 ·have hlt':g < n:=by omega
  obtain ⟨i,o,hgl,rfl,hi',hc⟩:=(r.same hs).pair hlt'
  simp only [Zau,Int.toNat_natCast,hc,Zas,Zak,Zar,Zap]
  refine ⟨by omega,Zxy.mono fun v h1 ⟨hv,hs1⟩=>?_⟩
  subst hv
  have hi1:h1[h.length]?=some (.cells Zbl (prs (l.take g ++ List.replicate (n - g) ([],[]))) false):=by rw [hs1.eq _ (Own.lt hi)]; exact hi
  simp only [Zcw,Zak,Zar,Zap,Nat.zero_add]
  have hmin:min g l.length=g:=Nat.min_eq_left (by omega)
  rw [Zxu hi1 (by simp; omega)]
  simp only [Zaq]
  rw [Zls hlt' (by omega)]
  have hset:(l.take g ++ List.replicate (n - g) ([],[])).take g ++ [(l[g].1,l[g].2)] ++ (l.take g ++ List.replicate (n - g) (([]:List Nat),([]:List Nat))).drop (g + 1)=l.take (g + 1) ++ List.replicate (n - (g + 1)) ([],[]):=by
   have hl1:(l.take g).length=g:=by rw [List.length_take,hmin]
   rw [List.take_left' hl1,List.take_succ_eq_append_getElem hgl,List.drop_append,hl1,List.drop_of_length_le (by omega),List.nil_append,List.drop_replicate]
   congr 2; omega
  rw [hset]
  exact ⟨⟨by omega,by omega⟩,hR (g + 1) _ _ (by omega) ⟨rfl,by omega,(hs.trans (hs1.mono hs.le)).trans (Zbb.set (Nat.le_refl _) _),Zlo hi1⟩⟩
 ·have:g=n:=by omega
  subst this
  rw [List.take_of_length_le (by omega),Nat.sub_self,List.replicate_zero,List.append_nil] at hi
  exact Zgv.A3x0i _ _ _ _ _ _ ⟨_,_,_,rfl,hs,⟨hll,.inr ⟨h.length,rfl,Nat.le_refl _,hi⟩⟩,by simp,by simp⟩
end Go.Sim

set_option linter.unusedVariables false
set_option linter.unusedSimpArgs false
set_option maxRecDepth 20000
namespace Go.Sim
open Go Go.RowKit

def isz (i:Ins):Nat:=i.1.1.length + i.1.2.length + (i.2.length + Zyb i.2)
def Yev (l:List Ins):Nat:=(l.map isz).sum
def wsz (w:Wd):Nat:=w.cs.length + Zyb w.cs + (w.is.length + Yev w.is)
theorem Zxr {l:List Ins} {g:Nat} (h:g < l.length):Yev (l.take (g + 1))=Yev (l.take g) + isz l[g]:=by
 unfold Yev; rw [List.take_succ_eq_append_getElem h,List.map_append,List.sum_append]; simp
theorem Zya (l:List Ins) (g:Nat):Yev (l.take g)≤Yev l:=by
 conv=>rhs; rw [← List.take_append_drop g l]
 unfold Yev; rw [List.map_append,List.sum_append]; omega
theorem Yjh {l:List Ins} {g:Nat} (h:g < l.length):isz l[g]≤Yev l:=by
 have:=Zxr h; have:=Zya l (g + 1); omega
def Zsg (n:Nat):Prop:=n≤9223372036854775807
structure Yny (w:Wd):Prop where
 lc:Zsg w.cs.length
 li:Zsg w.is.length
 cs:∀ p∈w.cs,Zsg p.1.length∧Zsg p.2.length∧∀ b∈p.1,b < 256
 is:∀ i∈w.is,Zsg i.1.1.length∧Zsg i.1.2.length∧Zsg i.2.length∧∀ p∈i.2,Zsg p.1.length∧Zsg p.2.length
theorem WB.of {w:Wd} (b:Yny w) (h:wsz w≤1048576):WB w:=by
 have h1:∀ p∈w.cs,p.1.length + p.2.length≤Zyb w.cs:=fun p hp=>by
  obtain ⟨k,hk,rfl⟩:=List.mem_iff_getElem.1 hp; exact Ycq hk
 have h2:∀ i∈w.is,isz i≤Yev w.is:=fun p hp=>by
  obtain ⟨k,hk,rfl⟩:=List.mem_iff_getElem.1 hp; exact Yjh hk
 unfold wsz at h
 refine ⟨by omega,by omega,fun p hp=>⟨by have:=h1 p hp; omega,by have:=h1 p hp; omega,(b.cs p hp).2.2⟩,fun i hi=>?_⟩
 have:=h2 i hi
 unfold isz at this
 refine ⟨by omega,by omega,by omega,fun p hp=>?_⟩
 have h3:p.1.length + p.2.length≤Zyb i.2:=by obtain ⟨k,hk,rfl⟩:=List.mem_iff_getElem.1 hp; exact Ycq hk
 omega
theorem Zwf {h:Zaa} {a:Pt} {n cp:Nat} {e:Bool} {i:Ins} {x:Int} (r:Row h.length h a (n * 2) (Zdo eP i.2)) (hb:Zsg i.1.1.length∧Zsg i.1.2.length∧Zsg i.2.length∧∀ p∈i.2,Zsg p.1.length∧Zsg p.2.length) (hx:0≤x∧x≤1048576) :
  Zad pg Ziv [.agg [.str i.1.1,.str i.1.2,.slice a n cp e],.int .i64 x] h fun v h'=>∃ y,v=.int .i64 y∧Zbb h.length h h'∧(0≤y→(isz i:Int) + y=x):=by
 have hl:i.2.length=n:=by have:=r.1; rw [Zbg Zha] at this; omega
 apply Zmg.call
 simp only [Zba]
 have s1:Zbb h.length h (h ++ [.cells Zea [.str i.1.1,.str i.1.2,.slice a n cp e] false]):=Zav
 have hi:(h ++ [Zcp.cells Zea [.str i.1.1,.str i.1.2,.slice a n cp e] false])[h.length]?=some (.cells Zea [.str i.1.1,.str i.1.2,.slice a n cp e] false):=by simp
 simp only [Nat.add_zero]
 rw [Zfv hi (by simp)]
 simp only [List.drop_zero,List.take_succ_cons,List.take_zero,Zas,Zak,Zar,Zap]
 refine (Zxv hb.1 hb.2.1 hx).mono ?_
 rintro v h2 ⟨y,rfl,s2,hy⟩
 simp only [Zal]
 have i2:=s2.get hi (Own.lt hi)
 refine Zaj (fun hlt=>⟨_,rfl,s1.cat s2,by omega⟩) (fun hge=>?_)
 have hyy:=hy (by omega)
 simp only [Zan i2,Nat.zero_add,List.getElem?_cons_succ,List.getElem?_cons_zero,Zai]
 have hN:=hb.2.2.1
 unfold Zsg at hN
 refine (Yeh (r.same' (s1.cat s2)) (fun p hp=>hb.2.2.2 p hp) (by omega) (left:=y) (by omega)).mono ?_
 rintro v h3 ⟨z,rfl,s3,hz⟩
 simp only [Zal]
 refine Zaj (fun hlt=>⟨_,rfl,(s1.cat s2).cat s3,by omega⟩) (fun hge=>⟨_,rfl,(s1.cat s2).cat s3,fun h0=>?_⟩)
 have:=hz h0
 unfold isz; omega
theorem Zuo {h:Zaa} {a0 a:Pt} {n0 c0 n cp:Nat} {e:Bool} {w:Wd} {x:Int} (r:Zqk h a0 n0 c0 a n cp w) (hb:Yny w) (hx:0≤x∧x≤1048576) :
  Zad pg Zhz [.slice a n cp e,.int .i64 x] h fun v h'=>∃ y,v=.int .i64 y∧Zbb h.length h h'∧(0≤y→(w.is.length:Int) + Yev w.is + y=x):=by
 have hl:=r.len1
 have hbl:=hb.li
 unfold Zsg at hbl
 apply Zer.call
 rw [IntWalk.i64_in _ (by omega)]
 refine Zaj (fun hlt=>⟨_,rfl,Zbb.refl _ _,by omega⟩) (fun hge=>?_)
 refine Zer.L5ind _ _ _ _ _ (J:=fun (g:Nat) x1 x5 h'=>x5=(g:Int)∧Zbb h.length h h'∧g≤n∧0≤x1∧x1 + n + Yev (w.is.take g)=x) (fun g=>n - g) ?_ 0 _ 0 h ⟨rfl,Zbb.refl _ _,by omega,by omega,by simp [Yev]⟩
 rintro g x1 x5 h' ⟨rfl,hS,hg,h0,ht⟩ R hR
 unfold Zer.L5t
 refine Zaj (fun hlt=>?_) (fun hge=>?_)
 ·obtain ⟨i,o,hgl,a2,n2,c2,e2,rfl,_,hr,_,_,_,hrow,hn⟩:=(r.same hS).inst (k:=g) (by omega)
  simp only [Zau,Int.toNat_natCast,hr,Zas,Zak,Zar,Zap,Zai]
  refine ⟨by omega,(Zwf (i:=w.is[g]) hrow (hb.is _ (List.getElem_mem hgl)) (by omega)).mono ?_⟩
  rintro v h1 ⟨y,rfl,hs1,hy⟩
  simp only [Zal]
  have hS1:=hS.cat hs1
  refine Zaj (fun hneg=>⟨_,rfl,hS1,by omega⟩) (fun hneg=>?_)
  have hyy:=hy (by omega)
  rw [Zbp (by omega)]
  exact hR (g + 1) _ _ _ (by omega) ⟨rfl,hS1,by omega,by omega,by rw [Zxr hgl]; omega⟩
 ·have:g=n:=by omega
  subst this
  rw [List.take_of_length_le (by omega)] at ht
  exact Zer.A5x0i _ _ _ ⟨_,rfl,hS,by omega⟩
theorem Yde {h:Zaa} {a0 a1:Pt} {n0 c0 n1 c1:Nat} {e0 e1:Bool} {w:Wd} {x:Int} (r:Zqk h a0 n0 c0 a1 n1 c1 w) (hb:Yny w) (hx:0≤x∧x≤1048576) :
  Zad pg Zla [.agg [.slice a0 n0 c0 e0,.slice a1 n1 c1 e1],.int .i64 x] h fun v h'=>∃ y,v=.int .i64 y∧Zbb h.length h h'∧(0≤y→(wsz w:Int) + y=x):=by
 have hl0:=r.len0
 apply Zov.call
 simp only [Zba]
 have s1:Zbb h.length h (h ++ [.cells Zec [.slice a0 n0 c0 e0,.slice a1 n1 c1 e1] false]):=Zav
 have hi:(h ++ [Zcp.cells Zec [.slice a0 n0 c0 e0,.slice a1 n1 c1 e1] false])[h.length]?=some (.cells Zec [.slice a0 n0 c0 e0,.slice a1 n1 c1 e1] false):=by simp
 simp only [Zan hi,Nat.add_zero,List.getElem?_cons_zero,Zai]
 have hN:=hb.lc
 unfold Zsg at hN
 refine (Zze (r.cls.same' s1) (fun p hp=>⟨(hb.cs p hp).1,(hb.cs p hp).2.1⟩) (by omega) hx).mono ?_
 rintro v h2 ⟨y,rfl,s2,hy⟩
 simp only [Zal]
 have i2:=s2.get hi (Own.lt hi)
 refine Zaj (fun hlt=>⟨_,rfl,s1.cat s2,by omega⟩) (fun hge=>?_)
 have hyy:=hy (by omega)
 simp only [Zan i2,Nat.zero_add,List.getElem?_cons_succ,List.getElem?_cons_zero,Zai]
 refine (Zuo (r.same (s1.cat s2)) hb (x:=y) (by omega)).mono ?_
 rintro v h3 ⟨z,rfl,s3,hz⟩
 simp only [Zal]
 refine Zaj (fun hlt=>⟨_,rfl,(s1.cat s2).cat s3,by omega⟩) (fun hge=>⟨_,rfl,(s1.cat s2).cat s3,fun h0=>?_⟩)
 have:=hz h0
 unfold wsz; omega

theorem Yid {h:Zaa} {i:Nat} {t:TypeId} {x y z v:Zag} (hi:h[i]?=some (.cells t [x,y,z] false)):Zbd h (.ptr (some (i,2))) [v]=some (h.set i (.cells t [x,y,v] false)):=by
 rw [Zbk hi (by simp)]; rfl
theorem Yen {h:Zaa} {i:Nat} {t:TypeId} {x y z v u:Zag} (hi:h[i]?=some (.cells t [x,y,z] false)):Zbd h (.ptr (some (i,0))) [v,u]=some (h.set i (.cells t [v,u,z] false)):=by
 rw [Zbk hi (by simp)]; rfl
theorem Yda {h:Zaa} {i:Nat} {t:TypeId} {x y z a b c:Zag} (hi:h[i]?=some (.cells t [x,y,z] false)):Zbd h (.ptr (some (i,0))) [a,b,c]=some (h.set i (.cells t [a,b,c] false)):=by
 rw [Zbk hi (by simp)]; rfl
theorem Zws {h:Zaa} {i:Nat} {t:TypeId} {x y z:Zag} {ro:Bool} (hi:h[i]?=some (.cells t [x,y,z] ro)):Zbo h (.ptr (some (i,0))) 3=some [x,y,z]:=by
 rw [Zfv hi (by simp)]; rfl
theorem Ygg {h:Zaa} {i:Nat} {t:TypeId} {x y z:Zag} {ro:Bool} (hi:h[i]?=some (.cells t [x,y,z] ro)):Zbo h (.ptr (some (i,0))) 2=some [x,y]:=by
 rw [Zfv hi (by simp)]; rfl
theorem Zbb.set' {b i:Nat} {h h1:Zaa} {x:Zcp} (s:Zbb b h h1) (hi:b≤i):Zbb b h (h1.set i x):=⟨by simp; exact s.le,fun j hj=>by rw [Zbv (by omega)]; exact s.eq j hj⟩
theorem Zdc.keep {α:Type} {ty:TypeId} {enc:α→List Zag} {b b':Nat} {h h':Zaa} {a:Pt} {n:Nat} {l:List α} (f:Zdc ty enc b h a n l) (hb:b'≤b) (hk:∀ i,b≤i→i < h.length→h'[i]?=h[i]?):Zdc ty enc b' h' a n l:=
 ⟨f.1,f.2.imp id fun ⟨i,ha,hbi,hi⟩=>⟨i,ha,by omega,by rw [hk i hbi (Own.lt hi)]; exact hi⟩⟩
theorem Zwv {h:Zaa} {a:Pt} {n cp:Nat} {e:Bool} {i:Ins} (r:Row h.length h a (n * 2) (Zdo eP i.2)) (hn:n≤1048576) :
  Zad pg Ziu [.agg [.str i.1.1,.str i.1.2,.slice a n cp e]] h fun v h'=>∃ a' c' e',v=.agg [.str i.1.1,.str i.1.2,.slice a' n c' e']∧Zbb h.length h h'∧Zdc Zbl eP h.length h' a' n i.2∧a'≠none:=by
 apply Zmb.call
 simp only [Zba]
 generalize hh0:h ++ [Zcp.cells Zea [.str i.1.1,.str i.1.2,.slice a n cp e] false]=h0
 generalize hh1:h0 ++ [Zcp.cells Zac [.str [],.str [],.slice none 0 0 true] false]=h1
 generalize hh2:h1 ++ [Zcp.cells Zac [.str [],.str [],.slice none 0 0 true] false]=h2
 have s0:Zbb h.length h h0:=by rw [← hh0]; exact Zav
 have s1:Zbb h0.length h0 h1:=by rw [← hh1]; exact Zav
 have s2:Zbb h1.length h1 h2:=by rw [← hh2]; exact Zav
 have l0:h0.length=h.length + 1:=by rw [← hh0]; simp
 have l1:h1.length=h.length + 2:=by rw [← hh1]; simp [l0]
 have l2:h2.length=h.length + 3:=by rw [← hh2]; simp [l1]
 have x0:h0[h.length]?=some (.cells Zea [.str i.1.1,.str i.1.2,.slice a n cp e] false):=by rw [← hh0]; simp
 have y1:h1[h0.length]?=some (.cells Zac [.str [],.str [],.slice none 0 0 true] false):=by rw [← hh1]; simp
 have z2:h2[h1.length]?=some (.cells Zac [.str [],.str [],.slice none 0 0 true] false):=by rw [← hh2]; simp
 have x2:=s2.get (s1.get x0 (by omega)) (by omega)
 have y2:=s2.get y1 (by omega)
 have S2:=(s0.cat s1).cat s2
 simp only [Nat.add_zero,Nat.zero_add]
 rw [Ygg x2]
 simp only [Zas,Zak,Zar,Zap]
 refine Zxy.mono ?_
 rintro v h3 ⟨rfl,s3⟩
 simp only [Zcw,Zak,Zar,Zap]
 have z3:=s3.get z2 (by omega)
 have x3:=s3.get x2 (by omega)
 have y3:=s3.get y2 (by omega)
 have l3:=s3.le
 rw [Yen z3]
 simp only [Zaq]
 have x4:(h3.set h1.length (.cells Zac [.str i.1.1,.str i.1.2,.slice none 0 0 true] false))[h.length]?=some (.cells Zea [.str i.1.1,.str i.1.2,.slice a n cp e] false):=by rw [Zbv (by omega)]; exact x3
 have y4:(h3.set h1.length (.cells Zac [.str i.1.1,.str i.1.2,.slice none 0 0 true] false))[h0.length]?=some (.cells Zac [.str [],.str [],.slice none 0 0 true] false):=by rw [Zbv (by omega)]; exact y3
 have z4:(h3.set h1.length (.cells Zac [.str i.1.1,.str i.1.2,.slice none 0 0 true] false))[h1.length]?=some (.cells Zac [.str i.1.1,.str i.1.2,.slice none 0 0 true] false):=Zcc z3
 have S4:Zbb h.length h (h3.set h1.length (.cells Zac [.str i.1.1,.str i.1.2,.slice none 0 0 true] false)):=(S2.cat s3).set' (by omega)
 generalize hh4:h3.set h1.length (.cells Zac [.str i.1.1,.str i.1.2,.slice none 0 0 true] false)=h4 at *
 have l4:h4.length=h3.length:=by rw [← hh4]; simp
 simp only [Zan x4,List.getElem?_cons_succ,List.getElem?_cons_zero,Zai]
 refine (Zzo (r.same' S4) hn).mono ?_
 rintro v h5 ⟨a',c',e',rfl,s5,f5,hc5,hnn⟩
 simp only [Zai]
 have l5:=s5.le
 have y5:=s5.get y4 (by omega)
 have z5:=s5.get z4 (by omega)
 rw [Yid z5]
 simp only [Zaq]
 rw [Zws (Zcc z5)]
 simp only [Zas,Zak,Zar,Zap,Zai]
 have y6:(h5.set h1.length (.cells Zac [.str i.1.1,.str i.1.2,.slice a' n c' e'] false))[h0.length]?=some (.cells Zac [.str [],.str [],.slice none 0 0 true] false):=by rw [Zbv (by omega)]; exact y5
 rw [Yda y6]
 simp only [Zaq]
 rw [Zws (Zcc y6)]
 simp only [Zas,Zak,Zar,Zap,Zai]
 exact ⟨_,_,_,rfl,((S4.cat s5).set' (by omega)).set' (by omega),f5.keep (by omega) fun j hj _=>by rw [Zbv (by omega),Zbv (by omega)],hnn⟩
end Go.Sim

set_option linter.unusedVariables false
set_option linter.unusedSimpArgs false
set_option maxRecDepth 20000
namespace Go.Sim
open Go Go.RowKit

theorem Yjf {α:Type} {enc:α→List Zag} {w:Nat} (hw:∀ x,(enc x).length=w) {ys:List α} {y:α} {k n:Nat} {z:List Zag} (hk:ys.length=k) (hn:k < n) (hz:z.length=w) :
  Zbm (Zdo enc ys ++ reps (n - k) z) (k * w) (enc y)=Zdo enc (ys ++ [y]) ++ reps (n - (k + 1)) z:=by
 have h1:(Zdo enc ys).length=k * w:=by rw [Zbg hw,hk]
 have h2:reps (n - k) z=z ++ reps (n - (k + 1)) z:=by
  rw [show n - k=(n - (k + 1)) + 1 by omega]; simp [reps,List.replicate_succ]
 unfold Zbm
 rw [List.take_append_of_le_length (by omega),List.take_of_length_le (by omega),Zij,Zew,Yja,List.append_nil,hw,h2,List.append_assoc,List.append_assoc]
 congr 2
 rw [← h1,← hz,List.drop_append,List.drop_of_length_le (by omega)]
 simp
theorem Yip {α:Type} {enc:α→List Zag} {w:Nat} (hw:∀ x,(enc x).length=w) {ys:List α} {k n:Nat} {z:List Zag} (hk:ys.length=k) (hn:k≤n) (hz:z.length=w):(Zdo enc ys ++ reps (n - k) z).length=n * w:=by
 have h1:(reps (n - k) z).length=(n - k) * w:=by unfold reps; rw [List.length_flatten]; simp [hz]
 rw [List.length_append,Zbg hw,h1,hk,← Nat.add_mul]; congr 1; omega
theorem Zup {h:Zaa} {a0 a:Pt} {n0 c0 n cp:Nat} {e:Bool} {w:Wd} (r:Zqk h a0 n0 c0 a n cp w) (b:WB w) :
  Zad pg Zht [.slice a n cp e] h fun v h'=>∃ a' c' e' ys,v=.slice a' n c' e'∧n≤c'∧Zbb h.length h h'∧Zdc Zac eN h.length h' a' n ys∧ys.length=w.is.length ∧
   (∀ (k:Nat) (x:EI) (i:Ins),ys[k]?=some x→w.is[k]?=some i→x.c=i.1.1∧x.t=i.1.2∧Zdc Zbl eP h.length h' x.a x.n i.2) ∧
   (∀ (j k:Nat) (x y:EI),j≠k→ys[j]?=some x→ys[k]?=some y→x.n≠0→y.n≠0→x.a≠y.a)∧∀ x∈ys,x.a≠none:=by
 have hl:=r.len1
 have hli:=b.li
 apply Zep.call
 simp only [Zba,Int.toNat_natCast]
 refine ⟨by trivial,by trivial,⟨by omega,by omega,by omega⟩,?_⟩
 refine Zep.L3ind _ _ _ _ _ _ _ _ _ (J:=fun (g:Nat) x4 h'=>x4=(g:Int)∧g≤n∧Zbb h.length h h'∧∃ ys:List EI,ys.length=g∧h'[h.length]?=some (.cells Zac (Zdo eN ys ++ reps (n - g) [.str [],.str [],.slice none 0 0 true]) false) ∧
   (∀ (k:Nat) (x:EI) (i:Ins),ys[k]?=some x→w.is[k]?=some i→x.c=i.1.1∧x.t=i.1.2∧Zdc Zbl eP (h.length + 1) h' x.a x.n i.2) ∧
   (∀ (j k:Nat) (x y:EI),j≠k→ys[j]?=some x→ys[k]?=some y→x.n≠0→y.n≠0→x.a≠y.a)∧∀ x∈ys,x.a≠none) (fun g=>n - g) ?_ 0 _ _
  ⟨rfl,by omega,Zbb.app (Nat.le_refl _) _,[],rfl,by simp,by simp,by simp,by simp⟩
 rintro g x4 h' ⟨rfl,hg,hs,ys,hy,ho,hrep,hsep,hnn⟩ R hR
 unfold Zep.L3t
 refine Zaj (fun hlt=>?_) (fun hge=>?_)
 ·have hlt':g < n:=by omega
  obtain ⟨i,o,hgl,a2,n2,c2,e2,rfl,_,hr,_,_,_,hrow,hn⟩:=(r.same hs).inst (k:=g) (by omega)
  simp only [Zau,Int.toNat_natCast,hr,Zas,Zak,Zar,Zap,Zai]
  have hb:=b.is _ (List.getElem_mem hgl)
  refine ⟨by omega,(Zwv (i:=w.is[g]) hrow (by omega)).mono ?_⟩
  rintro v h1 ⟨a',c',e',rfl,s1,f1,hnn1⟩
  simp only [Zcw,Zak,Zar,Zap,Zai]
  have hol:=Own.lt ho
  have ho1:=s1.get ho hol
  have hlen:=Yip (enc:=eN) Ztx (ys:=ys) (k:=g) (n:=n) (z:=[.str [],.str [],.slice none 0 0 true]) hy hg rfl
  rw [Zbk ho1 (by rw [hlen]; simp; omega)]
  simp only [Zaq]
  have hput:=Yjf (enc:=eN) Ztx (ys:=ys) (y:=⟨w.is[g].1.1,w.is[g].1.2,a',n2,c',e'⟩) (k:=g) (n:=n) (z:=[.str [],.str [],.slice none 0 0 true]) hy hlt' rfl
  rw [Nat.zero_add,show ([.str w.is[g].1.1,.str w.is[g].1.2,.slice a' n2 c' e']:List Zag)=eN ⟨w.is[g].1.1,w.is[g].1.2,a',n2,c',e'⟩ from rfl,hput,Zbp (by omega)]
  refine ⟨by omega,hR (g + 1) _ _ (by omega) ⟨rfl,by omega,(hs.cat s1).set' (Nat.le_refl _),ys ++ [⟨w.is[g].1.1,w.is[g].1.2,a',n2,c',e'⟩],by simp [hy],Zcc ho1,?_,?_,fun x hx=>by
   rcases List.mem_append.1 hx with hx | hx
   ·exact hnn x hx
   ·rw [List.mem_singleton] at hx; subst hx; exact hnn1⟩⟩
  ·intro k x j hx hj
   by_cases hk:k < g
   ·rw [List.getElem?_append_left (by omega)] at hx
    obtain ⟨p1,p2,p3⟩:=hrep k x j hx hj
    refine ⟨p1,p2,p3.keep (Nat.le_refl _) fun q hq hq2=>?_⟩
    rw [Zbv (by omega)]; exact s1.eq q hq2
   ·have hkl:=(List.getElem?_eq_some_iff.1 hx).1
    simp [hy] at hkl
    have:k=g:=by omega
    subst this
    rw [List.getElem?_append_right (by omega),hy,Nat.sub_self] at hx
    simp at hx
    subst hx
    rw [List.getElem?_eq_getElem hgl] at hj
    cases hj
    exact ⟨rfl,rfl,f1.keep (by omega) fun q hq hq2=>by rw [Zbv (by omega)]⟩
  ·have old:∀ (j:Nat) (x:EI),ys[j]?=some x→x.n≠0→x.a≠a' ∨ n2=0:=by
    intro j x hx hn
    have hjl:=(List.getElem?_eq_some_iff.1 hx).1
    obtain ⟨_,_,_,p3⟩:=hrep j x (w.is[j]'(by omega)) hx (List.getElem?_eq_getElem (by omega))
    rcases p3 with h0 | ⟨q,hq,_,hq2⟩
    ·exact absurd h0 hn
    ·have:=Own.lt hq2
     rcases f1.2 with h0 | ⟨q',hq',hb',_⟩
     ·exact .inr h0
     ·refine .inl ?_
      rw [hq,hq']; intro e; cases e; omega
   intro j k x y hjk hx hy' hxn hyn
   by_cases hj:j < g <;> by_cases hk:k < g
   ·rw [List.getElem?_append_left (by omega)] at hx hy'
    exact hsep j k x y hjk hx hy' hxn hyn
   ·have hkl:=(List.getElem?_eq_some_iff.1 hy').1
    simp [hy] at hkl
    have:k=g:=by omega
    subst this
    rw [List.getElem?_append_right (by omega),hy,Nat.sub_self] at hy'
    simp at hy'
    subst hy'
    rw [List.getElem?_append_left (by omega)] at hx
    rcases old j x hx hxn with h1 | h1
    ·exact h1
    ·exact absurd h1 hyn
   ·have hkl:=(List.getElem?_eq_some_iff.1 hx).1
    simp [hy] at hkl
    have:j=g:=by omega
    subst this
    rw [List.getElem?_append_right (by omega),hy,Nat.sub_self] at hx
    simp at hx
    subst hx
    rw [List.getElem?_append_left (by omega)] at hy'
    rcases old k y hy' hyn with h1 | h1
    ·exact fun e=>h1 e.symm
    ·exact absurd h1 hxn
   ·have h1:=(List.getElem?_eq_some_iff.1 hx).1
    have h2:=(List.getElem?_eq_some_iff.1 hy').1
    simp [hy] at h1 h2
    omega
 ·have:g=n:=by omega
  subst this
  apply Zep.A3x0i
  simp [reps] at ho
  refine ⟨_,_,_,ys,rfl,Nat.le_refl _,hs,⟨hy,.inr ⟨h.length,rfl,Nat.le_refl _,ho⟩⟩,by omega,fun k x i hx hi=>?_,hsep,hnn⟩
  obtain ⟨p1,p2,p3⟩:=hrep k x i hx hi
  exact ⟨p1,p2,p3.keep (by omega) fun _ _ _=>rfl⟩
theorem Zyu {h:Zaa} {i:Nat} {t:TypeId} {x y v:Zag} (hi:h[i]?=some (.cells t [x,y] false)):Zbd h (.ptr (some (i,0))) [v]=some (h.set i (.cells t [v,y] false)):=by
 rw [Zbk hi (by simp)]; rfl
theorem Zwi {h:Zaa} {i:Nat} {t:TypeId} {x y v:Zag} (hi:h[i]?=some (.cells t [x,y] false)):Zbd h (.ptr (some (i,1))) [v]=some (h.set i (.cells t [x,v] false)):=by
 rw [Zbk hi (by simp)]; rfl
theorem Yeb {h:Zaa} {i:Nat} {t:TypeId} {x y a b:Zag} (hi:h[i]?=some (.cells t [x,y] false)):Zbd h (.ptr (some (i,0))) [a,b]=some (h.set i (.cells t [a,b] false)):=by
 rw [Zbk hi (by simp)]; rfl
theorem Zbr {h:Zaa} {i:Nat} {t:TypeId} {x y:Zag} {ro:Bool} (hi:h[i]?=some (.cells t [x,y] ro)):Zbo h (.ptr (some (i,0))) 2=some [x,y]:=by
 rw [Zfv hi (by simp)]; rfl
theorem Zoh {h:Zaa} {a0 a1:Pt} {n0 c0 n1 c1:Nat} {e0 e1:Bool} {w:Wd} (r:Zqk h a0 n0 c0 a1 n1 c1 w) (b:WB w) :
  Zad pg Zft [.agg [.slice a0 n0 c0 e0,.slice a1 n1 c1 e1]] h fun v h'=>∃ b0 d0 f0 b1 d1 f1 ys,v=.agg [.slice b0 n0 d0 f0,.slice b1 n1 d1 f1]∧n0≤d0∧n1≤d1∧Zbb h.length h h'∧Znf h.length h' b0 n0 b1 n1 ys w:=by
 have hl0:=r.len0
 have hlc:=b.lc
 apply Zou.call
 simp only [Zba]
 generalize hh0:h ++ [Zcp.cells Zec [.slice a0 n0 c0 e0,.slice a1 n1 c1 e1] false]=h0
 generalize hh1:h0 ++ [Zcp.cells Zao [.slice none 0 0 true,.slice none 0 0 true] false]=h1
 generalize hh2:h1 ++ [Zcp.cells Zao [.slice none 0 0 true,.slice none 0 0 true] false]=h2
 have s0:Zbb h.length h h0:=by rw [← hh0]; exact Zav
 have s1:Zbb h0.length h0 h1:=by rw [← hh1]; exact Zav
 have s2:Zbb h1.length h1 h2:=by rw [← hh2]; exact Zav
 have l0:h0.length=h.length + 1:=by rw [← hh0]; simp
 have l1:h1.length=h.length + 2:=by rw [← hh1]; simp [l0]
 have l2:h2.length=h.length + 3:=by rw [← hh2]; simp [l1]
 have x0:h0[h.length]?=some (.cells Zec [.slice a0 n0 c0 e0,.slice a1 n1 c1 e1] false):=by rw [← hh0]; simp
 have y1:h1[h0.length]?=some (.cells Zao [.slice none 0 0 true,.slice none 0 0 true] false):=by rw [← hh1]; simp
 have z2:h2[h1.length]?=some (.cells Zao [.slice none 0 0 true,.slice none 0 0 true] false):=by rw [← hh2]; simp
 have x2:=s2.get (s1.get x0 (by omega)) (by omega)
 have y2:=s2.get y1 (by omega)
 have S2:=(s0.cat s1).cat s2
 simp only [Nat.add_zero,Nat.zero_add,Zan x2,List.getElem?_cons_zero,Zai]
 refine (Zzh (r.cls.same' S2) (by omega)).mono ?_
 rintro v h3 ⟨b0,d0,f0,rfl,s3,g3,hd0,hb0⟩
 simp only [Zai]
 have z3:=s3.get z2 (by omega)
 have x3:=s3.get x2 (by omega)
 have y3:=s3.get y2 (by omega)
 have l3:=s3.le
 rw [Zyu z3]
 simp only [Zaq]
 have x4:(h3.set h1.length (.cells Zao [.slice b0 n0 d0 f0,.slice none 0 0 true] false))[h.length]?=some (.cells Zec [.slice a0 n0 c0 e0,.slice a1 n1 c1 e1] false):=by rw [Zbv (by omega)]; exact x3
 have y4:(h3.set h1.length (.cells Zao [.slice b0 n0 d0 f0,.slice none 0 0 true] false))[h0.length]?=some (.cells Zao [.slice none 0 0 true,.slice none 0 0 true] false):=by rw [Zbv (by omega)]; exact y3
 have z4:(h3.set h1.length (.cells Zao [.slice b0 n0 d0 f0,.slice none 0 0 true] false))[h1.length]?=some (.cells Zao [.slice b0 n0 d0 f0,.slice none 0 0 true] false):=Zcc z3
 have S4:Zbb h.length h (h3.set h1.length (.cells Zao [.slice b0 n0 d0 f0,.slice none 0 0 true] false)):=(S2.cat s3).set' (by omega)
 have g4:Zdc Zbh eP (h.length + 3) (h3.set h1.length (.cells Zao [.slice b0 n0 d0 f0,.slice none 0 0 true] false)) b0 n0 w.cs:=g3.keep (by omega) fun j hj _=>by rw [Zbv (by omega)]
 generalize hh4:h3.set h1.length (.cells Zao [.slice b0 n0 d0 f0,.slice none 0 0 true] false)=h4 at *
 have l4:h4.length=h3.length:=by rw [← hh4]; simp
 simp only [Zan x4,List.getElem?_cons_succ,List.getElem?_cons_zero,Zai]
 refine (Zup (r.same S4) b).mono ?_
 rintro v h5 ⟨b1,d1,f1,ys,rfl,hd1,s5,g5,hyl,hrep,hsep,hnn⟩
 simp only [Zai]
 have l5:=s5.le
 have y5:=s5.get y4 (by omega)
 have z5:=s5.get z4 (by omega)
 rw [Zwi z5]
 simp only [Zaq]
 rw [Zbr (Zcc z5)]
 simp only [Zas,Zak,Zar,Zai]
 have y6:(h5.set h1.length (.cells Zao [.slice b0 n0 d0 f0,.slice b1 n1 d1 f1] false))[h0.length]?=some (.cells Zao [.slice none 0 0 true,.slice none 0 0 true] false):=by rw [Zbv (by omega)]; exact y5
 rw [Yeb y6]
 simp only [Zaq]
 rw [Zbr (Zcc y6)]
 simp only [Zas,Zak,Zar,Zai]
 refine ⟨_,_,_,_,_,_,ys,rfl,hd0,hd1,((S4.cat s5).set' (by omega)).set' (by omega),?_⟩
 have kp:∀ j,h.length + 3≤j→j < h5.length→((h5.set h1.length (.cells Zao [.slice b0 n0 d0 f0,.slice b1 n1 d1 f1] false)).set h0.length (.cells Zao [.slice b0 n0 d0 f0,.slice b1 n1 d1 f1] false))[j]?=h5[j]?:=fun j hj _=>by rw [Zbv (by omega),Zbv (by omega)]
 exact ⟨(g4.same s5).keep (by omega) fun j hj hj2=>kp j hj hj2,g5.keep (by omega) fun j hj hj2=>kp j (by omega) hj2,hyl,fun k x i hx hi=>by
  obtain ⟨p1,p2,p3⟩:=hrep k x i hx hi
  exact ⟨p1,p2,p3.keep (by omega) fun j hj hj2=>kp j (by omega) hj2⟩,hsep,hnn,hb0⟩

theorem Zwh {h:Zaa} {a a':Pt} {n n' c c':Nat} {e e':Bool} {i:Ins} (r:Row h.length h a (n * 2) (Zdo eP i.2)) (r':Row h.length h a' (n' * 2) (Zdo eP i.2)) (hn:n≤1048576) :
  Zad pg Zik [.agg [.str i.1.1,.str i.1.2,.slice a n c e],.agg [.str i.1.1,.str i.1.2,.slice a' n' c' e']] h fun v h'=>v=.bool true∧Zbb h.length h h':=by
 apply Zlz.call
 simp only [Zba]
 generalize hh0:h ++ [Zcp.cells Zac [.str i.1.1,.str i.1.2,.slice a n c e] false]=h0
 generalize hh1:h0 ++ [Zcp.cells Zac [.str i.1.1,.str i.1.2,.slice a' n' c' e'] false]=h1
 have s0:Zbb h.length h h0:=by rw [← hh0]; exact Zav
 have s1:Zbb h0.length h0 h1:=by rw [← hh1]; exact Zav
 have x0:h0[h.length]?=some (.cells Zac [.str i.1.1,.str i.1.2,.slice a n c e] false):=by rw [← hh0]; simp
 have y1:h1[h0.length]?=some (.cells Zac [.str i.1.1,.str i.1.2,.slice a' n' c' e'] false):=by rw [← hh1]; simp
 have x1:=s1.get x0 (Own.lt x0)
 simp only [Nat.add_zero,Nat.zero_add]
 rw [Ygg x1,Ygg y1]
 simp only [Zas,Zak,Zar,Zap]
 refine Zyx.mono ?_
 rintro v h2 ⟨rfl,s2⟩
 simp only [Zah,decide_true,Bool.and_self,Bool.not_true,Zay]
 simp only [Zan (s2.get x1 (Own.lt x1)),Zan (s2.get y1 (Own.lt y1)),List.getElem?_cons_succ,List.getElem?_cons_zero,Zai]
 have S2:=(s0.cat s1).cat s2
 refine (Ydk (r.same' S2) (r'.same' S2) (by omega) rfl).mono ?_
 rintro v h3 ⟨rfl,s3⟩
 simp only [Zah,Bool.not_true,Zay]
 exact ⟨by trivial,S2.cat s3⟩
theorem Zur {h:Zaa} {a a' x x':Pt} {n n' c c' m m' d d':Nat} {e e':Bool} {w:Wd} (r:Zqk h x m d a n c w) (r':Zqk h x' m' d' a' n' c' w) (b:WB w) :
  Zad pg Zib [.slice a n c e,.slice a' n' c' e'] h fun v h'=>v=.bool true∧Zbb h.length h h':=by
 have hl:=r.len1
 have hl':=r'.len1
 have hli:=b.li
 have:n'=n:=by omega
 subst this
 apply Zes.call
 simp only [beq_self_eq_true,Bool.not_true,Zay]
 refine Zes.L4ind _ _ _ _ _ _ _ _ _ (J:=fun (k:Nat) x5 h'=>Zbb h.length h h'∧x5=(k:Int)∧k≤n') (fun k=>n' - k) ?_ 0 0 h ⟨Zbb.refl _ _,rfl,by omega⟩
 rintro k x5 h' ⟨hs,rfl,hk⟩ R hR
 unfold Zes.L4t
 refine Zaj (fun hlt=>?_) (fun hge=>Zes.A4x0i _ _ ⟨rfl,hs⟩)
 obtain ⟨i,o,hgl,a2,n2,c2,e2,rfl,_,hr,_,_,_,hrow,hn⟩:=(r.same hs).inst (k:=k) (by omega)
 obtain ⟨i',o',hgl',a2',n2',c2',e2',rfl,_,hr',_,_,_,hrow',hn'⟩:=(r'.same hs).inst (k:=k) (by omega)
 have hb:=b.is _ (List.getElem_mem hgl)
 simp only [Zau,Int.toNat_natCast,hr,hr',Zas,Zak,Zar,Zap,Zai,true_and]
 refine ⟨⟨by omega,by omega⟩,⟨by omega,by omega⟩,(Zwh (i:=w.is[k]) hrow hrow' (by omega)).mono ?_⟩
 rintro v h1 ⟨rfl,s1⟩
 simp only [Zah,Bool.not_true,Zay]
 rw [Zbp (by omega)]
 exact hR (k + 1) _ _ (by omega) ⟨hs.cat s1,rfl,by omega⟩
theorem Yer {h:Zaa} {a0 a1 b0 b1:Pt} {n0 c0 n1 c1 m0 d0 m1 d1:Nat} {e0 e1 f0 f1:Bool} {w:Wd} (r:Zqk h a0 n0 c0 a1 n1 c1 w) (r':Zqk h b0 m0 d0 b1 m1 d1 w) (b:WB w) :
  Zad pg Zll [.agg [.slice a0 n0 c0 e0,.slice a1 n1 c1 e1],.agg [.slice b0 m0 d0 f0,.slice b1 m1 d1 f1]] h fun v h'=>v=.bool true∧Zbb h.length h h':=by
 have hl:=r.len0
 have hlc:=b.lc
 apply Zom.call
 simp only [Zba]
 generalize hh0:h ++ [Zcp.cells Zao [.slice a0 n0 c0 e0,.slice a1 n1 c1 e1] false]=h0
 generalize hh1:h0 ++ [Zcp.cells Zao [.slice b0 m0 d0 f0,.slice b1 m1 d1 f1] false]=h1
 have s0:Zbb h.length h h0:=by rw [← hh0]; exact Zav
 have s1:Zbb h0.length h0 h1:=by rw [← hh1]; exact Zav
 have x0:h0[h.length]?=some (.cells Zao [.slice a0 n0 c0 e0,.slice a1 n1 c1 e1] false):=by rw [← hh0]; simp
 have y1:h1[h0.length]?=some (.cells Zao [.slice b0 m0 d0 f0,.slice b1 m1 d1 f1] false):=by rw [← hh1]; simp
 have x1:=s1.get x0 (Own.lt x0)
 simp only [Nat.add_zero,Nat.zero_add,Zan x1,Zan y1,List.getElem?_cons_zero,Zai]
 have S1:=s0.cat s1
 refine (Zyj (r.cls.same' S1) (r'.cls.same' S1) (by omega) rfl).mono ?_
 rintro v h2 ⟨rfl,s2⟩
 simp only [Zah,Bool.not_true,Zay,Zan (s2.get x1 (Own.lt x1)),Zan (s2.get y1 (Own.lt y1)),List.getElem?_cons_succ,List.getElem?_cons_zero,Zai]
 refine (Zur (r.same (S1.cat s2)) (r'.same (S1.cat s2)) b).mono ?_
 rintro v h3 ⟨rfl,s3⟩
 simp only [Zah,Bool.not_true,Zay]
 exact ⟨by trivial,(S1.cat s2).cat s3⟩
end Go.Sim

set_option linter.unusedVariables false
set_option linter.unusedSimpArgs false
set_option maxRecDepth 20000
namespace Go.Sim
open Go Go.RowKit

theorem Zei.same {S:Nat→Prop} {h h':Zaa} (s:Zbb h.length h h'):∀ {t:Ty} {v:List Zag},Zei S h t v→Zei S h' t v
 | .k d,_,h=>h
 | .u d x,_,⟨j,c,e,r,hv,sj,hj,hr⟩=>⟨j,c,e,r,hv,sj,s.get hj (Own.lt hj),hr.same s⟩
 | .w d x y,_,⟨j,c,e,r,r',hv,sj,hj,hr,hr'⟩=>⟨j,c,e,r,r',hv,sj,s.get hj (Own.lt hj),hr.same s,hr'.same s⟩
end Go.Sim

set_option linter.unusedVariables false
set_option linter.unusedSimpArgs false
set_option maxRecDepth 20000
namespace Go.Sim
open Go Go.RowKit

theorem Vec.lt' {ty:TypeId} {h:Zaa} {a:Pt} {i n c:Nat} {cs:List Zag} (x:Vec ty h a n c cs) (e:a=some (i,0)):i < h.length:=by subst e; exact x.lt
theorem Zpm.keep {S:Nat→Prop} {h h':Zaa} (hh:∀ j,S j→j < h.length→h'[j]?=h[j]?):∀ {t:Ty} {p:Pt},Zpm S h t p→Zpm S h' t p
 | .k d,p,⟨i,a,c,e,hp,si,hi⟩=>⟨i,a,c,e,hp,si,by rw [hh i si (Own.lt hi)]; exact hi⟩
 | .u d x,p,⟨i,j,c,e,q,hp,si,hi,sj,hj,hq⟩=>⟨i,j,c,e,q,hp,si,by rw [hh i si (Own.lt hi)]; exact hi,sj,by rw [hh j sj (Own.lt hj)]; exact hj,hq.keep hh⟩
 | .w d x y,p,⟨i,j,c,e,q,r,hp,si,hi,sj,hj,hq,hr⟩=>⟨i,j,c,e,q,r,hp,si,by rw [hh i si (Own.lt hi)]; exact hi,sj,by rw [hh j sj (Own.lt hj)]; exact hj,hq.keep hh,hr.keep hh⟩
theorem Zpm.same {S:Nat→Prop} {h h':Zaa} {t:Ty} {p:Pt} (r:Zpm S h t p) (s:Zbb h.length h h'):Zpm S h' t p:=r.keep fun j _ hj=>s.eq j hj
theorem Zei.keep {S:Nat→Prop} {h h':Zaa} (hh:∀ j,S j→j < h.length→h'[j]?=h[j]?):∀ {t:Ty} {v:List Zag},Zei S h t v→Zei S h' t v
 | .k d,_,h=>h
 | .u d x,_,⟨j,c,e,r,hv,sj,hj,hr⟩=>⟨j,c,e,r,hv,sj,by rw [hh j sj (Own.lt hj)]; exact hj,hr.keep hh⟩
 | .w d x y,_,⟨j,c,e,r,r',hv,sj,hj,hr,hr'⟩=>⟨j,c,e,r,r',hv,sj,by rw [hh j sj (Own.lt hj)]; exact hj,hr.keep hh,hr'.keep hh⟩
theorem Ty.size_part {t x:Ty} (h:x∈t.ps):x.size < t.size:=by
 cases t with
 | k c=>simp [Ty.ps] at h
 | u c a=>simp [Ty.ps] at h; subst h; simp [Ty.size]
 | w c a b=>simp [Ty.ps] at h; rcases h with rfl | rfl <;> simp [Ty.size] <;> omega
theorem Zei.get {S:Nat→Prop} {h:Zaa} {t:Ty} {a:Pt} {vs:List (List Zag)} (hrow:Row h.length h a (t.ps.length * 2) vs.flatten) (hvl:vs.length=t.ps.length) (hp:∀ (k:Nat) (w:List Zag) (x:Ty),vs[k]?=some w→t.ps[k]?=some x→Zei S h x w) {g:Nat} (hg':g < t.ps.length) :
  ∃ i o a2 c2 e2,a=some (i,o)∧Zbo h (.ptr (some (i,o + g * 2))) 2=some [.int .u8 (t.ps[g].hd:Int),.slice a2 t.ps[g].ps.length c2 e2]∧Zei S h t.ps[g] [.int .u8 (t.ps[g].hd:Int),.slice a2 t.ps[g].ps.length c2 e2]:=by
 have hgv:g < vs.length:=by omega
 have hk:=hp g vs[g] t.ps[g] (List.getElem?_eq_getElem hgv) (List.getElem?_eq_getElem hg')
 have hz:∀ v∈vs,v.length=2:=fun v hv=>by
  obtain ⟨k,hk,rfl⟩:=List.mem_iff_getElem.1 hv
  exact (hp k vs[k] (t.ps[k]'(by omega)) (List.getElem?_eq_getElem hk) (List.getElem?_eq_getElem (by omega))).len
 have hfl:vs.flatten=Zdo (fun (v:{v:List Zag // v.length=2})=>v.1) (vs.attach.map fun v=>⟨v.1,hz v.1 v.2⟩):=by
  unfold Zdo; rw [List.flatMap_map]; simp
 rw [hfl] at hrow
 obtain ⟨i,o,hk',ha,_,hr,_⟩:=Row.el (enc:=fun (v:{v:List Zag // v.length=2})=>v.1) (fun x=>x.2) hrow (by simp [hvl]) (k:=g) hg' (by omega)
 obtain ⟨a2,c2,e2,hv2⟩:=hk.shape
 rw [hv2] at hk
 exact ⟨i,o,a2,c2,e2,ha,by rw [hr]; simp [hv2],hk⟩
end Go.Sim

set_option linter.unusedVariables false
namespace Go.Sim
open Go Go.RowKit Go.Maps Go.Sort Go.Shelf Go.Proofs
end Go.Sim

set_option linter.unusedSimpArgs false
set_option linter.unusedVariables false
namespace Go.Sim

abbrev Bd:=List (Nat × Ty)
def Zsf:Bd→Nat→Option Ty
 | [],_=>none
 | (v,t) :: m,x=>if v=x then some t else Zsf m x
def Yle (m:Bd) (v:Nat) (t:Ty):Option Bd:=match Zsf m v with | some t'=>if t'=t then some m else none | none=>some (m ++ [(v,t)])
def matchT:Bd→Ty→Ty→Option Bd
 | m,.k c,t=>if Zbc c then Yle m c t else if c=t.hd then some m else none
 | m,.u c a,t=>if c=t.hd then (match t.ps with | [x]=>matchT m a x | _=>none) else none
 | m,.w c a b,t=>if c=t.hd then (match t.ps with | [x,y]=>(match matchT m a x with | some m1=>matchT m1 b y | none=>none) | _=>none) else none
structure BOk (n:Nat) (m:Bd):Prop where
 var:∀ p∈m,Zbc p.1=true∧p.2.ok=true∧p.2.txt.length≤n
 nd:(m.map (·.1)).Nodup
theorem Zzc:∀ {m:Bd} {v:Nat},Zsf m v=none ↔ v ∉ m.map (·.1)
 | [],v=>by simp [Zsf]
 | (w,u) :: m,v=>by
  simp only [Zsf]
  by_cases e:w=v
  ·simp [e]
  ·simp only [e,if_false,Zzc (m:=m),List.map_cons,List.mem_cons,not_or]
   exact ⟨fun h=>⟨fun e'=>e e'.symm,h⟩,fun h=>h.2⟩
theorem Yck {m:Bd} {v x:Nat} {t:Ty}:Zsf (m ++ [(v,t)]) x=match Zsf m x with | some u=>some u | none=>if v=x then some t else none:=by
 induction m with
 | nil=>simp [Zsf]
 | cons p m ih=>
  obtain ⟨w,u⟩:=p
  simp only [List.cons_append,Zsf,ih]
  split <;> rfl
theorem BOk.nil {n:Nat}:BOk n []:=⟨by simp,by simp⟩
theorem BOk.note {n:Nat} {m m':Bd} {v:Nat} {t:Ty} (b:BOk n m) (hv:Zbc v=true) (ht:t.ok=true) (hn:t.txt.length≤n) (h:Yle m v t=some m'):BOk n m':=by
 unfold Yle at h
 split at h
 ·split at h
  ·cases h; exact b
  ·cases h
 ·rename_i hg
  cases h
  refine ⟨?_,?_⟩
  ·intro p hp
   rcases List.mem_append.1 hp with hp | hp
   ·exact b.var p hp
   ·simp at hp; subst hp; exact ⟨hv,ht,hn⟩
  ·rw [List.map_append,List.nodup_append]
   refine ⟨b.nd,by simp,?_⟩
   intro x hx y hy e
   simp at hy; subst hy; subst e
   exact Zzc.1 hg hx
theorem Zwr {t x:Ty} (h:x∈t.ps):x.txt.length≤t.txt.length:=by
 cases t with
 | k c=>simp [Ty.ps] at h
 | u c a=>simp [Ty.ps] at h; subst h; simp [Ty.txt]; omega
 | w c a b=>simp [Ty.ps] at h; rcases h with rfl | rfl <;> simp [Ty.txt] <;> omega
theorem BOk.matchT {n:Nat}:∀ {a t:Ty} {m m':Bd},a.ok=true→t.ok=true→t.txt.length≤n→BOk n m→Go.Sim.matchT m a t=some m'→BOk n m'
 | .k c,t,m,m',ha,ht,hn,b,h=>by
  simp only [Go.Sim.matchT] at h
  split at h
  ·rename_i hv; exact b.note hv ht hn h
  ·split at h
   ·cases h; exact b
   ·cases h
 | .u c a,t,m,m',ha,ht,hn,b,h=>by
  simp only [Ty.ok,Bool.and_eq_true] at ha
  simp only [Go.Sim.matchT] at h
  split at h
  ·split at h
   ·rename_i x hx
    have hm:x∈t.ps:=by rw [hx]; simp
    exact BOk.matchT ha.2 (Ty.ok_ps ht x hm) (Nat.le_trans (Zwr hm) hn) b h
   ·cases h
  ·cases h
 | .w c a a2,t,m,m',ha,ht,hn,b,h=>by
  simp only [Ty.ok,Bool.and_eq_true] at ha
  simp only [Go.Sim.matchT] at h
  split at h
  ·split at h
   ·rename_i x y hx
    have hm:x∈t.ps:=by rw [hx]; simp
    have hm2:y∈t.ps:=by rw [hx]; simp
    split at h
    ·rename_i m1 h1
     exact BOk.matchT ha.2 (Ty.ok_ps ht y hm2) (Nat.le_trans (Zwr hm2) hn) (BOk.matchT ha.1.2 (Ty.ok_ps ht x hm) (Nat.le_trans (Zwr hm) hn) b h1) h
    ·cases h
   ·cases h
  ·cases h
def bdL (m:Bd):List Nd:=Zgw.filterMap fun v=>(Zsf m v).map fun t=>([v],t.txt)
noncomputable def Ykh (p s:List Nat):Option Bd:=match Zjb p,Zjb s with | some a,some b=>matchT [] a b | _,_=>none
noncomputable def Yoc (p s:List Nat):Bool:=(Ykh p s).isSome
theorem Zzp:Zgw.Nodup:=by decide
end Go.Sim

set_option linter.unusedVariables false
set_option linter.unusedSimpArgs false
set_option maxRecDepth 20000
namespace Go.Sim
open Go Go.RowKit

def Ynw (h:Zaa) (i:Nat) (m:Bd):Prop:=∃ es clk,h[i]?=some (.map es clk)∧es.map (·.1)=m.map (fun p=>Zag.str [p.1])∧es.map (·.2.1)=m.map (fun p=>Zag.str p.2.txt)∧(es.map (·.2.2)).Nodup∧∀ e∈es,e.2.2 < clk
theorem Ynw.eq {h h':Zaa} {i:Nat} {m:Bd} (r:Ynw h i m) (he:h'[i]?=h[i]?):Ynw h' i m:=by
 obtain ⟨es,clk,h1,x⟩:=r
 exact ⟨es,clk,by rw [he]; exact h1,x⟩
theorem Ynw.lt {h:Zaa} {i:Nat} {m:Bd} (r:Ynw h i m):i < h.length:=by obtain ⟨es,clk,h1,_⟩:=r; exact Own.lt h1
theorem Zub {α:Type} {f:α→α} {e:α}:∀ {l:List α} {j:Nat},l[j]?=some e→f e=e→l.modify j f=l
 | [],j,h,_=>by simp at h
 | a :: l,0,h,hf=>by simp at h; subst h; simp [hf]
 | a :: l,j + 1,h,hf=>by simp at h; simp [Zub h hf]
theorem Zus (c:Nat):Zoo [c]=Zbc c:=rfl
theorem Row.keepAt {i:Nat} {h h':Zaa} {a:Pt} {n:Nat} {cs:List Zag} (r:Row h.length h a n cs) (hne:∀ j o,n≠0→a=some (j,o)→j≠i) (k:Zif i h h'):Row h'.length h' a n cs:=by
 obtain ⟨hl,r⟩:=r
 by_cases h0:n=0
 ·exact ⟨hl,.inl h0⟩
 ·refine ⟨hl,r.imp id ?_⟩
  rintro ⟨j,o',t,all,ro,ha,hi,hg,x⟩
  have:=k.le
  exact ⟨j,o',t,all,ro,ha,by omega,by rw [k.eq j hi (hne j o' h0 ha)]; exact hg,x⟩
end Go.Sim

set_option linter.unusedVariables false
set_option linter.unusedSimpArgs false
set_option maxRecDepth 20000
namespace Go.Sim
open Go Go.RowKit

end Go.Sim

set_option linter.unusedVariables false
set_option linter.unusedSimpArgs false
set_option maxRecDepth 20000
namespace Go.Sim
open Go Go.RowKit

def Zfb:List Nat:=[88,89,90,120,121,122,49,50,51,52,53,54]
theorem Ygp {v:Nat} (hv:Zbc v=true):∃ k:Nat,k < 6∧Zgw[k]?=some v∧Zno Zfb v=(k:Int):=by
 have:=(Yhv v).2 hv
 simp only [Zgw,List.mem_cons,List.not_mem_nil,or_false] at this
 rcases this with rfl | rfl | rfl | rfl | rfl | rfl
 ·exact ⟨0,by omega,rfl,rfl⟩
 ·exact ⟨1,by omega,rfl,rfl⟩
 ·exact ⟨2,by omega,rfl,rfl⟩
 ·exact ⟨3,by omega,rfl,rfl⟩
 ·exact ⟨4,by omega,rfl,rfl⟩
 ·exact ⟨5,by omega,rfl,rfl⟩
theorem Yfn {t:Ty} (h:t.ok=true):t.hd∈[105,98,117,108,109,112,120,121,122,88,89,90]:=by
 have:=Ty.ok_ar h
 unfold arN Zfi Zbc at this
 simp only [Bool.or_eq_true,beq_iff_eq] at this
 simp only [List.mem_cons,List.not_mem_nil,or_false]
 split at this
 ·omega
 ·split at this
  ·omega
  ·split at this
   ·omega
   ·omega
theorem Yfd {t:Ty} (h:t.ok=true) (hv:Zbc t.hd=false):Zno Zfb t.hd=-1:=by
 apply Zqq
 have:=Yfn h
 simp only [List.mem_cons,List.not_mem_nil,or_false] at this
 rcases this with e | e | e | e | e | e | e | e | e | e | e | e <;> rw [e] at hv ⊢ <;> first | (exact absurd hv (by decide)) | decide
theorem Zly {h:Zaa} (c:Nat):Zad pg Zeu [.int .u8 (c:Int)] h fun v h'=>v=.int .i64 (Zno Zfb c)∧h'=h:=by
 apply Zol.call
 refine (Zvu Zfb c (by decide)).mono ?_
 rintro v h1 ⟨rfl,rfl⟩
 simp only [Zal]
 exact ⟨by trivial,by trivial⟩
def eR (x:Zag × Zag):List Zag:=[x.1,x.2]
theorem Zjn (x:Zag × Zag):(eR x).length=2:=rfl
theorem Zwt {α:Type} {enc:α→List Zag} {w:Nat} (hw:∀ x,(enc x).length=w):∀ {l:List α} {k:Nat} {x:α},k < l.length→Zbm (Zdo enc l) (k * w) (enc x)=Zdo enc (l.set k x)
 | [],k,x,h=>by simp at h
 | y :: l,0,x,_=>by
  simp only [Nat.zero_mul,Zew,List.set_cons_zero,Zbm,List.take_zero,List.nil_append,Nat.zero_add,hw]
  rw [← hw y,List.drop_left]
 | y :: l,k + 1,x,h=>by
  have ih:=Zwt hw (l:=l) (k:=k) (x:=x) (by simpa using h)
  unfold Zbm at ih ⊢
  simp only [Zew,List.set_cons_succ]
  rw [← ih,Nat.succ_mul,Nat.add_comm (k * w) w,← hw y,List.take_length_add_append,Nat.add_assoc,List.drop_length_add_append]; simp only [List.append_assoc]
def Ztz (S:Nat→Prop) (h:Zaa) (i:Nat) (m:Bd):Prop:=∃ rows:List (Zag × Zag),rows.length=12∧h[i]?=some (.cells Zdb (Zdo eR rows) false) ∧
 ∀ (k:Nat) (x:Zag × Zag),rows[k]?=some x→match (Zgw[k]?).bind (Zsf m) with | some t=>Zei S h t (eR x) | none=>x=(.int .u8 0,.slice none 0 0 true)
theorem Ztz.keep {S:Nat→Prop} {h h':Zaa} {i:Nat} {m:Bd} (r:Ztz S h i m) (hi:h'[i]?=h[i]?) (hh:∀ j,S j→j < h.length→h'[j]?=h[j]?):Ztz S h' i m:=by
 obtain ⟨rows,h1,h2,h3⟩:=r
 refine ⟨rows,h1,by rw [hi]; exact h2,fun k x hx=>?_⟩
 have:=h3 k x hx
 split at this
 ·exact this.keep hh
 ·exact this
theorem Ztz.same {S:Nat→Prop} {h h':Zaa} {i:Nat} {m:Bd} (r:Ztz S h i m) (s:Zbb h.length h h'):Ztz S h' i m:=by
 have hl:i < h.length:=by obtain ⟨_,_,h2,_⟩:=r; exact Own.lt h2
 exact r.keep (s.eq i hl) fun j _ hj=>s.eq j hj
theorem Ztz.lt {S:Nat→Prop} {h:Zaa} {i:Nat} {m:Bd} (r:Ztz S h i m):i < h.length:=by obtain ⟨_,_,h2,_⟩:=r; exact Own.lt h2
theorem Ztz.nil {S:Nat→Prop} {h:Zaa} {i:Nat} (hi:h[i]?=some (.cells Zdb (Zdo eR (List.replicate 12 (.int .u8 0,.slice none 0 0 true))) false)):Ztz S h i []:=by
 refine ⟨_,by simp,hi,fun k x hx=>?_⟩
 have:(Zgw[k]?).bind (Zsf [])=none:=by cases Zgw[k]? <;> rfl
 rw [this]
 rw [List.getElem?_replicate] at hx
 split at hx
 ·cases hx; rfl
 ·cases hx
theorem Ztz.get {S:Nat→Prop} {h:Zaa} {i:Nat} {m:Bd} (r:Ztz S h i m) {k:Nat} (hk:k < 12):∃ x:Zag × Zag,Zaf h (.ptr (some (i,0 + k * 2 + 0)))=some x.1∧Zbo h (.ptr (some (i,0 + k * 2))) 2=some [x.1,x.2] ∧
  match (Zgw[k]?).bind (Zsf m) with | some t=>Zei S h t [x.1,x.2] | none=>x=(.int .u8 0,.slice none 0 0 true):=by
 obtain ⟨rows,h1,h2,h3⟩:=r
 have hrow:Row h.length h (some (i,0)) (12 * 2) (Zdo eR rows):=⟨by rw [Zbg Zjn,h1],.inr ⟨i,0,_,_,_,rfl,Own.lt h2,h2,by rw [Zbg Zjn,h1]; simp,by rw [List.drop_zero,List.take_of_length_le (by rw [Zbg Zjn,h1]; simp)]⟩⟩
 obtain ⟨i',o',hk',he,_,hr,hc⟩:=Row.el Zjn hrow h1 hk (by omega)
 cases he
 exact ⟨rows[k],by have:=hc 0 (by omega); simpa [eR] using this,hr,h3 k _ (List.getElem?_eq_getElem hk')⟩
def Yko (S:Nat→Prop) (h:Zaa) (i:Nat) (m:Bd):Prop:=∃ rows:List (Zag × Zag),rows.length=12∧h[i]?=some (.cells Zdb (Zdo eR rows) false) ∧
 ∀ (k:Nat) (x:Zag × Zag),k < 6→rows[k]?=some x→match (Zgw[k]?).bind (Zsf m) with | some t=>Zei S h t (eR x) | none=>x=(.int .u8 0,.slice none 0 0 true)
theorem Ztz.w {S:Nat→Prop} {h:Zaa} {i:Nat} {m:Bd} (r:Ztz S h i m):Yko S h i m:=by
 obtain ⟨rows,h1,h2,h3⟩:=r
 exact ⟨rows,h1,h2,fun k x _ hx=>h3 k x hx⟩
theorem Yko.lt {S:Nat→Prop} {h:Zaa} {i:Nat} {m:Bd} (r:Yko S h i m):i < h.length:=by obtain ⟨_,_,h2,_⟩:=r; exact Own.lt h2
theorem Yko.same {S:Nat→Prop} {h h':Zaa} {i:Nat} {m:Bd} (r:Yko S h i m) (s:Zbb h.length h h'):Yko S h' i m:=by
 obtain ⟨rows,h1,h2,h3⟩:=r
 refine ⟨rows,h1,by rw [s.eq i (Own.lt h2)]; exact h2,fun k x hk hx=>?_⟩
 have:=h3 k x hk hx
 split at this
 ·exact this.keep fun j _ hj=>s.eq j hj
 ·exact this
theorem Yko.get {S:Nat→Prop} {h:Zaa} {i:Nat} {m:Bd} (r:Yko S h i m) {k:Nat} (hk:k < 6):∃ x:Zag × Zag,Zaf h (.ptr (some (i,0 + k * 2 + 0)))=some x.1∧Zbo h (.ptr (some (i,0 + k * 2))) 2=some [x.1,x.2] ∧
  match (Zgw[k]?).bind (Zsf m) with | some t=>Zei S h t [x.1,x.2] | none=>x=(.int .u8 0,.slice none 0 0 true):=by
 obtain ⟨rows,h1,h2,h3⟩:=r
 have hrow:Row h.length h (some (i,0)) (12 * 2) (Zdo eR rows):=⟨by rw [Zbg Zjn,h1],.inr ⟨i,0,_,_,_,rfl,Own.lt h2,h2,by rw [Zbg Zjn,h1]; simp,by rw [List.drop_zero,List.take_of_length_le (by rw [Zbg Zjn,h1]; simp)]⟩⟩
 obtain ⟨i',o',hk',he,_,hr,hc⟩:=Row.el Zjn hrow h1 (show k < 12 by omega) (by omega)
 cases he
 exact ⟨rows[k],by have:=hc 0 (by omega); simpa [eR] using this,hr,h3 k _ hk (List.getElem?_eq_getElem hk')⟩
theorem Ztz.put {S:Nat→Prop} {h:Zaa} {i:Nat} {m:Bd} (r:Ztz S h i m) (hSi:∀ j,S j→j≠i) {k v:Nat} (hk:Zgw[k]?=some v) (hg:Zsf m v=none) {t:Ty} {x y:Zag} (ht:Zei S h t [x,y]) :
  ∃ h',Zbd h (.ptr (some (i,0 + k * 2))) [x,y]=some h'∧Zif i h h'∧Ztz S h' i (m ++ [(v,t)]):=by
 obtain ⟨rows,h1,h2,h3⟩:=r
 have hk6:k < 6:=(List.getElem?_eq_some_iff.1 hk).1
 have hput:Zbm (Zdo eR rows) (k * 2) (eR (x,y))=Zdo eR (rows.set k (x,y)):=Zwt Zjn (by omega)
 refine ⟨h.set i (.cells Zdb (Zdo eR (rows.set k (x,y))) false),?_,Zif.set _ _ _,?_⟩
 ·rw [Nat.zero_add,Zbk h2 (by rw [Zbg Zjn,h1]; simp; omega),← hput]; rfl
 ·have hkeep:∀ j,S j→j < h.length→(h.set i (.cells Zdb (Zdo eR (rows.set k (x,y))) false))[j]?=h[j]?:=fun j hj _=>Zbv (fun e=>hSi j hj e.symm)
  refine ⟨_,by simp [h1],Zcc h2,fun k' x' hx'=>?_⟩
  by_cases e:k=k'
  ·subst e
   rw [List.getElem?_set_self (by omega)] at hx'
   cases hx'
   rw [hk]
   simp only [Option.bind_some,Yck,hg,if_true]
   exact ht.keep hkeep
  ·rw [List.getElem?_set_ne e] at hx'
   have:=h3 k' x' hx'
   have hb:(Zgw[k']?).bind (Zsf (m ++ [(v,t)]))=(Zgw[k']?).bind (Zsf m):=by
    cases hv':Zgw[k']? with
    | none=>rfl
    | some w=>
     simp only [Option.bind_some,Yck]
     cases hb:Zsf m w with
     | some u=>rfl
     | none=>
      have:¬ v=w:=fun e'=>by
       subst e'
       have h5:=List.getElem?_eq_some_iff.1 hk
       have h6:=List.getElem?_eq_some_iff.1 hv'
       exact e ((List.getElem_inj (h₀:=h5.1) (h₁:=h6.1) Zzp).1 (h5.2.trans h6.2.symm))
      simp [this]
   rw [hb]
   split at this
   ·exact this.keep hkeep
   ·exact this
theorem Zif.of_same {i:Nat} {h h':Zaa} (s:Zbb h.length h h'):Zif i h h':=⟨s.le,fun j hj _=>s.eq j hj⟩
end Go.Sim

set_option linter.unusedVariables false
set_option linter.unusedSimpArgs false
set_option maxRecDepth 20000
namespace Go.Sim
open Go Go.RowKit

theorem Ymi:Zdo eR (List.replicate 12 (Zag.int .u8 0,Zag.slice none 0 0 true))=[.int .u8 0,.slice none 0 0 true,.int .u8 0,.slice none 0 0 true,.int .u8 0,.slice none 0 0 true,.int .u8 0,.slice none 0 0 true,.int .u8 0,.slice none 0 0 true,.int .u8 0,.slice none 0 0 true,.int .u8 0,.slice none 0 0 true,.int .u8 0,.slice none 0 0 true,.int .u8 0,.slice none 0 0 true,.int .u8 0,.slice none 0 0 true,.int .u8 0,.slice none 0 0 true,.int .u8 0,.slice none 0 0 true]:=rfl
theorem Zuz {h h':Zaa} {s:List Nat} {vs:List Zag} (hm:match Zjb s with | some t=>Zei (Btw h.length h'.length) h' t vs | none=>vs=[.int .u8 0,.slice none 0 0 true]):∃ (d:Int) (a:Pt) (n c:Nat) (e:Bool),vs=[.int .u8 d,.slice a n c e]:=by
 split at hm
 ·obtain ⟨a,c,e,rfl⟩:=hm.shape; exact ⟨_,_,_,_,_,rfl⟩
 ·exact ⟨_,_,_,_,_,hm⟩
end Go.Sim

set_option linter.unusedSimpArgs false
set_option linter.unusedVariables false
namespace Go.Sim

noncomputable def Yni (l:List Nd) (i:Nat):Bool:=Zoo (l.getD i ([],[])).1 && Zos (l.getD i ([],[])).2 && (i == 0 || Zdy (l.getD (i - 1) ([],[])).1 (l.getD i ([],[])).1)
noncomputable def Yns (l:List Nd):Bool:=(List.range l.length).all (Yni l)
def Yoz (l:List Nd) (c:Nat):List Nat:=match l.find? fun p=>decide (p.1=[c]) with | some p=>p.2 | none=>[c]
def Yge (l:List Nd) (t:List Nat):List Nat:=t.flatMap (Yoz l)
noncomputable def subst (f:Nat→Option Ty):Ty→Ty
 | .k c=>(f c).getD (.k c)
 | .u c a=>.u c (subst f a)
 | .w c a b=>.w c (subst f a) (subst f b)
noncomputable def Ynx (l:List Nd) (t:List Nat):Option (List Nat):=if Yns l && Zos t && decide ((Yge l t).length≤60) then some (Yge l t) else none
noncomputable def Yoj (i:Ins) (t:List Nat):Option (List Nd):=
 match Ykh i.1.2 t with
 | none=>none
 | some m=>if i.2.all fun n=>(Ynx (bdL m) n.2).isSome then some (i.2.map fun n=>(n.1,Yge (bdL m) n.2)) else none
end Go.Sim

set_option linter.unusedSimpArgs false
set_option linter.unusedVariables false
namespace Go.Sim

section
variable (V:Nat→Bool)
def sb (θ:Nat→Ty):Ty→Ty
 | .k c=>if V c=true then θ c else .k c
 | .u c a=>.u c (sb θ a)
 | .w c a b=>.w c (sb θ a) (sb θ b)
def occ (v:Nat):Ty→Bool
 | .k c=>decide (c=v)
 | .u _ a=>occ v a
 | .w _ a b=>occ v a || occ v b
end
section
variable {V:Nat→Bool}
theorem Zwy (θ F:Nat→Ty):∀ t:Ty,sb V θ (sb V F t)=sb V (fun c=>sb V θ (F c)) t
 | .k c=>by by_cases h:V c=true <;> simp [sb,h]
 | .u c a=>by simp only [sb,Zwy θ F a]
 | .w c a b=>by simp only [sb,Zwy θ F a,Zwy θ F b]
theorem Yfl:∀ t:Ty,sb V .k t=t
 | .k c=>by unfold sb; split <;> rfl
 | .u c a=>by simp only [sb,Yfl a]
 | .w c a b=>by simp only [sb,Yfl a,Yfl b]
theorem Zml {θ θ':Nat→Ty}:∀ {t:Ty},(∀ c,V c=true→occ c t=true→θ c=θ' c)→sb V θ t=sb V θ' t
 | .k c,h=>by
  unfold sb
  by_cases hv:V c=true
  ·rw [if_pos hv,if_pos hv,h c hv (by simp [occ])]
  ·rw [if_neg hv,if_neg hv]
 | .u c a,h=>by simp only [sb,Zml (t:=a) fun c hv ho=>h c hv (by simpa [occ] using ho)]
 | .w c a b,h=>by
  simp only [sb,Zml (t:=a) fun c hv ho=>h c hv (by simp [occ,ho]),Zml (t:=b) fun c hv ho=>h c hv (by simp [occ,ho])]
theorem Ycv {F:Nat→Ty}:∀ {t:Ty},sb V F t=t→∀ c,V c=true→occ c t=true→F c=.k c
 | .k d,h,c,hv,ho=>by
  simp [occ] at ho; subst ho
  unfold sb at h; rw [if_pos hv] at h; exact h
 | .u d a,h,c,hv,ho=>by simp only [sb,Ty.u.injEq,true_and] at h; exact Ycv h c hv (by simpa [occ] using ho)
 | .w d a b,h,c,hv,ho=>by
  simp only [sb,Ty.w.injEq,true_and] at h
  simp only [occ,Bool.or_eq_true] at ho
  rcases ho with ho | ho
  ·exact Ycv h.1 c hv ho
  ·exact Ycv h.2 c hv ho
theorem Zpr (t:Ty):1≤t.size:=by cases t <;> simp [Ty.size]
theorem Zvd {θ:Nat→Ty} {x:Nat} (hx:V x=true):∀ {t:Ty},occ x t=true→(θ x).size≤(sb V θ t).size
 | .k d,ho=>by simp [occ] at ho; subst ho; unfold sb; rw [if_pos hx]; exact Nat.le_refl _
 | .u d a,ho=>by have:=Zvd (θ:=θ) hx (t:=a) (by simpa [occ] using ho); simp only [sb,Ty.size]; omega
 | .w d a b,ho=>by
  simp only [occ,Bool.or_eq_true] at ho
  simp only [sb,Ty.size]
  rcases ho with ho | ho
  ·have:=Zvd (θ:=θ) hx ho; omega
  ·have:=Zvd (θ:=θ) hx ho; omega
theorem Ynr {θ:Nat→Ty} {x:Nat} (hx:V x=true) {t:Ty} (ho:occ x t=true) (hne:t≠.k x):(θ x).size < (sb V θ t).size:=by
 cases t with
 | k d=>simp [occ] at ho; exact absurd (by rw [ho]) hne
 | u d a=>have:=Zvd (θ:=θ) hx (t:=a) (by simpa [occ] using ho); simp only [sb,Ty.size]; omega
 | w d a b=>
  simp only [occ,Bool.or_eq_true] at ho
  simp only [sb,Ty.size]
  rcases ho with ho | ho
  ·have:=Zvd (θ:=θ) hx ho; omega
  ·have:=Zvd (θ:=θ) hx ho; omega

inductive Wlk (σ:Nat→Option Ty):Nat→Ty→Ty→Prop
 | stop {t:Ty}:(∀ c,t=.k c→σ c=none)→Wlk σ 0 t t
 | step {c n:Nat} {u t:Ty}:σ c=some u→Wlk σ n u t→Wlk σ (n + 1) (.k c) t
theorem Wlk.end_ {σ:Nat→Option Ty} {n:Nat} {s t:Ty} (h:Wlk σ n s t):∀ c,t=.k c→σ c=none:=by
 induction h with
 | stop h=>exact h
 | step _ _ ih=>exact ih
theorem Wlk.det {σ:Nat→Option Ty} {n m:Nat} {s t t':Ty} (h:Wlk σ n s t) (h':Wlk σ m s t'):t=t'∧n=m:=by
 induction h generalizing m with
 | stop h=>
  cases h' with
  | stop _=>exact ⟨rfl,rfl⟩
  | step h1 _=>rw [h _ rfl] at h1; cases h1
 | step h1 _ ih=>
  cases h' with
  | stop h2=>rw [h2 _ rfl] at h1; cases h1
  | step h2 h3=>rw [h1] at h2; cases h2; obtain ⟨e1,e2⟩:=ih h3; exact ⟨e1,by rw [e2]⟩
structure Rsv (V:Nat→Bool) (σ:Nat→Option Ty) (F:Nat→Ty):Prop where
 dom:∀ c t,σ c=some t→V c=true
 non:∀ c,σ c=none→F c=.k c
 som:∀ c t,σ c=some t→F c=sb V F t
 wlk:∀ c,∃ n t,Wlk σ n (.k c) t
def Sol (V:Nat→Bool) (σ:Nat→Option Ty) (θ:Nat→Ty):Prop:=∀ c t,σ c=some t→θ c=sb V θ t
def Inc (rk:Nat→Nat) (V:Nat→Bool) (σ:Nat→Option Ty):Prop:=∀ c d,σ c=some (.k d)→V d=true→rk c < rk d
theorem Rsv.nil:Rsv V (fun _=>none) .k:=⟨fun c t h=>(by cases h),fun _ _=>rfl,fun c t h=>(by cases h),fun c=>⟨0,_,.stop fun _ _=>rfl⟩⟩
theorem Sol.nil {θ:Nat→Ty}:Sol V (fun _=>none) θ:=fun c t h=>by cases h
variable {σ:Nat→Option Ty} {F:Nat→Ty}
theorem Rsv.walk (r:Rsv V σ F) (t:Ty):∃ n t',Wlk σ n t t':=by
 cases t with
 | k c=>exact r.wlk c
 | u c a=>exact ⟨0,_,.stop fun c h=>by cases h⟩
 | w c a b=>exact ⟨0,_,.stop fun c h=>by cases h⟩
theorem Rsv.var (r:Rsv V σ F) {c:Nat} (h:σ c=none):sb V F (.k c)=.k c:=by unfold sb; split; exact r.non c h; rfl
theorem Wlk.sbF (r:Rsv V σ F) {n:Nat} {s t:Ty} (h:Wlk σ n s t):sb V F s=sb V F t:=by
 induction h with
 | stop=>rfl
 | step h1 _ ih=>rw [← ih,sb,if_pos (r.dom _ _ h1),r.som _ _ h1]
theorem Wlk.sbS (r:Rsv V σ F) {θ:Nat→Ty} (hs:Sol V σ θ) {n:Nat} {s t:Ty} (h:Wlk σ n s t):sb V θ s=sb V θ t:=by
 induction h with
 | stop=>rfl
 | step h1 _ ih=>rw [← ih,sb,if_pos (r.dom _ _ h1),hs _ _ h1]
theorem Rsv.solF (r:Rsv V σ F):Sol V σ F:=fun c t h=>r.som c t h
theorem Ynf (r:Rsv V σ F) {θ:Nat→Ty} (hs:Sol V σ θ):∀ (N:Nat) (t:Ty),(sb V F t).size≤N→sb V θ (sb V F t)=sb V θ t:=by
 intro N
 induction N with
 | zero=>intro t h; have:=Zpr (sb V F t); omega
 | succ N ih=>
  intro t h
  obtain ⟨n,t',hw⟩:=r.walk t
  rw [hw.sbF r] at h ⊢
  rw [hw.sbS r hs]
  have hend:=hw.end_
  cases t' with
  | k c=>rw [r.var (hend c rfl)]
  | u c a=>simp only [sb,Ty.size] at h ⊢; rw [ih a (by omega)]
  | w c a b=>simp only [sb,Ty.size] at h ⊢; rw [ih a (by omega),ih b (by omega)]
theorem Rsv.gen (r:Rsv V σ F) {θ:Nat→Ty} (hs:Sol V σ θ) {c:Nat} (hv:V c=true):sb V θ (F c)=θ c:=by
 have:=Ynf r hs _ (.k c) (Nat.le_refl _)
 simpa [sb,hv] using this
def upd (σ:Nat→Option Ty) (x:Nat) (b:Ty):Nat→Option Ty:=fun c=>if c=x then some b else σ c
def sng (x:Nat) (B:Ty):Nat→Ty:=fun c=>if c=x then B else .k c
theorem Ykf {x:Nat} {B t:Ty} (h:occ x t=false):sb V (sng x B) t=t:=by
 conv=>rhs; rw [← Yfl (V:=V) t]
 refine Zml fun c hv ho=>?_
 unfold sng
 rw [if_neg]
 rintro rfl; rw [h] at ho; cases ho
theorem Rsv.bind (r:Rsv V σ F) {x:Nat} {b:Ty} (hx:σ x=none) (hv:V x=true) (hb:∀ c,b=.k c→σ c=none∧c≠x) (ho:occ x (sb V F b)=false) :
  Rsv V (upd σ x b) (fun c=>sb V (sng x (sb V F b)) (F c))∧∀ θ,Sol V (upd σ x b) θ ↔ Sol V σ θ∧θ x=sb V θ b:=by
 refine ⟨⟨?_,?_,?_,?_⟩,?_⟩
 ·intro c t h
  unfold upd at h
  by_cases e:c=x
  ·rw [e]; exact hv
  ·rw [if_neg e] at h; exact r.dom c t h
 ·intro c h
  unfold upd at h
  by_cases e:c=x
  ·rw [if_pos e] at h; cases h
  ·rw [if_neg e] at h
   show sb V _ (F c)=_
   rw [r.non c h]
   exact Ykf (by simp [occ,e])
 ·intro c t h
  show sb V _ (F c)=sb V (fun c=>sb V (sng x (sb V F b)) (F c)) t
  rw [← Zwy]
  unfold upd at h
  by_cases e:c=x
  ·rw [if_pos e] at h; cases h
   rw [Ykf ho,e,r.non x hx]
   simp [sb,hv,sng]
  ·rw [if_neg e] at h
   rw [r.som c t h]
 ·intro c
  have key:∀ {n:Nat} {s t:Ty},Wlk σ n s t→∃ n t',Wlk (upd σ x b) n s t':=by
   intro n s t hw
   induction hw with
   | @stop t h=>
    by_cases e:t=.k x
    ·subst e
     refine ⟨1,b,.step (u:=b) (by simp [upd]) (.stop fun c hc=>?_)⟩
     obtain ⟨h1,h2⟩:=hb c hc
     simp [upd,h2,h1]
    ·refine ⟨0,_,.stop fun c hc=>?_⟩
     have:c≠x:=fun e'=>e (by rw [hc,e'])
     simp [upd,this,h c hc]
   | @step d n u t h1 _ ih=>
    obtain ⟨n',t',hw'⟩:=ih
    have:d≠x:=fun e=>by rw [e,hx] at h1; cases h1
    exact ⟨n' + 1,t',.step (by simp [upd,this,h1]) hw'⟩
  obtain ⟨n,t,hw⟩:=r.wlk c
  exact key hw
 ·intro θ
  constructor
  ·intro h
   refine ⟨fun c t hc=>h c t ?_,h x b (by simp [upd])⟩
   have:c≠x:=fun e=>by rw [e,hx] at hc; cases hc
   simp [upd,this,hc]
  ·rintro ⟨h1,h2⟩ c t hc
   unfold upd at hc
   by_cases e:c=x
   ·rw [if_pos e] at hc; cases hc; rw [e]; exact h2
   ·rw [if_neg e] at hc; exact h1 c t hc
theorem Inc.bind {rk:Nat→Nat} (h:Inc rk V σ) {x:Nat} {b:Ty} (hb:∀ d,b=.k d→V d=true→rk x < rk d):Inc rk V (upd σ x b):=by
 intro c d hc hd
 unfold upd at hc
 by_cases e:c=x
 ·rw [if_pos e] at hc; cases hc; rw [e]; exact hb d rfl hd
 ·rw [if_neg e] at hc; exact h c d hc hd
theorem Yhl (r:Rsv V σ F) {x:Nat} {b:Ty} (hx:σ x=none) (hv:V x=true) (hb:∀ c,b=.k c→σ c=none∧c≠x) (ho:occ x (sb V F b)=true) (θ:Nat→Ty):¬ (Sol V σ θ∧θ x=sb V θ b):=by
 rintro ⟨hs,he⟩
 have hne:sb V F b≠.k x:=by
  cases b with
  | k c=>
   obtain ⟨h1,h2⟩:=hb c rfl
   rw [r.var h1]; intro e; cases e; exact h2 rfl
  | u c a=>simp [sb]
  | w c a b=>simp [sb]
 have:=Ynr (θ:=θ) hv ho hne
 rw [Ynf r hs _ b (Nat.le_refl _),← he] at this
 omega
structure MGU (V:Nat→Bool) (rk:Nat→Nat) (S:(Nat→Ty)→Prop) (F:Nat→Ty):Prop where
 sol:S F
 gen:∀ θ,S θ→∀ c,V c=true→sb V θ (F c)=θ c
 inc:∀ c d,V c=true→V d=true→F c=.k d→c≠d→rk c < rk d
 out:∀ c,V c=false→F c=.k c
theorem Wlk.var {rk:Nat→Nat} (r:Rsv V σ F) (hi:Inc rk V σ) {n e:Nat} (he:V e=true):∀ {c:Nat},Wlk σ n (.k c) (.k e)→c=e ∨ rk c < rk e:=by
 induction n with
 | zero=>intro c h; cases h; exact .inl rfl
 | succ n ih=>
  intro c h
  cases h with
  | @step _ _ u _ h1 h2=>
   cases h2 with
   | stop _=>exact .inr (hi _ _ h1 he)
   | @step d n' u' _ h3 h4=>
    have:=hi c d h1 (r.dom _ _ h3)
    rcases ih (.step h3 h4) with e | e
    ·subst e; exact .inr this
    ·exact .inr (by omega)
theorem MGU.vars {rk:Nat→Nat} {S:(Nat→Ty)→Prop} {F G:Nat→Ty} (f:MGU V rk S F) (g:MGU V rk S G) {v:Nat} (hv:V v=true) (h:F v=.k v):G v=.k v:=by
 have h1:=g.gen F f.sol v hv
 rw [h] at h1
 cases hg:G v with
 | k w=>
  rw [hg] at h1
  by_cases hw:V w=true
  ·rw [sb,if_pos hw] at h1
   by_cases e:v=w
   ·rw [e]
   ·have a:=g.inc v w hv hw hg e
    have b:=f.inc w v hw hv h1 (fun e'=>e e'.symm)
    omega
  ·rw [sb,if_neg hw] at h1; cases h1; exact absurd hv hw
 | u w a=>rw [hg] at h1; simp [sb] at h1
 | w w a b=>rw [hg] at h1; simp [sb] at h1
theorem MGU.unique {rk:Nat→Nat} {S:(Nat→Ty)→Prop} {F G:Nat→Ty} (f:MGU V rk S F) (g:MGU V rk S G):F=G:=by
 funext v
 cases hv:V v with
 | false=>rw [f.out v hv,g.out v hv]
 | true=>
  have h1:=f.gen G g.sol v hv
  have h2:sb V F (F v)=F v:=f.gen F f.sol v hv
  have h3:sb V G (F v)=F v:=by
   conv=>rhs; rw [← Yfl (V:=V) (F v)]
   refine Zml fun c hc ho=>?_
   exact f.vars g hc (Ycv h2 c hc ho)
  rw [← h3,h1]
end
end Go.Sim
