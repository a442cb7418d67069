/- A part of the proof of a statement of this seat: see the text that holds the theorem. No condition. -/
import Derived.Test.YtflfcofeedjblaaGreatPTCSup
import Derived.Test.YtflfcofeedjblaaGreatCGrow2
import Derived.Test.YtflfcofeedjblaaGreatPTCApply
import Derived.Test.YtflfcofeedjblaaGreatPTCText
import Derived.Test.YtflfcofeedjblaaGreatCTy
import Derived.Test.YtflfcofeedjblaaGreatCVars
import Derived.Test.YtflfcofeedjblaaGreatNm
import Derived.Test.YtflfcofeedjblaaGreatCIter
set_option linter.unusedVariables false
set_option linter.unusedSimpArgs false
set_option linter.all false
set_option linter.unusedVariables false
set_option linter.unusedSimpArgs false
set_option maxRecDepth 20000
namespace Go.Sim
open Go Go.RowKit

noncomputable def Zlr (n:Nd) (i:Ins):Bool:=decide (i.1.1=n.1) && Zlg i.1.2 n.2
noncomputable def Zwr (w:Wd) (n:Nd):List Int:=ixs (Zlr n) w.is
noncomputable def Zhq (w:Wd) (n:Nd):List Int:=if Zeg w && Zht w n then Zwr w n else []
theorem Zuw {h:Zaa} {a0 a1:Pt} {n0 c0 n1 c1:Nat} {e0 e1:Bool} {w:Wd} {ct tt:List Nat} (r:Zmf h a0 n0 c0 a1 n1 c1 w) (b:WB w) :
  Zah pg Zjp [.agg [.slice a0 n0 c0 e0,.slice a1 n1 c1 e1],.agg [.str ct,.str tt]] h fun v h'=>v=.bool (Zeg w && Zht w (ct,tt))∧Zbc h.length h h':=by
 apply Zro.call
 simp only [Zaw]
 generalize hh0:h ++ [Zcd.cells Zab [.slice a0 n0 c0 e0,.slice a1 n1 c1 e1] false]=h0
 generalize hh1:h0 ++ [Zcd.cells Zad [.str ct,.str tt] false]=h1
 have s0:Zbc h.length h h0:=by rw [← hh0]; exact Zam
 have s1:Zbc h0.length h0 h1:=by rw [← hh1]; exact Zam
 have w0:h0[h.length]?=some (Znj a0 n0 c0 e0 a1 n1 c1 e1):=by rw [← hh0]; simp [Znj]
 have w1:=s1.get w0 (Own.lt w0)
 have i1:h1[h0.length]?=some (.cells Zad [.str ct,.str tt] false):=by rw [← hh1]; simp
 rw [Zwe w1]
 simp only [Zaq,Zaf,Zan,Zae]
 refine (Zkt (r.same (s0.cat s1)) b).mono ?_
 rintro v h2 ⟨rfl,s2⟩
 simp only [Zap]
 have i2:=s2.get i1 (Own.lt i1)
 have w2:=s2.get w1 (Own.lt w1)
 refine Zcu (fun b1=>?_) (fun b1=>⟨by rw [b1]; rfl,(s0.cat s1).cat s2⟩)
 rw [Zwe w2,Zef i2 (by simp)]
 simp only [List.drop_zero,List.take_succ_cons,List.take_zero,Zaq,Zaf,Zan,Zae,Zal]
 refine (Ymo (r.same ((s0.cat s1).cat s2)) b).mono ?_
 rintro v h3 ⟨rfl,s3⟩
 simp only [Zap]
 exact ⟨by rw [b1]; rfl,((s0.cat s1).cat s2).cat s3⟩
theorem Ykc {h:Zaa} {a:Pt} {n c j:Nat} {e:Bool} {ct tt nc nt:List Nat} (hj:h[j]?=some (.cells Zad [.str nc,.str nt] false)) :
  Zah pg Zcp [.agg [.str ct,.str tt,.slice a n c e],.ptr (some (j,0))] h fun v h'=>v=.bool (Zlg tt nt)∧Zbc h.length h h':=by
 apply Zlm.call
 have s1:Zbc h.length h (h ++ [.cells Zac [.str ct,.str tt,.slice a n c e] false]):=Zam
 simp only [Zaw,Zex,Nat.zero_add,List.getElem?_cons_succ,List.getElem?_cons_zero,Zal,fa1,Zao (s1.get hj (Own.lt hj))]
 refine (Zty tt nt _).mono ?_
 rintro v h2 ⟨rfl,s2⟩
 simp only [Zap]
 exact ⟨by trivial,s1.cat s2⟩
theorem Ybj {h:Zaa} {t:TypeId} {x y z a b c:Zau}:Zbb (h ++ [.cells t [x,y,z] false]) (.ptr (some (h.length,0))) [a,b,c]=some (h ++ [.cells t [a,b,c] false]):=Zsx rfl
theorem Yjs {h:Zaa} {a0 a1:Pt} {n0 c0 n1 c1 j:Nat} {e0 e1:Bool} {w:Wd} {nd:Nd} (r:Zmf h a0 n0 c0 a1 n1 c1 w) (b:WB w) (hj:h[j]?=some (.cells Zad [.str nd.1,.str nd.2] false)) :
  Zah pg Zkc [.agg [.slice a0 n0 c0 e0,.slice a1 n1 c1 e1],.str nd.1,.fn Zcp [.ptr (some (j,0))]] h fun v h'=>Zbc h.length h h'∧∃ a n c e,v=.slice a n c e∧Zdh Zfw eI h.length h' a n (Zwr w nd):=by
 have hl1:=r.len1
 have hli:=b.li
 apply Zce.call
 simp only [Zaw]
 generalize hh0:h ++ [Zcd.cells Zab [.slice a0 n0 c0 e0,.slice a1 n1 c1 e1] false]=h0
 generalize hh1:h0 ++ [Zcd.cells Zfw [] false]=h1
 have s0:Zbc h.length h h0:=by rw [← hh0]; exact Zam
 have s1:Zbc h0.length h0 h1:=by rw [← hh1]; exact Zam
 have w0:h0[h.length]?=some (Znj a0 n0 c0 e0 a1 n1 c1 e1):=by rw [← hh0]; simp [Znj]
 have w1:=s1.get w0 (Own.lt w0)
 have o1:h1[h0.length]?=some (.cells Zfw [] false):=by rw [← hh1]; simp
 have l0:h0.length=h.length + 1:=by rw [← hh0]; simp
 have S1:=s0.cat s1
 simp only [Zoi w1,Nat.zero_add,List.getElem?_cons_succ,List.getElem?_cons_zero,Zae]
 refine Zce.L3ind _ _ _ _ _ _ _ _ (J:=fun (g:Nat) a4 n4 c4 e4 x14 h'=>x14=(g:Int)∧g≤n1∧Zbc h.length h h'∧n4=(ixs (Zlr nd) (w.is.take g)).length∧Vec Zfw h' a4 n4 c4 (Zdn eI (ixs (Zlr nd) (w.is.take g)))∧(∀ i,a4=some (i,0)→h.length≤i)) (fun g=>n1 - g) ?_ 0 _ _ _ _ _ _
  ⟨rfl,by omega,S1,rfl,Vec.mk1 (by simpa [ixs] using o1),fun i hi=>by cases hi; omega⟩
 rintro g a4 n4 c4 e4 x14 h' ⟨rfl,hg,hS,rfl,hv,ha⟩ R hR
 unfold Zce.L3t
 refine Zat (fun hlt=>?_) (fun hge=>?_)
 ·have hgl:g < w.is.length:=by omega
  obtain ⟨i,o,a2,n2,c2,e2,rfl,_,hr,_,_,hrow,hn⟩:=Zho (r.same hS) hgl
  simp only [Zav,Int.toNat_natCast,hr,Zaq,Zaf,Zan,Zal,Zae,Zaw]
  rw [Ybj]
  simp only [Zas,Zex,Nat.zero_add,List.getElem?_cons_succ,List.getElem?_cons_zero,Zal]
  have hil:=Zqi (Zlr nd) (w.is.take g)
  rw [List.length_take] at hil
  have htk:=Zwz (Zlr nd) hgl
  generalize hq:h' ++ [Zcd.cells Zac [.str w.is[g].1.1,.str w.is[g].1.2,.slice a2 n2 c2 e2] false]=hq'
  have sq:Zbc h'.length h' hq':=by rw [← hq]; exact Zam
  have skip:∀ hz,Zbc hq'.length hq' hz→Zlr nd w.is[g]=false→Zce.J7 (fun v h'=>Zbc h.length h h'∧∃ a n c e,v=.slice a n c e∧Zdh Zfw eI h.length h' a n (Zwr w nd)) R (g:Int) (((n1:Nat):Int)) (some (i,o)) n1 c1 e1 nd.1 (.ptr (some (j,0))) a4 (ixs (Zlr nd) (w.is.take g)).length c4 e4 hz:=by
   intro hz sz hno
   apply Zce.J7i
   rw [hno] at htk
   simp only [Bool.false_eq_true,if_false,List.append_nil] at htk
   rw [Zbl (by omega)]
   exact hR (g + 1) _ _ _ _ _ _ (by omega) ⟨rfl,by omega,(hS.cat sq).cat sz,by rw [htk],by rw [htk]; exact (hv.same sq).same sz,ha⟩
  refine ⟨by omega,Zat (fun hc=>?_) (fun hc=>skip _ (Zbc.refl _ _) (by unfold Zlr; simp [hc]))⟩
  rw [← hq,Ypb,hq]
  simp only [Zaq,Zaf,Zan,Zal,Zae]
  refine (Ykc (sq.get (hS.get hj (Own.lt hj)) (by have:=Own.lt hj; have:=hS.le; omega))).mono ?_
  rintro v h3 ⟨rfl,s3⟩
  simp only [Zap]
  refine Zcu (fun hi=>?_) (fun hi=>skip _ s3 (by unfold Zlr; simp [hi]))
  have hyes:Zlr nd w.is[g]=true:=by unfold Zlr; simp [hc,hi]
  rw [hyes,if_pos rfl] at htk
  have S3:=(hS.cat sq).cat s3
  refine ((hv.same sq).same s3).push Ybl Yoo Ypf Ypo (by rw [Zay Zjg]; omega) rfl (by omega) (fun h6 hl6 hi6 hk6=>?_)
  simp only [Zae]
  apply Zce.J7i
  rw [Zbl (by omega)]
  have hle:=S3.le
  refine hR (g + 1) _ _ _ _ _ _ (by omega) ⟨rfl,by omega,⟨by omega,fun j hj=>?_⟩,by rw [htk]; simp,Vec.mk1 ?_,fun i hi=>by cases hi; omega⟩
  ·rw [hk6 j (by omega) fun i hi=>by have:=ha i hi; omega]; exact S3.eq j hj
  ·rw [hi6,htk,Zhy]; rfl
 ·apply Zce.A3x0i
  have:g=n1:=by omega
  subst this
  rw [List.take_of_length_le (by omega)] at hv ⊢
  exact ⟨hS,_,_,_,_,rfl,hv.fresh (b:=h.length) rfl fun i hi=>ha i hi⟩
def Yry (w:Wd) (n:Nd) (h:Zaa) (v:Zau) (h':Zaa):Prop:=Zbc h.length h h'∧∃ a m c e,v=.slice a m c e∧Zdh Zfw eI h.length h' a m (Zwr w n)
theorem Zdh.low {α:Type} {ty:TypeId} {enc:α→List Zau} {b b':Nat} {h:Zaa} {a:Pt} {n:Nat} {l:List α} (f:Zdh ty enc b h a n l) (hb:b'≤b):Zdh ty enc b' h a n l:=
 ⟨f.1,f.2.imp id fun ⟨i,ha,hbi,hi⟩=>⟨i,ha,by omega,hi⟩⟩
theorem Zux {h:Zaa} {a0 a1:Pt} {n0 c0 n1 c1:Nat} {e0 e1:Bool} {w:Wd} {nd:Nd} (r:Zmf h a0 n0 c0 a1 n1 c1 w) (b:WB w) :
  Zah pg Zip [.agg [.slice a0 n0 c0 e0,.slice a1 n1 c1 e1],.agg [.str nd.1,.str nd.2]] h (Yry w nd h):=by
 apply Zps.call
 simp only [Zaw]
 generalize hh0:h ++ [Zcd.cells Zab [.slice a0 n0 c0 e0,.slice a1 n1 c1 e1] false]=h0
 generalize hh1:h0 ++ [Zcd.cells Zad [.str nd.1,.str nd.2] false]=h1
 have s0:Zbc h.length h h0:=by rw [← hh0]; exact Zam
 have s1:Zbc h0.length h0 h1:=by rw [← hh1]; exact Zam
 have w0:h0[h.length]?=some (Znj a0 n0 c0 e0 a1 n1 c1 e1):=by rw [← hh0]; simp [Znj]
 have w1:=s1.get w0 (Own.lt w0)
 have i1:h1[h0.length]?=some (.cells Zad [.str nd.1,.str nd.2] false):=by rw [← hh1]; simp
 have S1:=s0.cat s1
 rw [Zwe w1]
 simp only [Zaq,Zaf,Zan,Zae,Zao i1,Nat.zero_add,List.getElem?_cons_zero,Zal]
 refine (Yjs (r.same S1) b i1).mono ?_
 rintro v h2 ⟨s2,a,n,c,e,rfl,f⟩
 simp only [Zae]
 exact ⟨S1.cat s2,a,n,c,e,rfl,f.low S1.le⟩
def Ytd (w:Wd) (n:Nd) (h:Zaa) (v:Zau) (h':Zaa):Prop:=Zbc h.length h h'∧∃ a m c e,v=.tup [.slice a m c e,.bool (Zeg w && Zht w n)]∧Zdh Zfw eI h.length h' a m (Zhq w n)
theorem Zsa {h:Zaa} {a0 a1:Pt} {n0 c0 n1 c1:Nat} {e0 e1:Bool} {w:Wd} {nd:Nd} (r:Zmf h a0 n0 c0 a1 n1 c1 w) (b:WB w) :
  Zah pg Zgz [.agg [.slice a0 n0 c0 e0,.slice a1 n1 c1 e1],.agg [.str nd.1,.str nd.2]] h (Ytd w nd h):=by
 apply Znn.call
 simp only [Zaw]
 generalize hh0:h ++ [Zcd.cells Zab [.slice a0 n0 c0 e0,.slice a1 n1 c1 e1] false]=h0
 generalize hh1:h0 ++ [Zcd.cells Zad [.str nd.1,.str nd.2] false]=h1
 have s0:Zbc h.length h h0:=by rw [← hh0]; exact Zam
 have s1:Zbc h0.length h0 h1:=by rw [← hh1]; exact Zam
 have w0:h0[h.length]?=some (Znj a0 n0 c0 e0 a1 n1 c1 e1):=by rw [← hh0]; simp [Znj]
 have w1:=s1.get w0 (Own.lt w0)
 have i1:h1[h0.length]?=some (.cells Zad [.str nd.1,.str nd.2] false):=by rw [← hh1]; simp
 have S1:=s0.cat s1
 rw [Zwe w1,Zef i1 (by simp)]
 simp only [List.drop_zero,List.take_succ_cons,List.take_zero,Zaq,Zaf,Zan,Zae,Zal]
 refine (Zuw (r.same S1) b).mono ?_
 rintro v h2 ⟨rfl,s2⟩
 have i2:=s2.get i1 (Own.lt i1)
 have w2:=s2.get w1 (Own.lt w1)
 have S2:=S1.cat s2
 simp only [Zap]
 refine Zbq (fun b1=>⟨S2,none,0,0,true,by rw [b1],by unfold Zhq; rw [b1]; exact ⟨rfl,.inl rfl⟩⟩) (fun b1=>?_)
 rw [Zwe w2,Zef i2 (by simp)]
 simp only [List.drop_zero,List.take_succ_cons,List.take_zero,Zaq,Zaf,Zan,Zae,Zal]
 refine (Zux (r.same S2) b).mono ?_
 rintro v h3 ⟨s3,a,n,c,e,rfl,f⟩
 simp only [Zae]
 exact ⟨S2.cat s3,a,n,c,e,by rw [b1],by unfold Zhq; rw [if_pos b1]; exact f.low S2.le⟩
end Go.Sim

set_option linter.unusedVariables false
set_option linter.unusedSimpArgs false
set_option maxRecDepth 20000
namespace Go.Sim
open Go Go.RowKit

def Zne (w:Wd) (x:Int):Ins:=w.is.getD x.toNat (([],[]),[])
theorem Zlw {w:Wd} {k:Nat} (h:k < w.is.length):Zne w (k:Int)=w.is[k]:=by unfold Zne; rw [Int.toNat_natCast,Zfd h]
theorem Row.i64 {b:Nat} {h:Zaa} {a:Pt} {n:Nat} {l:List Int} (r:Row b h a n (Zdn eI l)) {k:Nat} (hk:k < n):∃ i o,∃ hk':k < l.length,a=some (i,o)∧i < b∧Zag h (.ptr (some (i,o + k * 1)))=some (.int .i64 l[k]):=by
 obtain ⟨i,o,hk',ha,hi,hc⟩:=Row.el1 Zjg r hk
 exact ⟨i,o,hk',ha,hi,hc⟩
end Go.Sim

set_option linter.unusedSimpArgs false
set_option linter.unusedVariables false
namespace Go.Sim

end Go.Sim

set_option linter.unusedVariables false
set_option linter.unusedSimpArgs false
set_option maxRecDepth 20000
namespace Go.Sim
open Go Go.RowKit

theorem Ztt.mono {S S':Nat→Prop} {h:Zaa} {i:Nat} {m:Bd} (r:Ztt S h i m) (hs:∀ j,S j→S' j):Ztt S' h i m:=by
 obtain ⟨rows,h1,h2,h3⟩:=r
 refine ⟨rows,h1,h2,fun k x hx=>?_⟩
 have:=h3 k x hx
 split at this
 ·exact this.mono hs
 ·exact this
theorem Ztt.below {S:Nat→Prop} {h:Zaa} {i:Nat} {m:Bd} (r:Ztt S h i m):Ztt (fun j=>S j∧j < h.length) h i m:=by
 obtain ⟨rows,h1,h2,h3⟩:=r
 refine ⟨rows,h1,h2,fun k x hx=>?_⟩
 have:=h3 k x hx
 split at this
 ·exact Zhp.below this
 ·exact this
end Go.Sim

set_option linter.unusedVariables false
set_option linter.unusedSimpArgs false
set_option maxRecDepth 20000
namespace Go.Sim
open Go Go.RowKit

theorem Yii {h:Zaa} {i p:Nat} (r:Rdr h i p) (hp:p≤1000000000000) (g:Bool) (Q:QT) (hQ:∀ c h',Zld c=true→Zdu i h h'→Rdr h' i (p + 1)→Q (.str [c]) h') :
  bcase g (Zcl (h ++ [.cells Zbe [.str [105],.str [98],.str [105],.str [117]] false]) fun h_0=>Zah pg Zcf [.ptr (some (i,0)),.slice (some (List.length h,0)) 4 4 true] h_0 fun v_1 h_2=>
 Zbg (some v_1) fun s_3=>Q (.str s_3) h_2) (Zcl (h ++ [.cells Zbe [.str [120],.str [105],.str [121],.str [98],.str [120],.str [122],.str [117]] false]) fun h_4=>Zah pg Zcf [.ptr (some (i,0)),.slice (some (List.length h,0)) 7 7 true] h_4 fun v_5 h_6=>
 Zbg (some v_5) fun s_7=>Q (.str s_7) h_6):=by
 have hil:=r.lt
 have go:∀ (l:List (List Nat)) (n:Nat),l.length=n→1≤n→(∀ x∈l,∃ c,x=[c]∧Zld c=true)→Zcl (h ++ [.cells Zbe (Zdn eS l) false]) fun h_0=>Zah pg Zcf [.ptr (some (i,0)),.slice (some (List.length h,0)) n n true] h_0 fun v_1 h_2=>Zbg (some v_1) fun s_3=>Q (.str s_3) h_2:=by
  intro l n hn h1 hl
  simp only [Zaw]
  refine (Zmq (r.app _) hp (j:=h.length) (t:=Zbe) (l:=l) (by simp) (by omega) hn h1).mono ?_
  rintro v h2 ⟨x,hx,rfl,hK,hR,_⟩
  obtain ⟨c,rfl,hc⟩:=hl x hx
  simp only [Zal]
  exact hQ c h2 hc ((Zdu.app i h _).trans hK) hR
 cases g with
 | true=>exact go [[105],[98],[105],[117]] 4 rfl (by omega) (by intro x hx; simp at hx; rcases hx with rfl | rfl | rfl | rfl <;> exact ⟨_,rfl,rfl⟩)
 | false=>exact go [[120],[105],[121],[98],[120],[122],[117]] 7 rfl (by omega) (by intro x hx; simp at hx; rcases hx with rfl | rfl | rfl | rfl | rfl | rfl | rfl <;> exact ⟨_,rfl,rfl⟩)
def DrQ (i p d:Nat) (h:Zaa) (v:Zau) (h':Zaa):Prop:=∃ t:Ty,v=.str t.txt∧t.ok=true∧t.txt.length≤4 ^ (d + 1)∧Zdu i h h'∧∃ p',p≤p'∧p'≤p + 4 ^ (d + 1)∧Rdr h' i p'
theorem Zuu:∀ (d:Nat),d≤8→∀ {h:Zaa} {i p:Nat},Rdr h i p→p + 4 ^ (d + 1)≤1000000000000→∀ (g:Bool),Zah pg Zev [.ptr (some (i,0)),.int .i64 (d:Int),.bool g] h (DrQ i p d h):=by
 intro d
 induction d with
 | zero=>
  intro _ h i p r hp g
  apply Zni.call
  refine Zcx (fun _=>?_) (fun hne=>absurd rfl hne)
  exact Yii r (by omega) g (DrQ i p 0 h) fun c h' hc hK hR=>⟨.k c,rfl,by simpa [Ty.ok] using hc,by simp [Ty.txt],hK,p + 1,by omega,by omega,hR⟩
 | succ d ih=>
  intro hd h i p r hp g
  have hB:4 ^ (d + 1 + 1)=4 * 4 ^ (d + 1):=by rw [Nat.pow_succ]; omega
  have hB1:4≤4 ^ (d + 1):=by rw [Nat.pow_succ]; have:=Nat.one_le_two_pow (n:=0); have:1≤4 ^ d:=Nat.one_le_pow _ _ (by omega); omega
  have hB2:4 ^ (d + 1)≤1000000000000:=by omega
  generalize hBB:4 ^ (d + 1)=B at *
  apply Zni.call
  refine Zcx (fun he=>by omega) (fun _=>?_)
  refine (Zcv r (by omega) 3).mono ?_
  rintro v h1 ⟨x,rfl,hx0,hx1,_,K1,R1,_⟩
  simp only [Zar]
  refine Zcx (fun _=>?_) (fun _=>?_)
  ·exact Yii R1 (by omega) g (DrQ i p (d + 1) h) fun c h' hc hK hR=>⟨.k c,rfl,by simpa [Ty.ok] using hc,by rw [hB]; simp [Ty.txt]; omega,K1.trans hK,p + 1 + 1,by omega,by omega,hR⟩
  ·apply Zni.J5i
   refine (Zcv R1 (by omega) 4).mono ?_
   rintro v h2 ⟨x,rfl,hx0,hx1,_,K2,R2,_⟩
   have hw:IntKind.wrap .i64 (((d + 1:Nat):Int) - 1)=(d:Int):=by rw [IntWalk.i64_in _ (by omega)]; omega
   have K12:=K1.trans K2
   simp only [Zar]
   rw [hw]
   have one:∀ (c:Nat),(c=109 ∨ c=108)→Zah pg Zev [.ptr (some (i,0)),.int .i64 (d:Int),.bool g] h2 fun v_28 h_29=>
     Zbg (some v_28) fun s_30=>List.length ([c,40]) + List.length s_30≤9223372036854775807∧(List.length (([c,40]) ++ s_30) + List.length [41]≤9223372036854775807∧(DrQ i p (d + 1) h (.str ((([c,40]) ++ s_30) ++ [41])) h_29)):=by
    intro c hc
    refine (ih (by omega) R2 (by omega) g).mono ?_
    rintro v h3 ⟨t,rfl,hok,hlen,K3,p3,hp1,hp2,R3⟩
    rw [hBB] at hlen hp2
    simp only [Zal]
    refine ⟨by simp; omega,by simp; omega,.u c t,by simp [Ty.txt],?_,?_,K12.trans K3,p3,by omega,by omega,R3⟩
    ·simp only [Ty.ok,hok,Bool.and_true]; rcases hc with rfl | rfl <;> rfl
    ·rw [hB]; simp [Ty.txt]; omega
   refine Zcx (fun _=>?_) (fun _=>Zcx (fun _=>one 109 (.inl rfl)) (fun _=>one 108 (.inr rfl)))
   refine (ih (by omega) R2 (by omega) g).mono ?_
   rintro v h3 ⟨t,rfl,hok,hlen,K3,p3,hp1,hp2,R3⟩
   rw [hBB] at hlen hp2
   simp only [Zal]
   refine ⟨by simp; omega,by simp; omega,?_⟩
   refine (ih (by omega) R3 (by omega) g).mono ?_
   rintro v h4 ⟨t2,rfl,hok2,hlen2,K4,p4,hp3,hp4,R4⟩
   rw [hBB] at hlen2 hp4
   simp only [Zal]
   refine ⟨by simp; omega,by simp; omega,.w 112 t t2,by simp [Ty.txt],by simp [Ty.ok,hok,hok2],?_,(K12.trans K3).trans K4,p4,by omega,by omega,R4⟩
   rw [hB]; simp [Ty.txt]; omega
theorem Yfi (s:List Nat) (a b:Int):(sub s a b).length≤s.length:=by unfold sub; simp; omega
end Go.Sim

set_option linter.unusedVariables false
set_option linter.unusedSimpArgs false
set_option maxRecDepth 20000
namespace Go.Sim
open Go Go.RowKit

end Go.Sim

set_option linter.unusedSimpArgs false
set_option linter.unusedVariables false
namespace Go.Sim

def Up (cs:List Nd) (a b:Nat):Prop:=∃ i,∃ h:i < cs.length,cs[i].1=[a]∧b∈cs[i].2
inductive Rch (cs:List Nd) (a:Nat):Nat→Prop
 | one {b:Nat}:Up cs a b→Rch cs a b
 | more {b c:Nat}:Rch cs a b→Up cs b c→Rch cs a c
theorem Ybz {cs:List Nd} (h:Zkg cs=true) {i:Nat} (hi:i < cs.length):Zzr cs i=true:=by
 unfold Zkg at h
 simp only [Bool.and_eq_true,List.all_eq_true] at h
 exact h.1 i (List.mem_range.2 hi)
theorem Yov {cs:List Nd} (h:Zkg cs=true) {i:Nat} (hi:i < cs.length):∃ d,cs[i].1=[d]∧65≤d∧d≤84:=by
 have:=Ybz h hi
 unfold Zzr at this
 rw [Zfd hi] at this
 simp only [Bool.and_eq_true] at this
 have h1:=this.1.1
 unfold Zvb at h1
 split at h1
 ·rename_i d hd; exact ⟨d,hd,by simpa using h1⟩
 ·cases h1
theorem Yen {cs:List Nd} (h:Zkg cs=true) {i:Nat} (hi:i + 1 < cs.length) {a b:Nat} (ha:cs[i].1=[a]) (hb:cs[i + 1].1=[b]):a < b:=by
 have:=Ybz h hi
 unfold Zzr at this
 rw [Zfd hi,Nat.add_sub_cancel,Zfd (by omega),ha,hb] at this
 simp only [Bool.and_eq_true] at this
 have h1:=this.1.2
 simpa [Zeq] using h1
theorem Ybq {cs:List Nd} (h:Zkg cs=true):∀ (k i:Nat) (hi:i + k + 1 < cs.length) {a b:Nat},cs[i].1=[a]→cs[i + k + 1].1=[b]→a < b
 | 0,i,hi,a,b,ha,hb=>Yen h hi ha hb
 | k + 1,i,hi,a,b,ha,hb=>by
  obtain ⟨d,hd,_⟩:=Yov h (show i + k + 1 < cs.length by omega)
  have h1:=Ybq h k i (by omega) ha hd
  have h2:=Yen h (i:=i + k + 1) (by omega) hd hb
  omega
theorem Yfo {cs:List Nd} (h:Zkg cs=true) {i j:Nat} (hi:i < cs.length) (hj:j < cs.length) {a:Nat} (ha:cs[i].1=[a]) (hb:cs[j].1=[a]):i=j:=by
 rcases Nat.lt_trichotomy i j with hl | he | hl
 ·obtain ⟨k,rfl⟩:∃ k,j=i + k + 1:=⟨j - i - 1,by omega⟩
  have:=Ybq h k i hj ha hb; omega
 ·exact he
 ·obtain ⟨k,rfl⟩:∃ k,i=j + k + 1:=⟨i - j - 1,by omega⟩
  have:=Ybq h k j hi hb ha; omega
theorem Zvd {cs:List Nd} (h:Zkg cs=true) {i:Nat} (hi:i < cs.length) {b:Nat} (hb:b∈cs[i].2):∃ j,∃ hj:j < i,cs[j].1=[b]:=by
 have:=Ybz h hi
 unfold Zzr at this
 rw [Zfd hi] at this
 simp only [Bool.and_eq_true] at this
 have h1:=this.2
 unfold Ydi at h1
 rw [List.all_eq_true] at h1
 obtain ⟨k,hk,rfl⟩:=List.mem_iff_getElem.1 hb
 have h2:=h1 k (List.mem_range.2 hk)
 unfold Zzu at h2
 rw [Zfd hk] at h2
 simp only [Bool.and_eq_true] at h2
 have h3:=h2.1
 unfold Zfz at h3
 rw [List.any_eq_true] at h3
 obtain ⟨x,hx,he⟩:=h3
 obtain ⟨j,hj,rfl⟩:=List.mem_iff_getElem.1 hx
 rw [List.length_take] at hj
 exact ⟨j,by omega,by simpa using he⟩
theorem Up.ix {cs:List Nd} (h:Zkg cs=true) {a b i:Nat} (u:Up cs a b) (hi:i < cs.length) (ha:cs[i].1=[a]):b∈cs[i].2:=by
 obtain ⟨j,hj,hja,hb⟩:=u
 have:=Yfo h hi hj ha hja
 subst this; exact hb
theorem Rch.ix {cs:List Nd} (h:Zkg cs=true) {a b i:Nat} (r:Rch cs a b) (hi:i < cs.length) (ha:cs[i].1=[a]):∃ j,∃ hj:j < i,cs[j].1=[b]:=by
 induction r with
 | one u=>exact Zvd h hi (u.ix h hi ha)
 | more _ u ih=>
  obtain ⟨j,hj,hb⟩:=ih
  obtain ⟨k,hk,hc⟩:=Zvd h (show j < cs.length by omega) (u.ix h (by omega) hb)
  exact ⟨k,by omega,hc⟩
structure Yek (cs:List Nd) (a:Nat) (i:Nat) (ab:List Nat):Prop where
 sound:∀ d∈ab,Rch cs a d
 done:∀ j,i≤j→∀ hj:j < cs.length,(cs[j].1=[a] ∨ ∃ d,cs[j].1=[d]∧d∈ab)→∀ b∈cs[j].2,b∈ab
theorem Yek.step {cs:List Nd} (h:Zkg cs=true) {a i:Nat} {ab:List Nat} (D:Yek cs a (i + 1) ab) (hi:i < cs.length) (hc:cs[i].1=[a] ∨ ∃ d,cs[i].1=[d]∧d∈ab):Yek cs a i (ab ++ cs[i].2):=by
 refine ⟨fun d hd=>?_,fun j hj hjl hcj b hb=>?_⟩
 ·rcases List.mem_append.1 hd with hd | hd
  ·exact D.sound d hd
  ·rcases hc with hc | ⟨e,he,hm⟩
   ·exact .one ⟨i,hi,hc,hd⟩
   ·exact .more (D.sound e hm) ⟨i,hi,he,hd⟩
 ·by_cases hji:j=i
  ·subst hji; exact List.mem_append_right _ hb
  ·refine List.mem_append_left _ (D.done j (by omega) hjl ?_ b hb)
   rcases hcj with hcj | ⟨e,he,hm⟩
   ·exact .inl hcj
   ·rcases List.mem_append.1 hm with hm | hm
    ·exact .inr ⟨e,he,hm⟩
    ·exfalso
     obtain ⟨k,hk,hke⟩:=Zvd h hi hm
     have:=Yfo h hjl (show k < cs.length by omega) he hke
     omega
theorem Yek.skip {cs:List Nd} {a i:Nat} {ab:List Nat} (D:Yek cs a (i + 1) ab) (hc:∀ hi:i < cs.length,¬ (cs[i].1=[a] ∨ ∃ d,cs[i].1=[d]∧d∈ab)):Yek cs a i ab:=
 ⟨D.sound,fun j hj hjl hcj b hb=>by
  by_cases hji:j=i
  ·subst hji; exact absurd hcj (hc hjl)
  ·exact D.done j (by omega) hjl hcj b hb⟩
theorem Yek.all {cs:List Nd} (h:Zkg cs=true) {a i:Nat} {ab:List Nat} (D:Yek cs a 0 ab) (hi:i < cs.length) (ha:cs[i].1=[a]) (d:Nat):d∈ab ↔ Rch cs a d:=by
 refine ⟨D.sound d,fun r=>?_⟩
 induction r with
 | one u=>exact D.done i (by omega) hi (.inl ha) _ (u.ix h hi ha)
 | more r u ih=>
  obtain ⟨j,hj,hb⟩:=r.ix h hi ha
  exact D.done j (by omega) (by omega) (.inr ⟨_,hb,ih⟩) _ (u.ix h (by omega) hb)
structure Yty (cs:List Nd) (a i:Nat) (r:Nat) (ab:List Nat):Prop where
 sound:∀ d∈ab,Rch cs a d
 first:∀ d,Up cs a d→d∈ab
 near:∀ j,j < i→i≤j + 1 + r→∀ hj:j < cs.length,∀ d,cs[j].1=[d]→Rch cs a d→d∈ab
theorem Yty.next {cs:List Nd} (h:Zkg cs=true) {a i r:Nat} {ab ab':List Nat} (R:Yty cs a i r ab) (hi:i < cs.length) (ha:cs[i].1=[a])
  (hs:∀ d∈ab',d∈ab ∨ ∃ e∈ab,Up cs e d) (hc:∀ d,(d∈ab ∨ ∃ e∈ab,Up cs e d)→d∈ab'):Yty cs a i (r + 1) ab':=by
 refine ⟨fun d hd=>?_,fun d u=>hc d (.inl (R.first d u)),fun j hj hn hjl d hd rc=>?_⟩
 ·rcases hs d hd with hd | ⟨e,he,u⟩
  ·exact R.sound d hd
  ·exact .more (R.sound e he) u
 ·cases rc with
  | one u=>exact hc d (.inl (R.first d u))
  | more rc u=>
   rename_i e
   obtain ⟨k,hk,hb⟩:=rc.ix h hi ha
   have hjk:j < k:=by
    obtain ⟨q,hq,hcq⟩:=Zvd h (show k < cs.length by omega) (u.ix h (by omega) hb)
    have:=Yfo h hjl (show q < cs.length by omega) hd hcq
    omega
   exact hc d (.inr ⟨e,R.near k hk (by omega) (by omega) e hb rc,u⟩)
theorem Yty.all {cs:List Nd} (h:Zkg cs=true) {a i r:Nat} {ab:List Nat} (R:Yty cs a i r ab) (hi:i < cs.length) (ha:cs[i].1=[a]) (hr:i≤r + 1) (d:Nat):d∈ab ↔ Rch cs a d:=by
 refine ⟨R.sound d,fun rc=>?_⟩
 obtain ⟨j,hj,hd⟩:=rc.ix h hi ha
 exact R.near j hj (by omega) (by omega) d hd rc
end Go.Sim

set_option linter.unusedVariables false
set_option linter.unusedSimpArgs false
set_option maxRecDepth 20000
namespace Go.Sim
open Go Go.RowKit

end Go.Sim

set_option linter.unusedVariables false
set_option linter.unusedSimpArgs false
set_option maxRecDepth 20000
namespace Go.Sim
open Go Go.RowKit

end Go.Sim

set_option linter.unusedVariables false
set_option linter.unusedSimpArgs false
set_option maxRecDepth 20000
namespace Go.Sim
open Go Go.RowKit

structure Yti (b:Nat) (h:Zaa) (a:Pt) (n c:Nat) (l:List Nd):Prop where
 vec:Vec Zad h a n c (Zdn eP l)
 len:l.length=n
 low:∀ i,a=some (i,0)→b≤i
theorem Yti.row {b:Nat} {h:Zaa} {a:Pt} {n c:Nat} {l:List Nd} (f:Yti b h a n c l):Row h.length h a (n * 2) (Zdn eP l):=f.vec.row (by rw [Zay Zeb,f.len])
theorem Yti.same {b:Nat} {h h':Zaa} {a:Pt} {n c:Nat} {l:List Nd} (f:Yti b h a n c l) (s:Zbc h.length h h'):Yti b h' a n c l:=⟨f.vec.same s,f.len,f.low⟩
def But (a:Pt) (h h':Zaa):Prop:=h.length≤h'.length∧∀ j,j < h.length→(∀ i,a=some (i,0)→j≠i)→h'[j]?=h[j]?
theorem But.of {a:Pt} {h h':Zaa} (s:Zbc h.length h h'):But a h h':=⟨s.le,fun j hj _=>s.eq j hj⟩
theorem But.below {a:Pt} {b:Nat} {h h':Zaa} (s:But a h h') (hb:b≤h.length) (hl:∀ i,a=some (i,0)→b≤i):Zbc b h h':=⟨s.1,fun j hj=>s.2 j (by omega) fun i hi=>by have:=hl i hi; omega⟩
end Go.Sim

set_option linter.unusedSimpArgs false
set_option linter.unusedVariables false
namespace Go.Sim

structure Wk where
 cand:Nd→List Int
 needs:Int→List Nat→Option (List Nd)
 most:List Int→Int
inductive Fnd where
 | ok (s:List Nat)
 | no (why:List Nat) (n:Nd)
end Go.Sim

set_option linter.unusedVariables false
set_option linter.unusedSimpArgs false
set_option maxRecDepth 20000
namespace Go.Sim
open Go Go.RowKit

structure FrS (i:Nat) (qa:Pt) (h h':Zaa) (qa':Pt):Prop where
 le:h.length≤h'.length
 eq:∀ j,j < h.length→j≠i→(∀ q,qa=some (q,0)→j≠q)→h'[j]?=h[j]?
 pt:qa'=qa ∨ ∀ q,qa'=some (q,0)→h.length≤q
theorem FrS.of_same {i:Nat} {qa:Pt} {h h':Zaa} (s:Zbc h.length h h'):FrS i qa h h' qa:=⟨s.le,fun j hj _ _=>s.eq j hj,.inl rfl⟩
theorem FrS.refl (i:Nat) (qa:Pt) (h:Zaa):FrS i qa h h qa:=.of_same (Zbc.refl _ _)
theorem FrS.ne {i:Nat} {qa qa':Pt} {h h':Zaa} (f:FrS i qa h h' qa') {j:Nat} (hj:j < h.length) (hq:∀ q,qa=some (q,0)→j≠q):∀ q,qa'=some (q,0)→j≠q:=by
 intro q hq'
 rcases f.pt with e | e
 ·exact hq q (e ▸ hq')
 ·have:=e q hq'; omega
theorem FrS.trans {i:Nat} {qa qa1 qa2:Pt} {h h1 h2:Zaa} (f:FrS i qa h h1 qa1) (g:FrS i qa1 h1 h2 qa2):FrS i qa h h2 qa2:=by
 have:=f.le; have:=g.le
 refine ⟨by omega,fun j hj hi hq=>?_,?_⟩
 ·rw [g.eq j (by omega) hi (f.ne hj hq)]; exact f.eq j hj hi hq
 ·rcases g.pt with e | e
  ·rcases f.pt with e' | e'
   ·exact .inl (e.trans e')
   ·exact .inr fun q hq=>e' q (e ▸ hq)
  ·exact .inr fun q hq=>by have:=e q hq; omega
theorem FrS.set {i:Nat} {qa:Pt} {h:Zaa} {x:Zcd}:FrS i qa h (h.set i x) qa:=⟨by simp,fun j _ hi _=>Zbs (fun e=>hi e.symm),.inl rfl⟩
theorem FrS.get {i:Nat} {qa qa':Pt} {h h':Zaa} (f:FrS i qa h h' qa') {j:Nat} {x:Zcd} (hj:h[j]?=some x) (hi:j≠i) (hq:∀ q,qa=some (q,0)→j≠q):h'[j]?=some x:=by rw [f.eq j (Own.lt hj) hi hq]; exact hj
theorem FrS.row {i:Nat} {qa qa':Pt} {h h':Zaa} (f:FrS i qa h h' qa') {a:Pt} {n:Nat} {cs:List Zau} (r:Row h.length h a n cs) (hn:∀ j o,n≠0→a=some (j,o)→j≠i∧∀ q,qa=some (q,0)→j≠q):Row h'.length h' a n cs:=by
 obtain ⟨hl,r⟩:=r
 by_cases h0:n=0
 ·exact ⟨hl,.inl h0⟩
 ·refine ⟨hl,r.imp id ?_⟩
  rintro ⟨j,o',t,all,ro,ha,hi,hg,x⟩
  have:=f.le
  obtain ⟨h1,h2⟩:=hn j o' h0 ha
  exact ⟨j,o',t,all,ro,ha,by omega,by rw [f.eq j hi h1 h2]; exact hg,x⟩
theorem FrS.below {i b:Nat} {qa qa':Pt} {h h':Zaa} (f:FrS i qa h h' qa') (hb:b≤h.length) (hi:b≤i) (hq:∀ q,qa=some (q,0)→b≤q):Zbc b h h':=⟨f.le,fun j hj=>f.eq j (by omega) (by omega) fun q hq'=>by have:=hq q hq'; omega⟩
end Go.Sim

set_option linter.unusedSimpArgs false
set_option linter.unusedVariables false
namespace Go.Sim

section
variable {k:Wk} {sp:Bool} {dec:Int→List Nat}
end
end Go.Sim

set_option linter.unusedVariables false
set_option linter.unusedSimpArgs false
set_option maxRecDepth 20000
namespace Go.Sim
open Go Go.RowKit

theorem Vec.app0 {P:Program} {t ty:TypeId} {h:Zaa} {i n c sz:Nat} {e:Bool} {xa:Pt} {m c':Nat} {e':Bool} {cs new:List Zau} {K:Zau→Zaa→Prop} (hi:h[i]?=some (.cells ty cs false))
  (hu:P.underlying t=some (.slice ty)) (hc:P.cellsOf ty=sz) (hok:P.okElem ty=true) (hby:P.bytesOf ty≤127) (hn:cs.length=n * sz) (hx:rowOf h xa (m * sz)=some new) (hl:new.all Zau.leaf=true)
  (hle:n + m≤1099511627776) (hk:∀ h',h'.length=h.length + 1→h'[h.length]?=some (.cells ty (cs ++ new) false)→(∀ j,j < h.length→j≠i→h'[j]?=h[j]?) →
   K (.slice (some (h.length,0)) (n + m) (n + m) false) h'):Zda P t h (.slice (some (i,0)) n c e) (.slice xa m c' e') K:=by
 unfold Zda
 simp only [hu,hc,hx,Zaq]
 refine ⟨⟨hok,?_,hl⟩,.inl ⟨by trivial,?_⟩⟩
 ·have:(n + m) * (P.bytesOf ty + 1)≤(n + m) * 128:=Nat.mul_le_mul_left _ (by omega)
  omega
 ·simp only [Zsh,hi,true_and]
  refine ⟨hn,hk _ (by simp) (by rw [List.getElem?_append_right (by simp)]; simp) fun j hj hne=>?_⟩
  rw [List.getElem?_append_left (by simpa using hj),List.getElem?_set_ne (fun e=>hne e.symm)]
section
variable {hb:Zaa} {i:Nat} {u v:Zau} {sp:Bool} {h:Zaa} {qa:Pt} {asked:List Nd} {fl:Nd}
end
end Go.Sim

set_option linter.unusedVariables false
set_option linter.unusedSimpArgs false
set_option maxRecDepth 20000
namespace Go.Sim
open Go Go.RowKit

theorem Zqp:pg.underlying Zer=some (.slice Zac):=by kernel_rfl
theorem Zyw:pg.cellsOf Zac=3:=by kernel_rfl
theorem Zxk:pg.okElem Zac=true:=by kernel_rfl
theorem Zyg:pg.bytesOf Zac≤127:=Nat.le_of_ble_eq_true (by kernel_rfl)
theorem Zxb:pg.underlying Zjc=some (.slice Zbf):=by kernel_rfl
theorem Yhi:pg.cellsOf Zbf=2:=by kernel_rfl
theorem Yhd:pg.okElem Zbf=true:=by kernel_rfl
theorem Yig:pg.bytesOf Zbf≤127:=Nat.le_of_ble_eq_true (by kernel_rfl)
theorem Zfm {h:Zaa} {i j:Nat} {t t':TypeId} {cs cs':List Zau} {ro ro':Bool} (hi:h[i]?=some (.cells t cs ro)) (hj:h[j]?=some (.cells t' cs' ro')) (hne:t≠t'):i≠j:=by
 rintro rfl; rw [hi] at hj; injection hj with hj; injection hj with hj _ _; exact hne hj
theorem Ymi {h:Zaa} {a:Pt} {n cp:Nat} {e:Bool} {i:Ins} (r:Row h.length h a (n * 2) (Zdn eP i.2)) (hn:n≤1048576) :
  Zah pg Zig [.agg [.str i.1.1,.str i.1.2,.slice a n cp e]] h fun v h'=>∃ a' c' e',v=.agg [.str i.1.1,.str i.1.2,.slice a' n c' e']∧Zbc h.length h h'∧Zdh Zad eP h.length h' a' n i.2∧a'≠none∧n≤c':=by
 have hl:i.2.length=n:=by have:=r.1; rw [Zay Zeb] at this; omega
 apply Zlz.call
 simp only [Zaw]
 generalize hh0:h ++ [Zcd.cells Zac [.str i.1.1,.str i.1.2,.slice a n cp e] false]=h0
 generalize hh1:h0 ++ [Zcd.cells Zac [.str [],.str [],.slice none 0 0 true] false]=h1
 generalize hh2:h1 ++ [Zcd.cells Zad [] false]=h2
 have s0:Zbc h.length h h0:=by rw [← hh0]; exact Zam
 have s1:Zbc h0.length h0 h1:=by rw [← hh1]; exact Zam
 have s2:Zbc h1.length h1 h2:=by rw [← hh2]; exact Zam
 have l0:h0.length=h.length + 1:=by rw [← hh0]; simp
 have l1:h1.length=h0.length + 1:=by rw [← hh1]; simp
 have l2:h2.length=h1.length + 1:=by rw [← hh2]; simp
 have x0:h0[h.length]?=some (.cells Zac [.str i.1.1,.str i.1.2,.slice a n cp e] false):=by rw [← hh0]; simp
 have y1:h1[h0.length]?=some (.cells Zac [.str [],.str [],.slice none 0 0 true] false):=by rw [← hh1]; simp
 have z2:h2[h1.length]?=some (.cells Zad [] false):=by rw [← hh2]; simp
 have x2:=s2.get (s1.get x0 (by omega)) (by omega)
 have y2:=s2.get y1 (by omega)
 have S2:=(s0.cat s1).cat s2
 simp only [Zao x2,Nat.zero_add,List.getElem?_cons_succ,List.getElem?_cons_zero,Zae]
 refine Vec.app0 (n:=0) z2 Ybo Ylm Ykq Ykl (by simp) (r.same' S2).rowOf (Zrs (enc:=eP) (fun _=>rfl) i.2) (by omega) (fun h3 hl3 hi3 hk3=>?_)
 have x3:h3[h.length]?=some (.cells Zac [.str i.1.1,.str i.1.2,.slice a n cp e] false):=by rw [hk3 _ (by omega) (by omega)]; exact x2
 have y3:h3[h0.length]?=some (.cells Zac [.str [],.str [],.slice none 0 0 true] false):=by rw [hk3 _ (by omega) (by omega)]; exact y2
 simp only [Zae,Nat.zero_add]
 rw [Zbd x3 (by simp)]
 simp only [Zas,putRow,List.take_succ_cons,List.take_zero,List.length_cons,List.length_nil,List.drop_succ_cons,List.drop_zero,List.drop_nil,List.cons_append,List.nil_append,List.append_nil]
 rw [Zng (Zbz x3)]
 simp only [Zaq,Zaf,Zan,Zal,Zae]
 have y4:(h3.set h.length (Zcd.cells Zac [.str i.1.1,.str i.1.2,.slice (some (h2.length,0)) n n false] false))[h0.length]?=some (.cells Zac [.str [],.str [],.slice none 0 0 true] false):=by rw [Zbs (by omega)]; exact y3
 rw [Zbd y4 (by simp)]
 simp only [Zas,putRow,List.take_zero,List.length_cons,List.length_nil,List.drop_succ_cons,List.drop_zero,List.drop_nil,List.cons_append,List.nil_append,List.append_nil]
 rw [Zng (Zbz y4)]
 simp only [Zaq,Zaf,Zan,Zal,Zae]
 refine ⟨_,_,_,rfl,⟨by simp; omega,fun j hj=>?_⟩,⟨hl,.inr ⟨h2.length,rfl,by omega,?_⟩⟩,by simp,Nat.le_refl _⟩
 ·rw [Zbs (by omega),Zbs (by omega),hk3 j (by omega) (by omega)]; exact S2.eq j hj
 ·rw [Zbs (by omega),Zbs (by omega),hi3]; simp
theorem Yfj {h:Zaa} {a0 a:Pt} {n0 c0 n cp:Nat} {e:Bool} {w:Wd} (r:Zmf h a0 n0 c0 a n cp w) (b:WB w) :
  Zah pg Zgi [.slice a n cp e] h fun v h'=>∃ a' c' e' ys,v=.slice a' n c' e'∧n≤c'∧Zbc h.length h h'∧Zdh Zac eN h.length h' a' n ys∧ys.length=w.is.length∧a'≠none ∧
   (∀ (k:Nat) (x:EI) (i:Ins),ys[k]?=some x→w.is[k]?=some i→x.c=i.1.1∧x.t=i.1.2∧Zdh Zad eP h.length h' x.a x.n i.2) ∧
   (∀ (j k:Nat) (x y:EI),j≠k→ys[j]?=some x→ys[k]?=some y→x.n≠0→y.n≠0→x.a≠y.a)∧(∀ x∈ys,x.a≠none)∧∃ q,a'=some (q,0)∧h.length≤q∧h'[q]?=some (.cells Zac (Zdn eN ys) false):=by
 have hl:=r.len1
 have hli:=b.li
 apply Zen.call
 simp only [Zaw]
 refine Zen.L3ind (J:=fun (g:Nat) a3 n3 c3 e3 x9 h'=>x9=(g:Int)∧g≤n∧Zbc h.length h h'∧∃ (q:Nat) (ys:List EI),a3=some (q,0)∧n3=g∧g≤c3∧h.length≤q∧ys.length=g∧h'[q]?=some (.cells Zac (Zdn eN ys) false) ∧
   (∀ (k:Nat) (x:EI) (i:Ins),ys[k]?=some x→w.is[k]?=some i→x.c=i.1.1∧x.t=i.1.2∧Zdh Zad eP h.length h' x.a x.n i.2) ∧
   (∀ (j k:Nat) (x y:EI),j≠k→ys[j]?=some x→ys[k]?=some y→x.n≠0→y.n≠0→x.a≠y.a)∧∀ x∈ys,x.a≠none) (m:=fun g=>n - g) (hr:=?_) (g:=0)
  (hj:=⟨rfl,by omega,Zbc.app (Nat.le_refl _) _,h.length,[],rfl,rfl,by omega,Nat.le_refl _,rfl,by simp,by simp,by simp,by simp⟩) ..
 rintro g a3 n3 c3 e3 x9 h' ⟨rfl,hg,hs,q,ys,rfl,rfl,hgc,hql,hy,ho,hrep,hsep,hnn⟩ R hR
 unfold Zen.L3t
 refine Zat (fun hlt=>?_) (fun hge=>?_)
 ·obtain ⟨i0,o0,hgl,a2,n2,c2,e2,rfl,hb0,hr,_,_,_,hrow,hn2⟩:=(r.same hs).inst (k:=n3) (by omega)
  have hb:=b.is _ (List.getElem_mem hgl)
  simp only [Zav,Int.toNat_natCast,hr,Zaq,Zaf,Zan,Zal,Zae,Zaw]
  refine ⟨by omega,?_⟩
  generalize hh1:h' ++ [Zcd.cells Zac [.str [],.str [],.slice none 0 0 true] false]=h1
  have s1:Zbc h'.length h' h1:=by rw [← hh1]; exact Zam
  have o1:h1[h'.length]?=some (.cells Zac [.str [],.str [],.slice none 0 0 true] false):=by rw [← hh1]; simp
  rw [Zbd o1 (by simp)]
  simp only [Zas,putRow,List.take_zero,List.length_cons,List.length_nil,List.drop_succ_cons,List.drop_zero,List.drop_nil,List.cons_append,List.nil_append,List.append_nil,Nat.zero_add]
  generalize hh2:h1.set h'.length (Zcd.cells Zac [.str w.is[n3].1.1,.str w.is[n3].1.2,.slice a2 n2 c2 e2] false)=h2
  have o2:h2[h'.length]?=some (.cells Zac [.str w.is[n3].1.1,.str w.is[n3].1.2,.slice a2 n2 c2 e2] false):=by rw [← hh2]; exact Zbz o1
  have s2:Zbc h'.length h' h2:=by rw [← hh2]; exact s1.set' (Nat.le_refl _)
  rw [Zng o2]
  simp only [Zaq,Zaf,Zan,Zal,Zae]
  refine (Ymi (i:=w.is[n3]) (hrow.same' s2) (by omega)).mono ?_
  rintro v h3 ⟨a',c',e',rfl,s3,f3,hnn3,hc3⟩
  simp only [Zdd,Zaf,Zan,Zal,Zae,Zaw]
  have S3:=s2.cat s3
  have hol:=Own.lt ho
  have ho3:=S3.get ho hol
  have hle2:=s2.le
  have hle3:=s3.le
  have hlh:=hs.le
  refine (Vec.mk1 ho3).pushN Zqp Zyw Zxk Zyg (by rw [Zay Zpu,hy]) rfl (by omega) rfl (by omega) (fun h4 hl4 hi4 hk4=>?_)
  simp only [Zae]
  rw [Zbl (by omega)]
  have keep:∀ {a:Pt} {m:Nat} {l:List Nd} {b:Nat},Zdh Zad eP b h3 a m l→Zdh Zad eP b h4 a m l:=fun f=>⟨f.1,f.2.imp id fun ⟨j,ha,hbj,hc⟩=>⟨j,ha,hbj,by rw [hk4 j (Own.lt hc) (fun j' hj'=>by cases hj'; exact Zfm hc ho3 (by decide))]; exact hc⟩⟩
  refine hR (n3 + 1) _ _ _ _ _ _ (by omega) ⟨rfl,by omega,⟨by omega,fun j hj=>?_⟩,h3.length + 1,ys ++ [⟨w.is[n3].1.1,w.is[n3].1.2,a',n2,c',e'⟩],rfl,rfl,Nat.le_refl _,by omega,by simp [hy],by rw [hi4]; simp [eN],?_,?_,fun x hx=>?_⟩
  ·rw [hk4 j (by omega) (fun j' hj'=>by cases hj'; omega),S3.eq j (by omega)]; exact hs.eq j hj
  ·intro k x j hx hj
   by_cases hk:k < n3
   ·rw [List.getElem?_append_left (by omega)] at hx
    obtain ⟨p1,p2,p3⟩:=hrep k x j hx hj
    exact ⟨p1,p2,keep (p3.same S3)⟩
   ·have hkg:k=n3:=by have:=(List.getElem?_eq_some_iff.1 hx).1; simp at this; omega
    subst hkg
    rw [List.getElem?_append_right (by omega)] at hx
    simp [hy] at hx
    subst hx
    rw [List.getElem?_eq_getElem hgl] at hj
    cases hj
    exact ⟨rfl,rfl,keep ⟨f3.1,f3.2.imp id fun ⟨j,ha,hbj,hc⟩=>⟨j,ha,by omega,hc⟩⟩⟩
  ·have old:∀ (k:Nat) (x:EI),k < n3→ys[k]?=some x→x.n≠0→n2≠0→x.a≠a':=by
    intro k x hk hx h0 h2' he
    obtain ⟨_,_,p3⟩:=hrep k x w.is[k] hx (List.getElem?_eq_getElem (by omega))
    obtain ⟨_,p3⟩:=p3
    obtain ⟨_,f3'⟩:=f3
    rcases p3 with p3 | ⟨j,ha,_,hc⟩
    ·exact h0 p3
    ·rcases f3' with f3' | ⟨j',ha',hb',_⟩
     ·exact h2' f3'
     ·rw [ha,ha'] at he; cases he; have:=Own.lt hc; omega
   intro j k x y hjk hx hy' h0 h0'
   by_cases hj:j < n3 <;> by_cases hk:k < n3
   ·rw [List.getElem?_append_left (by omega)] at hx hy'
    exact hsep j k x y hjk hx hy' h0 h0'
   ·have hkg:k=n3:=by have:=(List.getElem?_eq_some_iff.1 hy').1; simp at this; omega
    subst hkg
    rw [List.getElem?_append_left (by omega)] at hx
    rw [List.getElem?_append_right (by omega)] at hy'
    simp [hy] at hy'
    subst hy'
    exact old j x hj hx h0 h0'
   ·have hjg:j=n3:=by have:=(List.getElem?_eq_some_iff.1 hx).1; simp at this; omega
    subst hjg
    rw [List.getElem?_append_left (by omega)] at hy'
    rw [List.getElem?_append_right (by omega)] at hx
    simp [hy] at hx
    subst hx
    exact fun he=>old k y hk hy' h0' h0 he.symm
   ·have:=(List.getElem?_eq_some_iff.1 hx).1
    have:=(List.getElem?_eq_some_iff.1 hy').1
    simp at *
    omega
  ·rcases List.mem_append.1 hx with hx | hx
   ·exact hnn x hx
   ·rw [List.mem_singleton] at hx; subst hx; exact hnn3
 ·apply Zen.A3x0i
  have:n3=n:=by omega
  subst this
  exact ⟨_,_,_,ys,rfl,hgc,hs,⟨hy,.inr ⟨q,rfl,hql,ho⟩⟩,by omega,by simp,hrep,hsep,hnn,q,rfl,hql,ho⟩
theorem Ydf {h:Zaa} {a0 a1:Pt} {n0 c0 n1 c1:Nat} {e0 e1:Bool} {w:Wd} (r:Zmf h a0 n0 c0 a1 n1 c1 w) (b:WB w) :
  Zah pg Zks [.agg [.slice a0 n0 c0 e0,.slice a1 n1 c1 e1]] h fun v h'=>∃ b0 d0 f0 b1 d1 f1 ys,v=.agg [.slice b0 n0 d0 f0,.slice b1 n1 d1 f1]∧Zbc h.length h h'∧Zte h.length h' b0 n0 b1 n1 ys w∧n0≤d0∧n1≤d1∧b0≠none∧b1≠none∧∃ q,b1=some (q,0)∧h.length≤q∧h'[q]?=some (.cells Zac (Zdn eN ys) false):=by
 have hl0:=r.len0
 have hlc:=b.lc
 apply Zos.call
 simp only [Zaw]
 generalize hh0:h ++ [Zcd.cells Zab [.slice a0 n0 c0 e0,.slice a1 n1 c1 e1] false]=h0
 generalize hh1:h0 ++ [Zcd.cells Zab [.slice none 0 0 true,.slice none 0 0 true] false]=h1
 generalize hh2:h1 ++ [Zcd.cells Zbf [] false]=h2
 have s0:Zbc h.length h h0:=by rw [← hh0]; exact Zam
 have s1:Zbc h0.length h0 h1:=by rw [← hh1]; exact Zam
 have s2:Zbc h1.length h1 h2:=by rw [← hh2]; exact Zam
 have l0:h0.length=h.length + 1:=by rw [← hh0]; simp
 have l1:h1.length=h0.length + 1:=by rw [← hh1]; simp
 have l2:h2.length=h1.length + 1:=by rw [← hh2]; simp
 have x0:h0[h.length]?=some (.cells Zab [.slice a0 n0 c0 e0,.slice a1 n1 c1 e1] false):=by rw [← hh0]; simp
 have y1:h1[h0.length]?=some (.cells Zab [.slice none 0 0 true,.slice none 0 0 true] false):=by rw [← hh1]; simp
 have z2:h2[h1.length]?=some (.cells Zbf [] false):=by rw [← hh2]; simp
 have x2:=s2.get (s1.get x0 (by omega)) (by omega)
 have y2:=s2.get y1 (by omega)
 have S2:=(s0.cat s1).cat s2
 simp only [Zao x2,Nat.zero_add,List.getElem?_cons_succ,List.getElem?_cons_zero,Zae]
 refine Vec.app0 (n:=0) z2 Zxb Yhi Yhd Yig (by simp) ((r.same S2).cls.rowOf) (Zrs (enc:=eP) (fun _=>rfl) w.cs) (by omega) (fun h3 hl3 hi3 hk3=>?_)
 have x3:h3[h.length]?=some (.cells Zab [.slice a0 n0 c0 e0,.slice a1 n1 c1 e1] false):=by rw [hk3 _ (by omega) (by omega)]; exact x2
 have y3:h3[h0.length]?=some (.cells Zab [.slice none 0 0 true,.slice none 0 0 true] false):=by rw [hk3 _ (by omega) (by omega)]; exact y2
 have S3:Zbc h.length h h3:=⟨by omega,fun j hj=>by rw [hk3 j (by omega) (by omega)]; exact S2.eq j hj⟩
 simp only [Zae,Nat.zero_add]
 rw [Zbd x3 (by simp)]
 simp only [Zas,putRow,List.take_zero,List.length_cons,List.length_nil,List.drop_succ_cons,List.drop_zero,List.drop_nil,List.cons_append,List.nil_append,List.append_nil]
 generalize hh4:h3.set h.length (Zcd.cells Zab [.slice (some (h2.length,0)) n0 n0 false,.slice a1 n1 c1 e1] false)=h4
 have x4:h4[h.length]?=some (.cells Zab [.slice (some (h2.length,0)) n0 n0 false,.slice a1 n1 c1 e1] false):=by rw [← hh4]; exact Zbz x3
 have y4:h4[h0.length]?=some (.cells Zab [.slice none 0 0 true,.slice none 0 0 true] false):=by rw [← hh4,Zbs (by omega)]; exact y3
 have z4:h4[h2.length]?=some (.cells Zbf (Zdn eP w.cs) false):=by rw [← hh4,Zbs (by omega),hi3]; simp
 have S4:Zbc h.length h h4:=by rw [← hh4]; exact S3.set' (Nat.le_refl _)
 have l4:h4.length=h3.length:=by rw [← hh4]; simp
 simp only [Zao x4,List.getElem?_cons_succ,List.getElem?_cons_zero,Zae]
 refine (Yfj (r.same S4) b).mono ?_
 rintro v h5 ⟨b1,d1,f1,ys,rfl,hd1,s5,g5,hyl,hbn,hrep,hsep,hnn,qq,hqq1,hqq2,hqq3⟩
 simp only [Zae]
 have l5:=s5.le
 have x5:=s5.get x4 (by omega)
 have y5:=s5.get y4 (by omega)
 have z5:=s5.get z4 (by omega)
 rw [Zbd x5 (by simp)]
 simp only [Zas,putRow,List.take_succ_cons,List.take_zero,List.length_cons,List.length_nil,List.drop_succ_cons,List.drop_zero,List.drop_nil,List.cons_append,List.nil_append,List.append_nil]
 rw [Zbk (Zbz x5)]
 simp only [Zaq,Zaf,Zan,Zae]
 have y6:(h5.set h.length (Zcd.cells Zab [.slice (some (h2.length,0)) n0 n0 false,.slice b1 n1 d1 f1] false))[h0.length]?=some (.cells Zab [.slice none 0 0 true,.slice none 0 0 true] false):=by rw [Zbs (by omega)]; exact y5
 rw [Zbd y6 (by simp)]
 simp only [Zas,putRow,List.take_zero,List.length_cons,List.length_nil,List.drop_succ_cons,List.drop_zero,List.drop_nil,List.cons_append,List.nil_append,List.append_nil]
 rw [Zbk (Zbz y6)]
 simp only [Zaq,Zaf,Zan,Zae]
 have kp:∀ j,h2.length≤j→((h5.set h.length (Zcd.cells Zab [.slice (some (h2.length,0)) n0 n0 false,.slice b1 n1 d1 f1] false)).set h0.length (Zcd.cells Zab [.slice (some (h2.length,0)) n0 n0 false,.slice b1 n1 d1 f1] false))[j]?=h5[j]?:=fun j hj=>by rw [Zbs (by omega),Zbs (by omega)]
 refine ⟨_,_,_,_,_,_,ys,rfl,⟨by simp; omega,fun j hj=>?_⟩,⟨⟨hl0,.inr ⟨h2.length,rfl,by omega,by rw [kp _ (Nat.le_refl _)]; exact z5⟩⟩,g5.keep (by omega) fun j hj _=>kp j (by omega),hyl,fun k x i hx hi=>?_,hsep,hnn,by simp⟩,Nat.le_refl _,hd1,by simp,hbn,qq,hqq1,by omega,by rw [kp qq (by omega)]; exact hqq3⟩
 ·rw [Zbs (by omega),Zbs (by omega),s5.eq j (by omega)]; exact S4.eq j hj
 ·obtain ⟨p1,p2,p3⟩:=hrep k x i hx hi
  exact ⟨p1,p2,p3.keep (by omega) fun j hj _=>kp j (by omega)⟩
end Go.Sim

set_option linter.unusedSimpArgs false
set_option linter.unusedVariables false
namespace Go.Sim
def Yui:Nat→List Nat→Option (Ty × List Nat)
 | 0,_=>none
 | f + 1,c :: 40 :: r=>(match Yui f r with
  | some (a,41 :: r')=>some (.u c a,r')
  | some (a,44 :: r')=>(match Yui f r' with | some (b,41 :: r'')=>some (.w c a b,r'') | _=>none)
  | _=>none)
 | f + 1,c :: r=>some (.k c,r)
 | _,[]=>none
def Yos (s:List Nat):Bool:=match Yui 30 s with | some (t,[])=>t.ok && decide (t.txt=s) && decide (s.length≤60) | _=>false
theorem Yhy {s:List Nat} (h:Yos s=true):Zml s=true:=by
 unfold Yos at h
 split at h
 ·rename_i t _
  simp only [Bool.and_eq_true,decide_eq_true_eq] at h
  exact Zsm.2 ⟨t,h.1.1,h.1.2.symm,h.2⟩
 ·cases h
def Ygl (cs:List Nd) (t:List Nat) (n:Nd):Bool:=Zfz cs n.1 && Yos n.2 && decide (n.2.length≤20) && (Zkn n.2).all fun v=>decide (v∈t)
def Ykr (cs:List Nd) (i:Ins):Bool:=Zkg cs && Zfz cs i.1.1 && Yos i.1.2 && decide (i.1.2.length≤20) && !Zlf i.1.2 && decide (i.2.length≤3) && i.2.all (Ygl cs i.1.2)
def Ybi (w:Wd):Bool:=Zkg w.cs && decide (w.is.length≤10) && w.is.all (Ykr w.cs)
theorem Yjh {cs:List Nd} {t:List Nat} {n:Nd} (h:Ygl cs t n=true):Zjl cs t n=true:=by
 unfold Ygl at h
 unfold Zjl
 simp only [Bool.and_eq_true] at h ⊢
 exact ⟨⟨⟨h.1.1.1,Yhy h.1.1.2⟩,h.1.2⟩,h.2⟩
theorem Ymx {cs:List Nd} {i:Ins} (h:Ykr cs i=true):Zmu cs i=true:=by
 unfold Ykr at h
 unfold Zmu
 simp only [Bool.and_eq_true,List.all_eq_true] at h ⊢
 exact ⟨⟨⟨⟨⟨⟨h.1.1.1.1.1.1,h.1.1.1.1.1.2⟩,Yhy h.1.1.1.1.2⟩,h.1.1.1.2⟩,h.1.1.2⟩,h.1.2⟩,fun n hn=>Yjh (h.2 n hn)⟩
theorem Yff {w:Wd} (h:Ybi w=true):Zeg w=true:=by
 unfold Ybi at h
 unfold Zeg
 simp only [Bool.and_eq_true,List.all_eq_true] at h ⊢
 exact ⟨h.1,fun i hi=>Ymx (h.2 i hi)⟩
end Go.Sim

set_option linter.unusedSimpArgs false
set_option linter.unusedVariables false
namespace Go.Sim
def Yce (s:List Nat):Nd:=match s with | c :: d :: e :: r=>if d=60 then ([c],e :: r) else (s,[]) | _=>(s,[])
noncomputable def Yas (s:List Nat):Option Ins:=
 match Zcq 58 s with
 | [a]=>(Zmi a).map fun n=>(n,[])
 | [a,b]=>(Zmi a).bind fun n=>((Zcq 38 b).mapM Zmi).map fun l=>(n,l)
 | _=>none
def Yoh:Wd:=⟨[],[]⟩
noncomputable def wdQ (w:Wd):Wd:=if Zeg w then w else Yoh
noncomputable def wdP (s:List Nat):Wd:=
 match ((Zcq 59 s).drop 1).mapM Yas with
 | some l=>wdQ ⟨(Zcq 32 ((Zcq 59 s).headD [])).map Yce,l⟩
 | none=>Yoh
structure WS (m:Nat) (w:Wd):Prop where
 lc:w.cs.length≤m
 li:w.is.length≤m
 cs:∀ p∈w.cs,p.1.length≤1000∧p.2.length≤1000∧∀ b∈p.1,b < 256
 is:∀ i∈w.is,i.1.1.length≤1000∧i.1.2.length≤1000∧i.2.length≤1000∧∀ p∈i.2,p.1.length≤1000∧p.2.length≤1000
theorem WS.mono {m n:Nat} {w:Wd} (s:WS m w) (h:m≤n):WS n w:=⟨by have:=s.lc; omega,by have:=s.li; omega,s.cs,s.is⟩
theorem Ytu {m:Nat}:WS m Yoh:=⟨by simp [Yoh],by simp [Yoh],by simp [Yoh],by simp [Yoh]⟩
theorem WS.addI {m:Nat} {w:Wd} (s:WS m w) {i:Ins} (h:i.1.1.length≤1000∧i.1.2.length≤1000∧i.2.length≤1000∧∀ p∈i.2,p.1.length≤1000∧p.2.length≤1000):WS (m + 1) ⟨w.cs,w.is ++ [i]⟩:=
 ⟨by have:=s.lc; simp; omega,by have:=s.li; simp; omega,s.cs,fun j hj=>by
  rcases List.mem_append.1 hj with hj | hj
  ·exact s.is j hj
  ·rw [List.mem_singleton] at hj; subst hj; exact h⟩
theorem WS.addC {m:Nat} {w:Wd} (s:WS m w) {p:Nd} (h:p.1.length≤1000∧p.2.length≤1000∧∀ b∈p.1,b < 256):WS (m + 1) ⟨w.cs ++ [p],w.is⟩:=
 ⟨by have:=s.lc; simp; omega,by have:=s.li; simp; omega,fun q hq=>by
  rcases List.mem_append.1 hq with hq | hq
  ·exact s.cs q hq
  ·rw [List.mem_singleton] at hq; subst hq; exact h,s.is⟩
theorem Yhr {s:List Nat}:(Yce s).1.length≤s.length∧(Yce s).2.length≤s.length:=by
 unfold Yce
 split
 ·split <;> simp <;> omega
 ·simp
theorem Yeb {s:List Nat} (h:∀ b∈s,b < 256):∀ b∈(Yce s).1,b < 256:=by
 unfold Yce
 split
 ·split
  ·intro b hb; rw [List.mem_singleton] at hb; subst hb; exact h _ (by simp)
  ·exact h
 ·exact h
theorem Zif {c:Nat}:∀ {s:List Nat},(∀ b∈s,b < 256)→∀ p∈Zcq c s,∀ b∈p,b < 256
 | [],_=>by intro p hp; simp [Zcq] at hp; simp [hp]
 | x :: s,hb=>by
  have ih:=Zif (c:=c) (s:=s) fun b h=>hb b (by simp [h])
  intro p hp
  simp only [Zcq] at hp
  by_cases hx:x=c
  ·simp only [hx,if_true] at hp
   rcases List.mem_cons.1 hp with rfl | hp
   ·simp
   ·exact ih p hp
  ·simp only [if_neg hx] at hp
   cases hs:Zcq c s with
   | nil=>exact absurd hs (Zpl c s)
   | cons q r=>
    rw [hs] at hp ih
    rcases List.mem_cons.1 hp with rfl | hp
    ·intro b hbm
     rcases List.mem_cons.1 hbm with rfl | hbm
     ·exact hb _ (by simp)
     ·exact ih q (by simp) b hbm
    ·exact ih p (by simp [hp])
theorem Zwy {α β:Type} {f:α→Option β}:∀ {l:List α} {r:List β},l.mapM f=some r→r.length=l.length∧∀ y∈r,∃ x∈l,f x=some y
 | [],r,h=>by simp at h; subst h; exact ⟨rfl,by simp⟩
 | a :: l,r,h=>by
  simp only [List.mapM_cons] at h
  cases hf:f a with
  | none=>rw [hf] at h; cases h
  | some y=>
   rw [hf] at h
   cases hl:l.mapM f with
   | none=>rw [hl] at h; cases h
   | some ys=>
    rw [hl] at h; simp at h; subst h
    obtain ⟨h1,h2⟩:=Zwy hl
    refine ⟨by simp [h1],fun z hz=>?_⟩
    rcases List.mem_cons.1 hz with rfl | hz
    ·exact ⟨a,by simp,hf⟩
    ·obtain ⟨x,hx,hy⟩:=h2 z hz; exact ⟨x,by simp [hx],hy⟩
theorem Zhz {c:Nat} (s:List Nat):(Zcq c s).length≤s.length + 1:=by rw [Zkv]; have:=List.count_le_length (a:=c) (l:=s); omega
theorem Yaa {s:List Nat} {i:Ins} (hs:s.length≤900) (h:Yas s=some i):i.1.1.length≤1000∧i.1.2.length≤1000∧i.2.length≤1000∧∀ p∈i.2,p.1.length≤1000∧p.2.length≤1000:=by
 unfold Yas at h
 split at h
 ·rename_i a ha
  cases hn:Zmi a with
  | none=>rw [hn] at h; cases h
  | some n=>
   rw [hn] at h; cases h
   have:=Zxq hn
   simp only
   exact ⟨by omega,by omega,by simp,by simp⟩
 ·rename_i a b ha
  cases hn:Zmi a with
  | none=>rw [hn] at h; cases h
  | some n=>
   rw [hn] at h
   simp only [Option.bind_some] at h
   cases hl:(Zcq 38 b).mapM Zmi with
   | none=>rw [hl] at h; cases h
   | some l=>
    rw [hl] at h; cases h
    have:=Zxq hn
    obtain ⟨h1,h2⟩:=Zwy hl
    have hb:b.length≤s.length:=Zgm (c:=58) (by rw [ha]; simp)
    have h3:=Zhz (c:=38) b
    simp only
    refine ⟨by omega,by omega,by omega,fun p hp=>?_⟩
    obtain ⟨x,_,hx⟩:=h2 p hp
    have:=Zxq hx
    omega
 ·cases h
theorem Zye {s:List Nat} (hs:s.length≤900) (hb:∀ b∈s,b < 256):WS 1000 (wdP s):=by
 unfold wdP
 split
 ·rename_i l hl
  obtain ⟨h1,h2⟩:=Zwy hl
  unfold wdQ
  split
  ·have hhd:(Zcq 59 s).headD []∈Zcq 59 s:=by
    cases hx:Zcq 59 s with
    | nil=>exact absurd hx (Zpl 59 s)
    | cons a r=>simp
   have hh:=Zgm hhd
   have hhb:=Zif hb _ hhd
   refine ⟨?_,?_,fun p hp=>?_,fun i hi=>?_⟩
   ·have:=Zhz (c:=32) ((Zcq 59 s).headD []); simp only [List.length_map]; omega
   ·have:=Zhz (c:=59) s; simp only [h1,List.length_drop]; omega
   ·simp only [List.mem_map] at hp
    obtain ⟨q,hq,rfl⟩:=hp
    have:=Zgm hq
    have h3:=Yhr (s:=q)
    exact ⟨by omega,by omega,Yeb (Zif hhb q hq)⟩
   ·obtain ⟨x,hx,he⟩:=h2 i hi
    have:=Zgm (List.mem_of_mem_drop hx)
    exact Yaa (by omega) he
  ·exact Ytu
 ·exact Ytu
def Zud:List (List Nat):=[[69],[69,32,79,60,69],[65,32,66],[65,32,66,60,65,32,67,60,65,66],[69,32,79,60,69,32,83]]
theorem Yri:∀ s∈Zud,(wdP s).cs≠[]∧(wdP s).is=[]:=by
 have key:∀ s,(Zcq 59 s)=[s]→Ybi ⟨(Zcq 32 s).map Yce,[]⟩=true→(wdP s).cs≠[]∧(wdP s).is=[]:=by
  intro s h1 h2
  unfold wdP
  rw [h1]
  simp only [List.drop_succ_cons,List.drop_zero,List.mapM_nil,List.headD_cons]
  rw [show (pure []:Option (List Ins))=some [] from rfl]
  simp only
  unfold wdQ
  rw [if_pos (Yff h2)]
  refine ⟨?_,rfl⟩
  intro h
  have:=congrArg List.length h
  simp only [List.length_map,Zkv,List.length_nil] at this
  omega
 intro s hs
 simp only [Zud,List.mem_cons,List.not_mem_nil,or_false] at hs
 rcases hs with rfl | rfl | rfl | rfl | rfl <;> exact key _ (by decide) (by decide)
end Go.Sim

set_option linter.unusedVariables false
set_option linter.unusedSimpArgs false
set_option maxRecDepth 20000
namespace Go.Sim
open Go Go.RowKit

structure WDr (b:Nat) (h:Zaa) (a0:Pt) (n0 c0:Nat) (q n1 c1:Nat) (ys:List EI) (w:Wd):Prop where
 cls:Zdh Zbf eP b h a0 n0 w.cs
 le0:n0≤c0
 bq:b≤q
 ob:h[q]?=some (.cells Zac (Zdn eN ys) false)
 len:ys.length=n1
 wl:w.is.length=n1
 le1:n1≤c1
 need:∀ (k:Nat) (x:EI) (i:Ins),ys[k]?=some x→w.is[k]?=some i→x.c=i.1.1∧x.t=i.1.2∧Zdh Zad eP b h x.a x.n i.2
theorem Zdh.at {α:Type} {ty:TypeId} {enc:α→List Zau} {b:Nat} {h h':Zaa} {a:Pt} {n:Nat} {l:List α} (f:Zdh ty enc b h a n l) (hh:∀ j,b≤j→j < h.length→h'[j]?=h[j]?):Zdh ty enc b h' a n l:=
 ⟨f.1,f.2.imp id fun ⟨i,ha,hb,hi⟩=>⟨i,ha,hb,by rw [hh i hb (Own.lt hi)]; exact hi⟩⟩
section
variable {b:Nat} {h h':Zaa} {a0:Pt} {n0 c0 q n1 c1:Nat} {ys:List EI} {w:Wd}
theorem WDr.keep (d:WDr b h a0 n0 c0 q n1 c1 ys w) (hh:∀ j,b≤j→j < h.length→h'[j]?=h[j]?):WDr b h' a0 n0 c0 q n1 c1 ys w:=
 ⟨d.cls.at hh,d.le0,d.bq,by rw [hh q d.bq (Own.lt d.ob)]; exact d.ob,d.len,d.wl,d.le1,fun k x i hx hi=>⟨(d.need k x i hx hi).1,(d.need k x i hx hi).2.1,(d.need k x i hx hi).2.2.at hh⟩⟩
theorem WDr.same (d:WDr b h a0 n0 c0 q n1 c1 ys w) (s:Zbc h.length h h'):WDr b h' a0 n0 c0 q n1 c1 ys w:=d.keep fun j _ hj=>s.eq j hj
theorem WDr.kp {i:Nat} (d:WDr b h a0 n0 c0 q n1 c1 ys w) (s:Zdu i h h') (hi:i < b):WDr b h' a0 n0 c0 q n1 c1 ys w:=d.keep fun j hj hl=>s.eq j hl (by omega)
theorem WDr.low {b':Nat} (d:WDr b h a0 n0 c0 q n1 c1 ys w) (hb:b'≤b):WDr b' h a0 n0 c0 q n1 c1 ys w:=
 ⟨d.cls.low hb,d.le0,by have:=d.bq; omega,d.ob,d.len,d.wl,d.le1,fun k x i hx hi=>⟨(d.need k x i hx hi).1,(d.need k x i hx hi).2.1,(d.need k x i hx hi).2.2.low hb⟩⟩
theorem WDr.rep (d:WDr b h a0 n0 c0 q n1 c1 ys w):Zmf h a0 n0 c0 (some (q,0)) n1 c1 w:=by
 refine ⟨d.cls.row Zeb,⟨ys,?_,d.len.trans d.wl.symm,fun k x i hx hi=>⟨(d.need k x i hx hi).1,(d.need k x i hx hi).2.1,(d.need k x i hx hi).2.2.row Zeb⟩⟩,d.le0,d.le1⟩
 have:=(Vec.mk1 (n:=0) (c:=0) d.ob).row (m:=n1 * 3) (by rw [Zay Zpu,d.len])
 exact this
theorem WDr.of {a1:Pt} (f:Zte b h a0 n0 a1 n1 ys w) (h0:n0≤c0) (h1:n1≤c1) (hb:b≤q) (hq:h[q]?=some (.cells Zac (Zdn eN ys) false)):WDr b h a0 n0 c0 q n1 c1 ys w:=
 ⟨f.cls,h0,hb,hq,by have:=f.ins.1; exact this,by have:=f.ins.1; rw [← f.len]; exact this,h1,f.need⟩
theorem WDr.push (d:WDr b h a0 n0 c0 q n1 c1 ys w) {x:EI} {i:Ins} {q':Nat} (hx:x.c=i.1.1∧x.t=i.1.2∧Zdh Zad eP b h x.a x.n i.2) (hq':b≤q') (ho:h'[q']?=some (.cells Zac (Zdn eN (ys ++ [x])) false)) {z:Nat} (hz:∀ o,h[z]?=some o→∃ cs,o=.cells Zac cs false)
  (hh:∀ j,j < h.length→j≠z→h'[j]?=h[j]?) {c1':Nat} (hc:n1 + 1≤c1'):WDr b h' a0 n0 c0 q' (n1 + 1) c1' (ys ++ [x]) ⟨w.cs,w.is ++ [i]⟩:=by
 have off:∀ {j:Nat} {ty:TypeId} {cs:List Zau},ty≠Zac→h[j]?=some (.cells ty cs false)→h'[j]?=some (.cells ty cs false):=fun {j ty cs} hne hj=>by
  rw [hh j (Own.lt hj) (fun e=>by
   subst e
   obtain ⟨cs',hcs⟩:=hz _ hj
   injection hcs with h1 h2 h3
   exact hne h1)]
  exact hj
 have fr:∀ {a:Pt} {n:Nat} {l:List Nd},Zdh Zad eP b h a n l→Zdh Zad eP b h' a n l:=fun f=>⟨f.1,f.2.imp id fun ⟨j,ha,hb,hj⟩=>⟨j,ha,hb,off (by decide) hj⟩⟩
 refine ⟨⟨d.cls.1,d.cls.2.imp id fun ⟨j,ha,hb,hj⟩=>⟨j,ha,hb,off (by decide) hj⟩⟩,d.le0,hq',ho,by simp [d.len],by simp [d.wl],hc,fun k y j hy hj=>?_⟩
 by_cases hk:k < n1
 ·rw [List.getElem?_append_left (by rw [d.len]; exact hk)] at hy
  rw [List.getElem?_append_left (by rw [d.wl]; exact hk)] at hj
  obtain ⟨p1,p2,p3⟩:=d.need k y j hy hj
  exact ⟨p1,p2,fr p3⟩
 ·have hkn:k=n1:=by have:=(List.getElem?_eq_some_iff.1 hy).1; simp [d.len] at this; omega
  subst hkn
  rw [List.getElem?_append_right (by rw [d.len]; exact Nat.le_refl _)] at hy
  rw [List.getElem?_append_right (by rw [d.wl]; exact Nat.le_refl _)] at hj
  simp [d.len] at hy
  simp [d.wl] at hj
  subst hy; subst hj
  exact ⟨hx.1,hx.2.1,fr hx.2.2⟩
end
theorem WS.wb {m:Nat} {w:Wd} (s:WS m w) (h:m≤1048576):WB w:=
 ⟨Nat.le_trans s.lc h,Nat.le_trans s.li h,fun p hp=>⟨by have:=(s.cs p hp).1; omega,by have:=(s.cs p hp).2.1; omega,(s.cs p hp).2.2⟩,fun i hi=>by
  obtain ⟨h1,h2,h3,h4⟩:=s.is i hi
  exact ⟨by omega,by omega,by omega,fun p hp=>by have:=h4 p hp; omega⟩⟩

theorem Ymu {s a:List Nat} {r:List (List Nat)} (h:Zcq 58 s=a :: r) (hn:Zmi a=none):Yas s=none:=by
 unfold Yas
 rw [h]
 match r with
 | []=>simp only [hn]; rfl
 | [b]=>simp only [hn]; rfl
 | _ :: _ :: _=>rfl
theorem Ymz {s a b c:List Nat} {r:List (List Nat)} (h:Zcq 58 s=a :: b :: c :: r):Yas s=none:=by
 unfold Yas; rw [h]
theorem Yql {s a:List Nat} {p:Nd} (h:Zcq 58 s=[a]) (hn:Zmi a=some p):Yas s=some (p,[]):=by
 unfold Yas; rw [h]; simp only [hn]; rfl
theorem Yqm {s a b:List Nat} {p:Nd} (h:Zcq 58 s=[a,b]) (hn:Zmi a=some p):Yas s=((Zcq 38 b).mapM Zmi).map fun l=>(p,l):=by
 unfold Yas; rw [h]; simp only [hn]; rfl
def Yrq (s:List Nat) (h:Zaa) (v:Zau) (h':Zaa):Prop:=Zbc h.length h h'∧((∃ i a c e,Yas s=some i∧v=.tup [.agg [.str i.1.1,.str i.1.2,.slice a i.2.length c e],.bool true]∧i.2.length≤c∧Zdh Zad eP h.length h' a i.2.length i.2) ∨ (Yas s=none∧v=.tup [.agg [.str [],.str [],.slice none 0 0 true],.bool false]))
theorem Ybr {s:List Nat} {h h':Zaa} {z:Nat} {cs:List Zau} (S:Zbc h.length h h') (hz:h.length≤z) (hi:h'[z]?=some (.cells Zac cs false)) (hl:cs.length=3) (hn:Yas s=none) :
  Zbu (Zbb h' (.ptr (some (z,0))) [.str [],.str [],.slice none 0 0 true]) fun h_30=>Zco (Zbj h_30 (.ptr (some (z,0))) 3) fun cs_31=>Zaj cs_31 fun c_32 r_33=>Zbg (some c_32) fun s_34=>Zaj r_33 fun c_35 r_36=>Zbg (some c_35) fun s_37=>Zaj r_36 fun c_38 r_39=>xSl (some c_38) fun a_40 n_41 c_42 e_43=>Zbv r_39 (Yrq s h (.tup [.agg [.str s_34,.str s_37,.slice a_40 n_41 c_42 e_43],.bool false]) h_30):=by
 match cs,hl with
 | [x,y,w],_=>
  rw [Zbd hi (by simp)]
  simp only [Zas,putRow,List.take_zero,List.length_cons,List.length_nil,List.drop_succ_cons,List.drop_zero,List.drop_nil,List.cons_append,List.nil_append,List.append_nil,Nat.zero_add]
  rw [Zng (Zbz hi)]
  simp only [Zaq,Zaf,Zan,Zal,Zae]
  exact ⟨S.set' hz,.inr ⟨hn,rfl⟩⟩
theorem Ydd {s:List Nat} {h h':Zaa} {z y:Nat} {cs:List Zau} {i:Ins} {a:Pt} {n c:Nat} {e:Bool} (S:Zbc h.length h h') (hz:h.length≤z) (hi:h'[z]?=some (.cells Zac cs false)) (hl:cs.length=3)
  (hy:h'[y]?=some (.cells Zac [.str i.1.1,.str i.1.2,.slice a n c e] false)) (hzy:z≠y) (hc:n≤c) (fr:Zdh Zad eP h.length h' a n i.2) (hn:Yas s=some i) :
  Zdy.J16 (Yrq s h) y 0 z 0 h':=by
 have hil:=fr.1
 subst hil
 match cs,hl with
 | [x,w,u],_=>
  apply Zdy.J16i
  rw [Zng hy]
  simp only [Zaq,Zaf,Zan,Zal,Zae]
  rw [Zbd hi (by simp)]
  simp only [Zas,putRow,List.take_zero,List.length_cons,List.length_nil,List.drop_succ_cons,List.drop_zero,List.drop_nil,List.cons_append,List.nil_append,List.append_nil,Nat.zero_add]
  rw [Zng (Zbz hi)]
  simp only [Zaq,Zaf,Zan,Zal,Zae]
  refine ⟨S.set' hz,.inl ⟨i,a,c,e,hn,rfl,hc,fr.1,fr.2.imp id ?_⟩⟩
  rintro ⟨j,ha,hb,hj⟩
  exact ⟨j,ha,hb,by rw [Zbs (Zfm hi hj (by decide))]; exact hj⟩
theorem Zvr {h:Zaa} (s:List Nat) (hs:s.length≤1048576) (hb:∀ b∈s,b < 256):Zah pg Zis [.str s] h (Yrq s h):=by
 apply Zdy.call
 simp only [Zaw]
 generalize hh0:h ++ [Zcd.cells Zac [.str [],.str [],.slice none 0 0 true] false]=h0
 have s0:Zbc h.length h h0:=by rw [← hh0]; exact Zam
 have z0:h0[h.length]?=some (.cells Zac [.str [],.str [],.slice none 0 0 true] false):=by rw [← hh0]; simp
 have l0:h0.length=h.length + 1:=by rw [← hh0]; simp
 refine (Ydb hs).mono ?_
 rintro v h2 ⟨s2,j,cpj,e,rfl,hj,hrow⟩
 have hLl:(Zcq 58 s).length≤1048577:=by have:=Zhz (c:=58) s; omega
 have hmem:∀ p∈Zcq 58 s,p.length≤1048576:=fun p hp=>by have:=Zgm hp; omega
 have hby:=Zif (c:=58) hb
 generalize hL:Zcq 58 s=L at hrow hLl hmem hby
 have S2:=s0.cat s2
 have z2:=s2.get z0 (Own.lt z0)
 have l2:=s2.le
 simp only [Zae]
 generalize hh7:h2 ++ [Zcd.cells Zad [] false]=h7
 have s7:Zbc h2.length h2 h7:=by rw [← hh7]; exact Zam
 have e7:h7[h2.length]?=some (.cells Zad [] false):=by rw [← hh7]; simp
 have l7:h7.length=h2.length + 1:=by rw [← hh7]; simp
 generalize hh8:h7 ++ [Zcd.cells Zac [.str [],.str [],.slice none 0 0 true] false]=h8
 have s8:Zbc h7.length h7 h8:=by rw [← hh8]; exact Zam
 have o8:h8[h7.length]?=some (.cells Zac [.str [],.str [],.slice none 0 0 true] false):=by rw [← hh8]; simp
 have l8:h8.length=h7.length + 1:=by rw [← hh8]; simp
 rw [Zbd o8 (by simp)]
 simp only [Zas,putRow,List.take_zero,List.length_cons,List.length_nil,List.drop_succ_cons,List.drop_zero,List.drop_nil,List.cons_append,List.nil_append,List.append_nil,Nat.zero_add]
 have o9:=Zbz o8 (x:=.cells Zac [.str [],.str [],.slice (some (h2.length,0)) 0 0 true] false)
 have s9:Zbc h7.length h7 (h8.set h7.length (.cells Zac [.str [],.str [],.slice (some (h2.length,0)) 0 0 true] false)):=s8.set' (Nat.le_refl _)
 have l9:(h8.set h7.length (.cells Zac [.str [],.str [],.slice (some (h2.length,0)) 0 0 true] false)).length=h8.length:=by simp
 generalize h8.set h7.length (.cells Zac [.str [],.str [],.slice (some (h2.length,0)) 0 0 true] false)=h9 at o9 s9 l9 ⊢
 have S29:=s7.cat s9
 have S9:=S2.cat S29
 have z9:=S29.get z2 (Own.lt z2)
 have e9:=s9.get e7 (Own.lt e7)
 have r9:=S29.get hrow (Own.lt hrow)
 have piece:∀ (G:Zaa),G[j]?=some (.cells Zbe (Zdn eS L) false)→∀ k (hk:k < L.length),Zag G (.ptr (some (j,k * 1)))=some (.str L[k]):=by
  intro G hG k hk
  obtain ⟨ii,o,hgl,hai,hii,hc⟩:=Row.el1 Zmc ((Vec.mk1 (n:=0) (c:=0) hG).row (m:=L.length) (by rw [Zay Zmc]; omega)) hk
  cases hai
  simpa [eS] using hc
 have hL0:0 < L.length:=by rw [← hL,Zkv]; omega
 refine ⟨⟨by omega,by omega⟩,?_⟩
 simp only [Zav,Nat.zero_add,show Int.toNat 0=0 from rfl,piece h9 r9 0 hL0,Zal]
 refine (Ztu L[0] (hmem _ (List.getElem_mem hL0)) (hby _ (List.getElem_mem hL0))).mono ?_
 rintro v h14 ⟨s14,hres⟩
 have S14:=S9.cat s14
 have z14:=s14.get z9 (Own.lt z9)
 have o14:=s14.get o9 (Own.lt o9)
 have r14:=s14.get r9 (Own.lt r9)
 have e14:=s14.get e9 (Own.lt e9)
 have l14:=s14.le
 obtain ⟨a0,rest,hLe⟩:∃ a r,L=a :: r:=by
  cases L with
  | nil=>simp at hL0
  | cons a r=>exact ⟨a,r,rfl⟩
 have h0e:L[0]=a0:=by simp [hLe]
 rcases hres with ⟨p,hp,rfl⟩ | ⟨hp,rfl⟩
 ·simp only [Zct,Zaf,Zdd,Zal,Zan,Zap]
  generalize hh28:h14 ++ [Zcd.cells Zad [.str [],.str []] false]=h28
  have s28:Zbc h14.length h14 h28:=by rw [← hh28]; exact Zam
  have n28:h28[h14.length]?=some (.cells Zad [.str [],.str []] false):=by rw [← hh28]; simp
  have l28:h28.length=h14.length + 1:=by rw [← hh28]; simp
  rw [Zbd n28 (by simp)]
  simp only [Zas,putRow,List.take_zero,List.length_cons,List.length_nil,List.drop_succ_cons,List.drop_zero,List.drop_nil,List.cons_append,List.nil_append,List.append_nil,Nat.zero_add,Bool.not_true,Zca]
  have n29:=Zbz n28 (x:=.cells Zad [.str p.1,.str p.2] false)
  have s29:Zbc h14.length h14 (h28.set h14.length (.cells Zad [.str p.1,.str p.2] false)):=s28.set' (Nat.le_refl _)
  have l29:(h28.set h14.length (.cells Zad [.str p.1,.str p.2] false)).length=h28.length:=by simp
  generalize h28.set h14.length (.cells Zad [.str p.1,.str p.2] false)=h29 at n29 s29 l29 ⊢
  have S29':=S14.cat s29
  have z29:=s29.get z14 (Own.lt z14)
  have o29:=s29.get o14 (Own.lt o14)
  have r29:=s29.get r14 (Own.lt r14)
  have e29:=s29.get e14 (Own.lt e14)
  refine Zat (fun hgt=>?_) (fun hle=>?_)
  ·refine Ybr S29' (Nat.le_refl _) z29 rfl ?_
   match rest,hLe with
   | [],hLe=>rw [hLe] at hgt; simp at hgt
   | [_],hLe=>rw [hLe] at hgt; simp at hgt
   | b :: c :: r,hLe=>exact Ymz (hL.trans hLe)
  apply Zdy.J6i
  rw [Zbk n29]
  simp only [Zaq,Zaf,Zan,Zal]
  rw [Zbd o29 (by simp)]
  simp only [Zas,putRow,List.take_zero,List.length_cons,List.length_nil,List.drop_succ_cons,List.drop_zero,List.drop_nil,List.cons_append,List.nil_append,List.append_nil,Nat.zero_add,Nat.add_zero]
  have hz7:h.length≠h7.length:=by omega
  have o30:=Zbz o29 (x:=.cells Zac [.str p.1,.str p.2,.slice (some (h2.length,0)) 0 0 true] false)
  have k30:∀ j,j≠h7.length→(h29.set h7.length (.cells Zac [.str p.1,.str p.2,.slice (some (h2.length,0)) 0 0 true] false))[j]?=h29[j]?:=fun j hj=>Zbs (fun e=>hj e.symm)
  have l30:(h29.set h7.length (.cells Zac [.str p.1,.str p.2,.slice (some (h2.length,0)) 0 0 true] false)).length=h29.length:=by simp
  have S30:Zbc h.length h (h29.set h7.length (.cells Zac [.str p.1,.str p.2,.slice (some (h2.length,0)) 0 0 true] false)):=S29'.set' (by omega)
  generalize h29.set h7.length (.cells Zac [.str p.1,.str p.2,.slice (some (h2.length,0)) 0 0 true] false)=h30 at o30 k30 l30 S30 ⊢
  have hjl:=Own.lt hrow
  have z30:h30[h.length]?=some (.cells Zac [.str [],.str [],.slice none 0 0 true] false):=by rw [k30 _ hz7]; exact z29
  have r30:h30[j]?=some (.cells Zbe (Zdn eS L) false):=by rw [k30 _ (by omega)]; exact r29
  have e30:h30[h2.length]?=some (.cells Zad [] false):=by rw [k30 _ (by omega)]; exact e29
  refine Zcx (fun h2e=>?_) (fun hne=>?_)
  ·obtain ⟨b,rfl⟩:∃ b,rest=[b]:=by
    have:L.length=2:=by omega
    rw [hLe] at this
    match rest,this with
    | [b],_=>exact ⟨b,rfl⟩
   have hL1:1 < L.length:=by omega
   have h1e:L[1]=b:=by simp [hLe]
   have hbm:b∈L:=by rw [← h1e]; exact List.getElem_mem hL1
   refine ⟨⟨by omega,by omega⟩,?_⟩
   simp only [Zav,Nat.zero_add,show Int.toNat 1=1 from rfl,piece h30 r30 1 hL1,Zal,h1e]
   refine (Ydb (hmem b hbm)).mono ?_
   rintro v h31 ⟨s31,j2,cpj2,e2,rfl,hj2,hrow2⟩
   have hPl:(Zcq 38 b).length≤1048577:=by have:=Zhz (c:=38) b; have:=hmem b hbm; omega
   have hmem2:∀ p∈Zcq 38 b,p.length≤1048576:=fun p hp=>by have:=Zgm hp; have:=hmem b hbm; omega
   have hby2:=Zif (c:=38) (hby b hbm)
   have hins:=Yqm (hL.trans hLe) (by rw [← h0e]; exact hp)
   generalize hP:Zcq 38 b=P at hrow2 hPl hmem2 hby2 hins
   simp only [Zae]
   have S31:=S30.cat s31
   have z31:=s31.get z30 (Own.lt z30)
   have o31:=s31.get o30 (Own.lt o30)
   have e31:=s31.get e30 (Own.lt e30)
   have hj2l:=Own.lt hrow2
   refine Zdy.L9ind (J:=fun (g:Nat) x41 h'=>x41=(g:Int)∧g≤P.length∧Zbc h.length h h'∧h'[h.length]?=some (.cells Zac [.str [],.str [],.slice none 0 0 true] false)∧h'[j2]?=some (.cells Zbe (Zdn eS P) false) ∧
     ∃ (l:List Nd) (q c:Nat) (e:Bool),(P.take g).mapM Zmi=some l∧l.length=g∧h'[h7.length]?=some (.cells Zac [.str p.1,.str p.2,.slice (some (q,0)) g c e] false)∧h'[q]?=some (.cells Zad (Zdn eP l) false)∧h.length≤q∧g≤c) (m:=fun g=>P.length - g) (hr:=?_) (g:=0)
    (hj:=⟨rfl,by omega,S31,z31,hrow2,[],h2.length,0,true,by simp,rfl,o31,e31,by omega,Nat.le_refl _⟩) ..
   rintro g x41 h' ⟨rfl,hg,hS,hz,hr,l,q,c,e,hl,hll,ho,hq,hqb,hgc⟩ R hR
   unfold Zdy.L9t
   refine Zat (fun hlt=>?_) (fun hge=>?_)
   ·have hlt':g < P.length:=by omega
    obtain ⟨ii,oo,hgl,hai,hii,hc⟩:=Row.el1 Zmc ((Vec.mk1 (n:=0) (c:=0) hr).row (m:=P.length) (by rw [Zay Zmc]; omega)) hlt'
    cases hai
    simp only [Zav,Int.toNat_natCast,hc,eS,List.getElem?_cons_zero,Zal]
    refine ⟨by omega,(Ztu P[g] (hmem2 _ (List.getElem_mem hgl)) (hby2 _ (List.getElem_mem hgl))).mono ?_⟩
    rintro v k2 ⟨t2,hres⟩
    have hstep:(P.take (g + 1)).mapM Zmi=(Zmi P[g]).map fun y=>l ++ [y]:=by rw [List.take_succ_eq_append_getElem hgl,Ydw,hl]; rfl
    have T2:=hS.cat t2
    have zk:=t2.get hz (Own.lt hz)
    have ok:=t2.get ho (Own.lt ho)
    have qk:=t2.get hq (Own.lt hq)
    have rk:=t2.get hr (Own.lt hr)
    have tl:=t2.le
    have tl0:=hS.le
    have hol:=Own.lt ho
    have hzl:=Own.lt hz
    have hrl:=Own.lt hr
    have hql:=Own.lt hq
    rcases hres with ⟨p',hp',rfl⟩ | ⟨hp',rfl⟩
    ·simp only [Zct,Zaf,Zdd,Zal,Zan,Zap,Zaw]
     generalize hk3:k2 ++ [Zcd.cells Zad [.str [],.str []] false]=k3
     have t3:Zbc k2.length k2 k3:=by rw [← hk3]; exact Zam
     have n3:k3[k2.length]?=some (.cells Zad [.str [],.str []] false):=by rw [← hk3]; simp
     have tl3:k3.length=k2.length + 1:=by rw [← hk3]; simp
     rw [Zbd n3 (by simp)]
     simp only [Zas,putRow,List.take_zero,List.length_cons,List.length_nil,List.drop_succ_cons,List.drop_zero,List.drop_nil,List.cons_append,List.nil_append,List.append_nil,Nat.zero_add,Bool.not_true,Zca]
     have n4:=Zbz n3 (x:=.cells Zad [.str p'.1,.str p'.2] false)
     have t4:Zbc k2.length k2 (k3.set k2.length (.cells Zad [.str p'.1,.str p'.2] false)):=t3.set' (Nat.le_refl _)
     have tl4:(k3.set k2.length (.cells Zad [.str p'.1,.str p'.2] false)).length=k3.length:=by simp
     generalize k3.set k2.length (.cells Zad [.str p'.1,.str p'.2] false)=k4 at n4 t4 tl4 ⊢
     have T4:=T2.cat t4
     have z4:=t4.get zk (Own.lt zk)
     have o4:=t4.get ok (Own.lt ok)
     have q4:=t4.get qk (Own.lt qk)
     have r4:=t4.get rk (Own.lt rk)
     simp only [Zao o4,List.getElem?_cons_succ,List.getElem?_cons_zero,Zae]
     rw [Zbk n4]
     simp only [Zaq,Zaf,Zan,Zal]
     refine (Vec.mk1 (n:=g) (c:=c) q4).pushN (sz:=2) Ybo Ylm Ykq Ykl (by rw [Zay Zeb,hll]) rfl (by omega) rfl (by omega) (fun k5 hl5 hi5 hk5=>?_)
     have keep:∀ {x:Nat} {y:Zcd},k4[x]?=some y→x≠q→k5[x]?=some y:=fun {x y} hx hne=>by rw [hk5 x (Own.lt hx) (fun i hi=>by cases hi; exact hne)]; exact hx
     have hqo:h7.length≠q:=Zfm o4 q4 (by decide)
     have hqz:h.length≠q:=Zfm z4 q4 (by decide)
     have hqr:j2≠q:=Zfm r4 q4 (by decide)
     have o5:=keep o4 hqo
     simp only [Zae]
     rw [Zbd o5 (by simp)]
     simp only [Zas,putRow,List.take_succ_cons,List.take_zero,List.length_cons,List.length_nil,List.drop_succ_cons,List.drop_zero,List.drop_nil,List.cons_append,List.nil_append,List.append_nil]
     rw [Zbl (by omega)]
     have z5:=keep z4 hqz
     have r5:=keep r4 hqr
     refine hR (g + 1) _ _ (by omega) ⟨rfl,by omega,?_,by rw [Zbs (Ne.symm hz7)]; exact z5,by rw [Zbs (Zfm o5 r5 (by decide))]; exact r5,l ++ [p'],k4.length + 1,g + 1,false,by rw [hstep,hp']; rfl,by simp [hll],Zbz o5,?_,by omega,Nat.le_refl _⟩
     ·exact Zbc.set' ⟨by omega,fun x hx=>by rw [hk5 x (by omega) (fun i hi=>by cases hi; omega)]; exact T4.eq x hx⟩ (by omega)
     ·rw [Zbs (by omega)]; simpa [eP] using hi5
    ·simp only [Zct,Zaf,Zdd,Zal,Zan,Zap,Zaw]
     generalize hk3:k2 ++ [Zcd.cells Zad [.str [],.str []] false]=k3
     have t3:Zbc k2.length k2 k3:=by rw [← hk3]; exact Zam
     have n3:k3[k2.length]?=some (.cells Zad [.str [],.str []] false):=by rw [← hk3]; simp
     rw [Zbd n3 (by simp)]
     simp only [Zas,Bool.not_false,Zcn]
     have t4:Zbc k2.length k2 (k3.set k2.length (.cells Zad (putRow [.str [],.str []] 0 [.str [],.str []]) false)):=t3.set' (Nat.le_refl _)
     refine Ybr (T2.cat t4) (Nat.le_refl _) (t4.get zk (Own.lt zk)) rfl ?_
     rw [hins,Zwm (k:=g + 1) Zmi (by rw [hstep,hp']; rfl)]; rfl
   ·apply Zdy.A9x0i
    have:g=P.length:=by omega
    subst this
    rw [List.take_length] at hl
    exact Ydd (i:=(p,l)) hS (Nat.le_refl _) hz rfl ho hz7 hgc ⟨hll,.inr ⟨q,rfl,hqb,hq⟩⟩ (by rw [hins,hl]; rfl)
  ·obtain rfl:rest=[]:=by
    match rest,hLe with
    | [],_=>rfl
    | [_],hLe=>exact absurd (by rw [hLe]; rfl) hne
    | _ :: _ :: _,hLe=>rw [hLe] at hle; simp at hle; omega
   exact Ydd (i:=(p,[])) S30 (Nat.le_refl _) z30 rfl o30 hz7 (Nat.le_refl _) ⟨rfl,.inl rfl⟩ (Yql (hL.trans hLe) (by rw [← h0e]; exact hp))
 ·simp only [Zct,Zaf,Zdd,Zal,Zan,Zap]
  generalize hh28:h14 ++ [Zcd.cells Zad [.str [],.str []] false]=h28
  have s28:Zbc h14.length h14 h28:=by rw [← hh28]; exact Zam
  have n28:h28[h14.length]?=some (.cells Zad [.str [],.str []] false):=by rw [← hh28]; simp
  rw [Zbd n28 (by simp)]
  simp only [Zas,Bool.not_false,Zcn]
  have s29:Zbc h14.length h14 (h28.set h14.length (.cells Zad (putRow [.str [],.str []] 0 [.str [],.str []]) false)):=s28.set' (Nat.le_refl _)
  exact Ybr (S14.cat s29) (Nat.le_refl _) (s29.get z14 (Own.lt z14)) rfl (Ymu (hL.trans hLe) (by rw [← h0e]; exact hp))
end Go.Sim

set_option linter.unusedVariables false
set_option linter.unusedSimpArgs false
set_option maxRecDepth 20000
namespace Go.Sim
open Go Go.RowKit

theorem Yaj {h:Zaa} {s:List Nat} {c:Nat} (hs:s.length≤1048576):Zah pg Zgx [.str s,.int .u8 (c:Int)] h fun v h'=>Zbc h.length h h' ∧
  ∃ j cp e,v=.slice (some (j,0)) (Zcq c s).length cp e∧h.length≤j∧(h'[j]?=some (.cells Zbe (Zdn eS (Zcq c s)) false)∧(Zcq c s).length≤cp):=by
 apply Zcz.call
 simp only [Zaw]
 refine Zcz.L4ind _ _ _ (J:=fun (g:Nat) a5 n5 c5 e5 x6 x7 h'=>x7=(g:Int)∧g≤s.length + 1∧Zbc h.length h h'∧∃ (done:List (List Nat)) (from_:Nat),n5=done.length∧x6=(from_:Int)∧done.length≤g∧Vec Zbe h' a5 n5 c5 (strs done)∧(∀ i,a5=some (i,0)→h.length≤i) ∧
   (g≤s.length→from_≤g∧c ∉ (s.take g).drop from_∧Zcq c s=done ++ Zcq c (s.drop from_))∧(g=s.length + 1→Zcq c s=done)∧n5≤c5) (fun g=>s.length + 1 - g) ?_ 0 _ _ _ _ _ _ _
  ⟨rfl,by omega,Zbc.app (Nat.le_refl _) _,[],0,rfl,rfl,by simp,Vec.mk1 (by simp),by simp,fun _=>⟨by omega,by simp,by simp⟩,by omega,Nat.le_refl _⟩
 rintro g a5 n5 c5 e5 x6 x7 h' ⟨rfl,hg,hS,done,from_,rfl,rfl,hdl,hv,ha,hin,hout,hc5⟩ R hR
 unfold Zcz.L4t
 refine Zat (fun hle=>?_) (fun hgt=>?_)
 ·obtain ⟨hf,hnc,hsp⟩:=hin (by omega)
  have push:∀ p,(∀ a n e h4,Zbc h.length h h4→n=done.length + 1→Vec Zbe h4 a n n (strs (done ++ [p]))→(∀ i,a=some (i,0)→h.length≤i)→Zcz.J5 (fun v h'=>Zbc h.length h h'∧∃ j cp e,v=.slice (some (j,0)) (Zcq c s).length cp e∧h.length≤j∧(h'[j]?=some (.cells Zbe (Zdn eS (Zcq c s)) false)∧(Zcq c s).length≤cp)) R (g:Int) s (c:Int) a n n e (IntKind.wrap .i64 ((g:Int) + 1)) h4) →
    Zda pg Zkd (h' ++ [.cells Zbe [.str p] false]) (.slice a5 done.length c5 e5) (.slice (some (List.length h',0)) 1 1 true) fun v_2 h_3=>xSl (some v_2) fun a_4 n_5 c_6 e_7=>Zcz.J5 (fun v h'=>Zbc h.length h h'∧∃ j cp e,v=.slice (some (j,0)) (Zcq c s).length cp e∧h.length≤j∧(h'[j]?=some (.cells Zbe (Zdn eS (Zcq c s)) false)∧(Zcq c s).length≤cp)) R (g:Int) s (c:Int) a_4 n_5 c_6 e_7 (IntKind.wrap .i64 ((g:Int) + 1)) h_3:=by
   intro p K
   refine hv.push Yao Yhn Yht Yhm (by simp) rfl (by omega) (fun h4 hl4 hi4 hk4=>?_)
   simp only [Zae]
   have hle:=hS.le
   refine K _ _ _ _ ⟨by omega,fun j hj=>?_⟩ rfl (Vec.mk1 (by simpa [strs] using hi4)) (fun i hi=>by cases hi; omega)
   rw [hk4 j (by omega) fun i hi=>by have:=ha i hi; omega]; exact hS.eq j hj
  refine Zcx (fun he=>?_) (fun hne=>?_)
  ·have hgs:g=s.length:=by omega
   subst hgs
   rw [Yby (j:=from_) (k:=s.length) rfl rfl,List.take_length]
   rw [List.take_length] at hnc
   refine ⟨⟨by omega,by omega,by omega⟩,push _ fun a n e h4 hS4 hn4 hv4 ha4=>Zcz.J5i _ _ _ _ _ _ _ _ _ _ _ ?_⟩
   rw [Zbl (by omega)]
   subst hn4
   exact hR (s.length + 1) _ _ _ _ _ _ _ (by omega) ⟨rfl,by omega,hS4,done ++ [s.drop from_],s.length + 1,by simp,rfl,by simp; omega,by simpa using hv4,ha4,by omega,fun _=>by rw [hsp,Ztq hnc],Nat.le_refl _⟩
  ·have hlt:g < s.length:=by omega
   refine ⟨⟨by omega,by omega⟩,?_⟩
   rw [Int.toNat_natCast,Zxi hlt]
   have htk:(s.take (g + 1)).drop from_=(s.take g).drop from_ ++ [s[g]]:=by
    rw [List.take_succ_eq_append_getElem hlt,List.drop_append_of_le_length (by simp; omega)]
   have hdr:s.drop from_=(s.take g).drop from_ ++ s[g] :: s.drop (g + 1):=by
    conv=>lhs; rw [← List.take_append_drop g s]
    rw [List.drop_append_of_le_length (by simp; omega),List.drop_eq_getElem_cons hlt]
   refine Zcx (fun he=>?_) (fun hne2=>?_)
   ·have hec:s[g]=c:=by omega
    rw [Yby (j:=from_) (k:=g) rfl rfl]
    refine ⟨⟨by omega,by omega,by omega⟩,push _ fun a n e h4 hS4 hn4 hv4 ha4=>Zcz.J5i _ _ _ _ _ _ _ _ _ _ _ ?_⟩
    rw [Zbl (by omega)]
    subst hn4
    refine hR (g + 1) _ _ _ _ _ _ _ (by omega) ⟨rfl,by omega,hS4,done ++ [(s.take g).drop from_],g + 1,by simp,rfl,by simp; omega,by simpa using hv4,ha4,fun _=>⟨by omega,by simp,?_⟩,by omega,Nat.le_refl _⟩
    rw [hsp,hdr,hec,Zvo hnc]; simp
   ·apply Zcz.J5i
    rw [Zbl (by omega)]
    refine hR (g + 1) _ _ _ _ _ _ _ (by omega) ⟨rfl,by omega,hS,done,from_,rfl,rfl,by omega,hv,ha,fun _=>⟨by omega,?_,hsp⟩,by omega,hc5⟩
    rw [htk]
    simp only [List.mem_append,List.mem_singleton,not_or]
    exact ⟨hnc,fun e=>hne2 (by rw [e])⟩
 ·have:g=s.length + 1:=by omega
  have hd:=hout this
  apply Zcz.A4x0i
  rw [hd]
  rcases hv with ⟨_,_,_,h0⟩ | ⟨i,rfl,hi⟩
  ·exact absurd (by rw [hd]; exact List.map_eq_nil_iff.1 h0) (Zpl c s)
  ·exact ⟨hS,_,_,_,rfl,ha i rfl,by rw [Yli]; exact hi,hc5⟩
end Go.Sim
