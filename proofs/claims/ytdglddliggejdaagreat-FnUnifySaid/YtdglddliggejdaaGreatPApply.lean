/- A part of the proof of a statement of this seat: see the text that holds the theorem. No condition. -/
import Derived.Test.YtdglddliggejdaaGreatPTCApply
import Derived.Test.YtdglddliggejdaaGreatPWorld
import Derived.Test.YtdglddliggejdaaGreatNm
import Derived.Test.YtdglddliggejdaaGreatSimX
import Derived.Test.YtdglddliggejdaaGreatShelf
import Derived.Test.YtdglddliggejdaaGreatPTCMatch2
set_option linter.unusedVariables false
set_option linter.unusedSimpArgs false
set_option linter.all false
set_option linter.unusedVariables false
set_option linter.unusedSimpArgs false
set_option maxRecDepth 20000
namespace Go.Sim
open Go Go.RowKit

def Zfa {α:Type} (ty:TypeId) (enc:α→List Zad) (b:Nat) (h:Zaa) (a:Pt) (n:Nat) (l:List α):Prop:=l.length=n∧(n=0 ∨ ∃ i,a=some (i,0)∧b≤i∧h[i]?=some (.cells ty (Zec enc l) false))
theorem Zfa.row {α:Type} {ty:TypeId} {enc:α→List Zad} {w b:Nat} {h:Zaa} {a:Pt} {n:Nat} {l:List α} (hw:∀ x,(enc x).length=w) (f:Zfa ty enc b h a n l):Row h.length h a (n * w) (Zec enc l):=by
 obtain ⟨hl,h0 | ⟨i,ha,hb,hi⟩⟩:=f
 ·subst h0
  have:l=[]:=List.eq_nil_of_length_eq_zero hl
  subst this; simp; exact Row.nil
 ·rw [ha]; exact (Vec.mk1 (n:=0) (c:=0) hi).row (by rw [Zbc hw,hl])
theorem Zfa.same {α:Type} {ty:TypeId} {enc:α→List Zad} {b:Nat} {h h':Zaa} {a:Pt} {n:Nat} {l:List α} (f:Zfa ty enc b h a n l) (s:Zbi h.length h h'):Zfa ty enc b h' a n l:=
 ⟨f.1,f.2.imp id fun ⟨i,ha,hb,hi⟩=>⟨i,ha,hb,by rw [s.eq i (Own.lt hi)]; exact hi⟩⟩
end Go.Sim

set_option linter.unusedVariables false
set_option linter.unusedSimpArgs false
set_option maxRecDepth 20000
namespace Go.Sim
open Go Go.RowKit

def Yfo (a:Pt) (n:Nat) (h h':Zaa):Prop:=h.length≤h'.length∧∀ j,j < h.length→(∀ i,a=some (i,0)→n≠0→j≠i)→h'[j]?=h[j]?
theorem Yfo.refl (a:Pt) (n:Nat) (h:Zaa):Yfo a n h h:=⟨Nat.le_refl _,fun _ _ _=>rfl⟩
theorem Yfo.same {a:Pt} {n:Nat} {h h1 h2:Zaa} (o:Yfo a n h h1) (s:Zbi h1.length h1 h2):Yfo a n h h2:=⟨Nat.le_trans o.1 s.le,fun j hj hn=>by rw [s.eq j (by have:=o.1; omega)]; exact o.2 j hj hn⟩
theorem Yfo.set {n i:Nat} {h h1:Zaa} {x:Zci} (o:Yfo (some (i,0)) n h h1) (hn:n≠0):Yfo (some (i,0)) n h (h1.set i x):=⟨by simp; exact o.1,fun j hj hne=>by rw [Zbr (fun e=>hne i rfl hn e.symm)]; exact o.2 j hj hne⟩
theorem Row.only {b:Nat} {h h':Zaa} {a a':Pt} {n m:Nat} {cs:List Zad} (r:Row b h a m cs) (o:Yfo a' n h h') (hb:∀ i,a'=some (i,0)→n≠0→b≤i):Row b h' a m cs:=by
 obtain ⟨hl,r⟩:=r
 refine ⟨hl,r.imp id ?_⟩
 rintro ⟨i,o',t,all,ro,ha,hi,hg,x⟩
 exact ⟨i,o',t,all,ro,ha,hi,by rw [o.2 i (Own.lt hg) fun j hj hn=>by have:=hb j hj hn; omega]; exact hg,x⟩
theorem Zfa.only {α:Type} {ty:TypeId} {enc:α→List Zad} {b:Nat} {h h':Zaa} {a a':Pt} {n m:Nat} {l:List α} (f:Zfa ty enc b h a n l) (o:Yfo a' m h h') (hb:∀ i,a'=some (i,0)→m≠0→∀ j,a=some (j,0)→j≠i):Zfa ty enc b h' a n l:=
 ⟨f.1,f.2.imp id fun ⟨i,ha,hbi,hi⟩=>⟨i,ha,hbi,by rw [o.2 i (Own.lt hi) fun j hj hn=>hb j hj hn i ha]; exact hi⟩⟩
end Go.Sim

set_option linter.unusedVariables false
set_option linter.unusedSimpArgs false
set_option maxRecDepth 20000
namespace Go.Sim
open Go Go.RowKit

structure EI where
 c:List Nat
 t:List Nat
 a:Pt
 n:Nat
 cp:Nat
 e:Bool
 deriving Inhabited
def eN (x:EI):List Zad:=[.str x.c,.str x.t,.slice x.a x.n x.cp x.e]
def Yjy (h:Zaa) (x:EI) (i:Ins):Prop:=x.c=i.1.1∧x.t=i.1.2∧Row h.length h x.a (x.n * 2) (Zec eP i.2)
def Ygs (h:Zaa) (xs:List EI) (is:List Ins):Prop:=xs.length=is.length∧∀ (k:Nat) (x:EI) (i:Ins),xs[k]?=some x→is[k]?=some i→Yjy h x i
structure Ylj (h:Zaa) (a0:Pt) (n0 c0:Nat) (a1:Pt) (n1 c1:Nat) (w:Wd):Prop where
 cls:Row h.length h a0 (n0 * 2) (Zec eP w.cs)
 ins:∃ xs,Row h.length h a1 (n1 * 3) (Zec eN xs)∧Ygs h xs w.is
 le0:n0≤c0
 le1:n1≤c1
theorem Row.same' {h h':Zaa} {a:Pt} {n:Nat} {cs:List Zad} (r:Row h.length h a n cs) (s:Zbi h.length h h'):Row h'.length h' a n cs:=(r.same s).mono s.le
theorem Yjy.same {h h':Zaa} {x:EI} {i:Ins} (r:Yjy h x i) (s:Zbi h.length h h'):Yjy h' x i:=⟨r.1,r.2.1,r.2.2.same' s⟩
theorem Ygs.same {h h':Zaa} {xs:List EI} {is:List Ins} (r:Ygs h xs is) (s:Zbi h.length h h'):Ygs h' xs is:=⟨r.1,fun k x i hx hi=>(r.2 k x i hx hi).same s⟩
theorem Ylj.same {h h':Zaa} {a0 a1:Pt} {n0 c0 n1 c1:Nat} {w:Wd} (r:Ylj h a0 n0 c0 a1 n1 c1 w) (s:Zbi h.length h h'):Ylj h' a0 n0 c0 a1 n1 c1 w:=
 ⟨r.cls.same' s,r.ins.imp fun xs ⟨r1,r2⟩=>⟨r1.same' s,r2.same s⟩,r.le0,r.le1⟩
theorem Yjy.len {h:Zaa} {x:EI} {i:Ins} (r:Yjy h x i):i.2.length=x.n:=by have:=r.2.2.1; rw [Zbc Zgl] at this; omega
theorem Ylj.len0 {h:Zaa} {a0 a1:Pt} {n0 c0 n1 c1:Nat} {w:Wd} (r:Ylj h a0 n0 c0 a1 n1 c1 w):w.cs.length=n0:=by have:=r.cls.1; rw [Zbc Zgl] at this; omega
theorem Row.pr {b:Nat} {h:Zaa} {a:Pt} {n:Nat} {l:List Nd} (r:Row b h a (n * 2) (Zec eP l)) {k:Nat} (hk:k < n) :
  ∃ i o,∃ hk':k < l.length,a=some (i,o)∧i < b∧Zcv h (.ptr (some (i,o + k * 2))) 2=some [.str l[k].1,.str l[k].2]∧Zah h (.ptr (some (i,o + k * 2)))=some (.str l[k].1)∧Zah h (.ptr (some (i,o + k * 2 + 1)))=some (.str l[k].2):=by
 have hl:l.length=n:=by have:=r.1; rw [Zbc Zgl] at this; omega
 obtain ⟨i,o,hk',ha,hi,hr,hc⟩:=Row.el Zgl r hl hk (by omega)
 exact ⟨i,o,hk',ha,hi,hr,by simpa [eP] using hc 0 (by omega),by simpa [eP] using hc 1 (by omega)⟩

def Mid (lo hi:Nat) (h h':Zaa):Prop:=h.length≤h'.length∧∀ j,j < h.length→(j < lo ∨ hi≤j)→h'[j]?=h[j]?
theorem Mid.refl (lo hi:Nat) (h:Zaa):Mid lo hi h h:=⟨Nat.le_refl _,fun _ _ _=>rfl⟩
theorem Mid.trans {lo hi:Nat} {h h1 h2:Zaa} (a:Mid lo hi h h1) (b:Mid lo hi h1 h2):Mid lo hi h h2:=⟨Nat.le_trans a.1 b.1,fun j hj hn=>by rw [b.2 j (by have:=a.1; omega) hn]; exact a.2 j hj hn⟩
theorem Mid.of_same {lo hi:Nat} {h h':Zaa} (s:Zbi h.length h h'):Mid lo hi h h':=⟨s.le,fun j hj _=>s.eq j hj⟩
theorem Mid.same {lo hi:Nat} {h h1 h2:Zaa} (a:Mid lo hi h h1) (s:Zbi h1.length h1 h2):Mid lo hi h h2:=a.trans (Mid.of_same s)
theorem Mid.set {lo hi i:Nat} {h h1:Zaa} {x:Zci} (o:Mid lo hi h h1) (h0:lo≤i) (h2:i < hi):Mid lo hi h (h1.set i x):=⟨by simp; exact o.1,fun j hj hne=>by rw [Zbr (by omega)]; exact o.2 j hj hne⟩
theorem Zfa.in {α:Type} {ty:TypeId} {enc:α→List Zad} {b:Nat} {h:Zaa} {a:Pt} {n:Nat} {l:List α} (f:Zfa ty enc b h a n l):∀ i,a=some (i,0)→n≠0→b≤i∧i < h.length:=by
 intro i hi hn
 rcases f.2 with h0 | ⟨j,ha,hb,hj⟩
 ·exact absurd h0 hn
 ·rw [hi] at ha; cases ha; exact ⟨hb,Own.lt hj⟩
structure Ydw (b:Nat) (h:Zaa) (a0:Pt) (n0:Nat) (a1:Pt) (n1:Nat) (xs:List EI) (w:Wd):Prop where
 cls:Zfa Zuq eP b h a0 n0 w.cs
 ins:Zfa Zra eN b h a1 n1 xs
 len:xs.length=w.is.length
 need:∀ (k:Nat) (x:EI) (i:Ins),xs[k]?=some x→w.is[k]?=some i→x.c=i.1.1∧x.t=i.1.2∧Zfa Zxm eP b h x.a x.n i.2
 sep:∀ (j k:Nat) (x y:EI),j≠k→xs[j]?=some x→xs[k]?=some y→x.n≠0→y.n≠0→x.a≠y.a
 nn:∀ x∈xs,x.a≠none
 nc:a0≠none
theorem Ydw.same {b:Nat} {h h':Zaa} {a0 a1:Pt} {n0 n1:Nat} {xs:List EI} {w:Wd} (f:Ydw b h a0 n0 a1 n1 xs w) (s:Zbi h.length h h'):Ydw b h' a0 n0 a1 n1 xs w:=
 ⟨f.cls.same s,f.ins.same s,f.len,fun k x i hx hi=>⟨(f.need k x i hx hi).1,(f.need k x i hx hi).2.1,(f.need k x i hx hi).2.2.same s⟩,f.sep,f.nn,f.nc⟩
end Go.Sim

set_option linter.unusedVariables false
set_option linter.unusedSimpArgs false
set_option maxRecDepth 20000
namespace Go.Sim
open Go Go.RowKit

def one (c:Nat):List Nat:=[c]
theorem Zwx:pg.underlying Ztj=some (.slice Zdb):=by kernel_rfl
theorem Yec:pg.cellsOf Zdb=1:=by kernel_rfl
theorem Ydd:pg.okElem Zdb=true:=by kernel_rfl
theorem Yef:pg.bytesOf Zdb≤127:=Nat.le_of_ble_eq_true (by kernel_rfl)
end Go.Sim

set_option linter.unusedVariables false
set_option linter.unusedSimpArgs false
set_option maxRecDepth 20000
namespace Go.Sim
open Go Go.RowKit

theorem Zph {h:Zaa} {t:TypeId} {cs:List Zad} {o:Nat}:Zah (h ++ [.cells t cs false]) (.ptr (some (h.length,o)))=cs[o]?:=Zal (t:=t) (cs:=cs) (ro:=false) (by simp)
theorem Ydt {h:Zaa} {t:TypeId} {cs:List Zad} {n:Nat} (hn:cs.length=n):Zcv (h ++ [.cells t cs false]) (.ptr (some (h.length,0))) n=some cs:=by
 rw [Zfv (show (h ++ [Zci.cells t cs false])[h.length]?=some (.cells t cs false) by simp) (by omega)]; simp [← hn]
theorem Zav {h:Zaa} {x:Zci}:Zbi h.length h (h ++ [x]):=Zbi.app (Nat.le_refl _) _
theorem Ybc {h:Zaa} {t:TypeId} {cs vs:List Zad} (hl:cs.length=vs.length):Zbf (h ++ [.cells t cs false]) (.ptr (some (h.length,0))) vs=some (h ++ [.cells t vs false]):=by
 rw [Zbj (show (h ++ [Zci.cells t cs false])[h.length]?=some (.cells t cs false) by simp) (by omega)]
 simp [putRow,hl]
theorem Zgg {h:Zaa} {t:TypeId} {x y a b:Zad}:Zbf (h ++ [.cells t [x,y] false]) (.ptr (some (h.length,0))) [a,b]=some (h ++ [.cells t [a,b] false]):=Ybc rfl
theorem Row.sl {b:Nat} {h:Zaa} {a:Pt} {n k:Nat} {l:List Nd} (r:Row b h a (n * 2) (Zec eP l)) (hk:k≤n) (hl:l.length=n):Row b h a (k * 2) (Zec eP (l.take k)):=by
 obtain ⟨h1,h2⟩:=r
 have e:(Zec eP (l.take k)).length=k * 2:=by rw [Zbc Zgl,List.length_take,Nat.min_eq_left (by omega)]
 refine ⟨e,?_⟩
 rcases h2 with h0 | ⟨i,o,t,all,ro,ha,hb,hi,hle,hcs⟩
 ·exact .inl (by omega)
 ·refine .inr ⟨i,o,t,all,ro,ha,hb,hi,by omega,?_⟩
  rw [← Zxa Zgl,hcs,List.take_take,Nat.min_eq_left (by omega)]
end Go.Sim

set_option linter.unusedVariables false
set_option linter.unusedSimpArgs false
set_option maxRecDepth 20000
namespace Go.Sim
open Go Go.RowKit
end Go.Sim

set_option linter.unusedVariables false
set_option linter.unusedSimpArgs false
set_option maxRecDepth 20000
namespace Go.Sim
open Go Go.RowKit

theorem Yjq (c:Nat):decide (c∈[120,121,122,88,89,90])=Zam c:=by rw [Bool.eq_iff_iff]; simp [Zam,or_assoc]
theorem Zjv {h:Zaa} (s:List Nat):Zac pg Zbx [.str s] h fun v h'=>v=.bool (Zku s)∧h'=h:=by
 apply Zpn.call
 match s with
 | []=>exact Zcq (fun h1=>by simp at h1) (fun h1=>⟨rfl,rfl⟩)
 | [c]=>
  refine Zcq (fun h1=>?_) (fun h1=>by simp at h1)
  refine Zpj.mono ?_
  rintro v h' ⟨rfl,rfl⟩
  simp only [Zag]
  exact ⟨by rw [Yjq]; rfl,by trivial⟩
 | c :: d :: r=>exact Zcq (fun h1=>by simp at h1; omega) (fun h1=>⟨rfl,rfl⟩)
theorem Zul {h:Zaa} (c:Nat):Zac pg Zgy [.int .u8 (c:Int)] h fun v h'=>v=.bool (Zam c)∧h'=h:=by
 apply Zjo.call
 refine (Zxg _ c (by simp)).mono ?_
 rintro v h' ⟨rfl,rfl⟩
 simp only [Zae]
 exact ⟨by rw [Yjj],by trivial⟩
noncomputable def Yke (s v:List Nat):Int:=if Znl s && Zku v then (s.count (v.headD 0):Nat) else -1
end Go.Sim

set_option linter.unusedVariables false
set_option linter.unusedSimpArgs false
set_option maxRecDepth 20000
namespace Go.Sim
open Go Go.RowKit

end Go.Sim

set_option linter.unusedVariables false
set_option linter.unusedSimpArgs false
set_option maxRecDepth 20000
namespace Go.Sim
open Go Go.RowKit

structure WB (w:Wd):Prop where
 lc:w.cs.length≤1048576
 li:w.is.length≤1048576
 cs:∀ p∈w.cs,p.1.length≤1048576∧p.2.length≤1048576∧∀ b∈p.1,b < 256
 is:∀ i∈w.is,i.1.1.length≤1048576∧i.1.2.length≤1048576∧i.2.length≤1048576∧∀ p∈i.2,p.1.length≤1048576∧p.2.length≤1048576
theorem Zbi.get {b:Nat} {h h':Zaa} {j:Nat} {x:Zci} (s:Zbi b h h') (hj:h[j]?=some x) (hb:j < b):h'[j]?=some x:=by rw [s.eq j hb]; exact hj
theorem Zbi.cat {h h1 h2:Zaa} (a:Zbi h.length h h1) (b:Zbi h1.length h1 h2):Zbi h.length h h2:=a.trans (b.mono a.le)

theorem Ybp {h:Zaa} {t:TypeId} {x y:Zad}:Zcv (h ++ [.cells t [x,y] false]) (.ptr (some (h.length,0))) 2=some [x,y]:=Ydt rfl
end Go.Sim

set_option linter.unusedVariables false
set_option linter.unusedSimpArgs false
set_option maxRecDepth 20000
namespace Go.Sim
open Go Go.RowKit

end Go.Sim

set_option linter.unusedVariables false
set_option linter.unusedSimpArgs false
set_option maxRecDepth 20000
namespace Go.Sim
open Go Go.RowKit
end Go.Sim

set_option linter.unusedVariables false
set_option linter.unusedSimpArgs false
set_option maxRecDepth 20000
namespace Go.Sim
open Go Go.RowKit

def isz (i:Ins):Nat:=i.1.1.length + i.1.2.length + (i.2.length + Ydn i.2)
def Ygd (l:List Ins):Nat:=(l.map isz).sum
def wsz (w:Wd):Nat:=w.cs.length + Ydn w.cs + (w.is.length + Ygd w.is)
theorem Yfl {l:List Ins} {g:Nat} (h:g < l.length):Ygd (l.take (g + 1))=Ygd (l.take g) + isz l[g]:=by
 unfold Ygd; rw [List.take_succ_eq_append_getElem h,List.map_append,List.sum_append]; simp
theorem Zup (l:List Ins) (g:Nat):Ygd (l.take g)≤Ygd l:=by
 conv=>rhs; rw [← List.take_append_drop g l]
 unfold Ygd; rw [List.map_append,List.sum_append]; omega
theorem Ygm {l:List Ins} {g:Nat} (h:g < l.length):isz l[g]≤Ygd l:=by
 have:=Yfl h; have:=Zup l (g + 1); omega
def Ygu (n:Nat):Prop:=n≤9223372036854775807
structure Ync (w:Wd):Prop where
 lc:Ygu w.cs.length
 li:Ygu w.is.length
 cs:∀ p∈w.cs,Ygu p.1.length∧Ygu p.2.length∧∀ b∈p.1,b < 256
 is:∀ i∈w.is,Ygu i.1.1.length∧Ygu i.1.2.length∧Ygu i.2.length∧∀ p∈i.2,Ygu p.1.length∧Ygu p.2.length
theorem WB.of {w:Wd} (b:Ync w) (h:wsz w≤1048576):WB w:=by
 have h1:∀ p∈w.cs,p.1.length + p.2.length≤Ydn w.cs:=fun p hp=>by
  obtain ⟨k,hk,rfl⟩:=List.mem_iff_getElem.1 hp; exact Zyu hk
 have h2:∀ i∈w.is,isz i≤Ygd w.is:=fun p hp=>by
  obtain ⟨k,hk,rfl⟩:=List.mem_iff_getElem.1 hp; exact Ygm hk
 unfold wsz at h
 refine ⟨by omega,by omega,fun p hp=>⟨by have:=h1 p hp; omega,by have:=h1 p hp; omega,(b.cs p hp).2.2⟩,fun i hi=>?_⟩
 have:=h2 i hi
 unfold isz at this
 refine ⟨by omega,by omega,by omega,fun p hp=>?_⟩
 have h3:p.1.length + p.2.length≤Ydn i.2:=by obtain ⟨k,hk,rfl⟩:=List.mem_iff_getElem.1 hp; exact Zyu hk
 omega
theorem Zfa.keep {α:Type} {ty:TypeId} {enc:α→List Zad} {b b':Nat} {h h':Zaa} {a:Pt} {n:Nat} {l:List α} (f:Zfa ty enc b h a n l) (hb:b'≤b) (hk:∀ i,b≤i→i < h.length→h'[i]?=h[i]?):Zfa ty enc b' h' a n l:=
 ⟨f.1,f.2.imp id fun ⟨i,ha,hbi,hi⟩=>⟨i,ha,by omega,by rw [hk i hbi (Own.lt hi)]; exact hi⟩⟩
end Go.Sim

set_option linter.unusedVariables false
set_option linter.unusedSimpArgs false
set_option maxRecDepth 20000
namespace Go.Sim
open Go Go.RowKit

theorem Zdp {h:Zaa} {i:Nat} {t:TypeId} {x y:Zad} {ro:Bool} (hi:h[i]?=some (.cells t [x,y] ro)):Zcv h (.ptr (some (i,0))) 2=some [x,y]:=by
 rw [Zfv hi (by simp)]; rfl
end Go.Sim

set_option linter.unusedVariables false
set_option linter.unusedSimpArgs false
set_option maxRecDepth 20000
namespace Go.Sim
open Go Go.RowKit

theorem Zyd {h:Zaa} (s v:List Nat):Zac pg Zim [.str s,.str v] h fun x h'=>x=.int .i64 (Yke s v)∧Zbi h.length h h':=by
 apply Zii.call
 refine (Zhi s h).mono ?_
 rintro x h1 ⟨rfl,s1⟩
 simp only [Zag]
 refine Zdf (fun hb=>⟨by unfold Yke; rw [hb]; rfl,s1⟩) (fun hb=>?_)
 refine (Zjv v).mono ?_
 rintro x h2 ⟨rfl,rfl⟩
 simp only [Zag]
 refine Zdf (fun hv=>⟨by unfold Yke; rw [hb,hv]; rfl,s1⟩) (fun hv=>?_)
 obtain ⟨c,rfl⟩:∃ c,v=[c]:=by
  match v,hv with
  | [c],_=>exact ⟨c,rfl⟩
 apply Zii.J3i
 refine Ydz.mono ?_
 rintro x h3 ⟨rfl,rfl⟩
 simp only [Zae]
 refine ⟨?_,s1⟩
 unfold Yke
 rw [hb,hv]; rfl
theorem Ty.size_ps (t:Ty):t.size=1 + (t.ps.map Ty.size).sum:=by cases t <;> simp [Ty.size,Ty.ps] <;> omega
theorem Zdk.same {S:Nat→Prop} {h h':Zaa} (s:Zbi h.length h h'):∀ {t:Ty} {v:List Zad},Zdk S h t v→Zdk S h' t v
 | .k d,_,h=>h
 | .u d x,_,⟨j,c,e,r,hv,sj,hj,hr⟩=>⟨j,c,e,r,hv,sj,s.get hj (Own.lt hj),hr.same s⟩
 | .w d x y,_,⟨j,c,e,r,r',hv,sj,hj,hr,hr'⟩=>⟨j,c,e,r,r',hv,sj,s.get hj (Own.lt hj),hr.same s,hr'.same s⟩
end Go.Sim

set_option linter.unusedVariables false
set_option linter.unusedSimpArgs false
set_option maxRecDepth 20000
namespace Go.Sim
open Go Go.RowKit

theorem Vec.lt' {ty:TypeId} {h:Zaa} {a:Pt} {i n c:Nat} {cs:List Zad} (x:Vec ty h a n c cs) (e:a=some (i,0)):i < h.length:=by subst e; exact x.lt
theorem Zmo.keep {S:Nat→Prop} {h h':Zaa} (hh:∀ j,S j→j < h.length→h'[j]?=h[j]?):∀ {t:Ty} {p:Pt},Zmo S h t p→Zmo S h' t p
 | .k d,p,⟨i,a,c,e,hp,si,hi⟩=>⟨i,a,c,e,hp,si,by rw [hh i si (Own.lt hi)]; exact hi⟩
 | .u d x,p,⟨i,j,c,e,q,hp,si,hi,sj,hj,hq⟩=>⟨i,j,c,e,q,hp,si,by rw [hh i si (Own.lt hi)]; exact hi,sj,by rw [hh j sj (Own.lt hj)]; exact hj,hq.keep hh⟩
 | .w d x y,p,⟨i,j,c,e,q,r,hp,si,hi,sj,hj,hq,hr⟩=>⟨i,j,c,e,q,r,hp,si,by rw [hh i si (Own.lt hi)]; exact hi,sj,by rw [hh j sj (Own.lt hj)]; exact hj,hq.keep hh,hr.keep hh⟩
theorem Zmo.same {S:Nat→Prop} {h h':Zaa} {t:Ty} {p:Pt} (r:Zmo S h t p) (s:Zbi h.length h h'):Zmo S h' t p:=r.keep fun j _ hj=>s.eq j hj
theorem Zdk.keep {S:Nat→Prop} {h h':Zaa} (hh:∀ j,S j→j < h.length→h'[j]?=h[j]?):∀ {t:Ty} {v:List Zad},Zdk S h t v→Zdk S h' t v
 | .k d,_,h=>h
 | .u d x,_,⟨j,c,e,r,hv,sj,hj,hr⟩=>⟨j,c,e,r,hv,sj,by rw [hh j sj (Own.lt hj)]; exact hj,hr.keep hh⟩
 | .w d x y,_,⟨j,c,e,r,r',hv,sj,hj,hr,hr'⟩=>⟨j,c,e,r,r',hv,sj,by rw [hh j sj (Own.lt hj)]; exact hj,hr.keep hh,hr'.keep hh⟩
theorem Ty.txt_inter (t:Ty) (h:t.ps≠[]):t.txt=([t.hd] ++ [40]) ++ [44].intercalate (t.ps.map Ty.txt) ++ [41]:=by
 cases t with
 | k c=>simp [Ty.ps] at h
 | u c a=>simp [Ty.ps,Ty.txt,Ty.hd,List.intercalate]
 | w c a b=>simp [Ty.ps,Ty.txt,Ty.hd,List.intercalate]
theorem Ty.size_part {t x:Ty} (h:x∈t.ps):x.size < t.size:=by
 cases t with
 | k c=>simp [Ty.ps] at h
 | u c a=>simp [Ty.ps] at h; subst h; simp [Ty.size]
 | w c a b=>simp [Ty.ps] at h; rcases h with rfl | rfl <;> simp [Ty.size] <;> omega
theorem Ty.len_part {t x:Ty} (h:x∈t.ps):x.txt.length < t.txt.length:=by
 cases t with
 | k c=>simp [Ty.ps] at h
 | u c a=>simp [Ty.ps] at h; subst h; simp [Ty.txt]; omega
 | w c a b=>simp [Ty.ps] at h; rcases h with rfl | rfl <;> simp [Ty.txt] <;> omega
theorem Ydf:∀ (N:Nat) {S:Nat→Prop} {h:Zaa} {t:Ty} {p:Pt},t.size≤N→t.txt.length≤1048576→Zmo S h t p→Zac pg Zge [.ptr p] h fun x h'=>x=.str t.txt∧Zbi h.length h h'
 | 0,S,h,t,p,hN,_,_=>by have:=t.size_ps; omega
 | N + 1,S,h,t,p,hN,hB,r=>by
  obtain ⟨i,a,c,e,qs,rfl,si,hi,hrow,hS,hql,hq⟩:=r.parts
  have hps2:t.ps.length≤2:=by cases t <;> simp [Ty.ps]
  apply Zex.call
  simp only [Zao,Zal hi,Nat.zero_add,List.getElem?_cons_succ,List.getElem?_cons_zero,Zak,Zap]
  refine Zcq (fun hz0=>?_) (fun hz0=>?_)
  ·have:t.ps.length=0:=by omega
   refine ⟨?_,Zbi.refl _ _⟩
   cases t <;> simp [Ty.ps] at this
   rfl
  ·simp only [Zba]
   generalize hh0:h ++ [Zci.cells Zdb [] false]=h0
   have s0:Zbi h.length h h0:=by rw [← hh0]; exact Zav
   have i0:=s0.get hi (Own.lt hi)
   have l0:h0.length=h.length + 1:=by rw [← hh0]; simp
   have v0:h0[h.length]?=some (.cells Zdb [] false):=by rw [← hh0]; simp
   simp only [Zal i0,List.getElem?_cons_succ,List.getElem?_cons_zero,Zak]
   refine Zex.L5ind _ _ _ _ _ _ _ (J:=fun (g:Nat) a3 n3 c3 e3 x22 h'=>x22=(g:Int)∧g≤t.ps.length∧Zbi h.length h h'∧n3=g∧Vec Zdb h' a3 n3 c3 (strs ((t.ps.take g).map Ty.txt))∧(∀ i,a3=some (i,0)→h.length≤i)) (fun g=>t.ps.length - g) ?_ 0 _ _ _ _ _ _
    ⟨rfl,by omega,s0,rfl,Vec.mk1 (by simpa using v0),fun i hi=>by cases hi; omega⟩
   rintro g a3 n3 c3 e3 x22 h' ⟨rfl,hg,hSm,rfl,hv,ha⟩ R hR
   unfold Zex.L5t
   have i1:=hSm.get hi (Own.lt hi)
   refine Zar (fun hlt=>?_) (fun hge=>?_)
   ·have hg':n3 < t.ps.length:=by omega
    obtain ⟨j,o,rfl,hj,hc⟩:=(hrow.same hSm).at hg'
    have hqg:n3 < qs.length:=by omega
    rw [List.getElem?_map,List.getElem?_eq_getElem hqg] at hc
    simp only [Zao,Int.toNat_natCast,Nat.mul_one,hc,Option.map_some,Zbu]
    have hk:=hq n3 qs[n3] t.ps[n3] (List.getElem?_eq_getElem hqg) (List.getElem?_eq_getElem hg')
    have hm:=List.getElem_mem hg'
    have h1:=Ty.size_part hm
    have h2:=Ty.len_part hm
    refine ⟨by omega,(Ydf N (by omega) (by omega) (hk.same hSm)).mono ?_⟩
    rintro x h2 ⟨rfl,s2⟩
    simp only [Zap,Zba]
    refine (hv.same s2).push Zwx Yec Ydd Yef (by simp; omega) rfl (by omega) (fun h4 hl4 hi4 hk4=>?_)
    simp only [Zak]
    rw [Zby (by omega)]
    have S2:=hSm.cat s2
    have hle:=S2.le
    refine hR (n3 + 1) _ _ _ _ _ _ (by omega) ⟨rfl,by omega,⟨by omega,fun j hj=>?_⟩,rfl,Vec.mk1 ?_,fun i hi=>by cases hi; omega⟩
    ·rw [hk4 j (by omega) fun i hi=>by have:=ha i hi; omega]; exact S2.eq j hj
    ·rw [hi4,List.take_succ_eq_append_getElem hg',List.map_append,Zxp]; rfl
   ·apply Zex.A5x0i
    have:n3=t.ps.length:=by omega
    subst this
    rw [List.take_length] at hv
    have hne:t.ps≠[]:=fun e=>hz0 (by rw [e]; rfl)
    have htx:=t.txt_inter hne
    have hln:=congrArg List.length htx
    simp at hln
    simp only [Zao,Zal i1,Nat.zero_add,List.getElem?_cons_zero,Zap]
    refine ⟨by simp,?_⟩
    refine (Yhm (hv.row (by simp)) (by omega) (by omega)).mono ?_
    rintro v h3 ⟨rfl,rfl⟩
    simp only [Zap]
    refine ⟨Zal i1,by simp; omega,by simp; omega,?_⟩
    exact ⟨by rw [htx],hSm⟩
theorem Zdk.get {S:Nat→Prop} {h:Zaa} {t:Ty} {a:Pt} {vs:List (List Zad)} (hrow:Row h.length h a (t.ps.length * 2) vs.flatten) (hvl:vs.length=t.ps.length) (hp:∀ (k:Nat) (w:List Zad) (x:Ty),vs[k]?=some w→t.ps[k]?=some x→Zdk S h x w) {g:Nat} (hg':g < t.ps.length) :
  ∃ i o a2 c2 e2,a=some (i,o)∧Zcv h (.ptr (some (i,o + g * 2))) 2=some [.int .u8 (t.ps[g].hd:Int),.slice a2 t.ps[g].ps.length c2 e2]∧Zdk S h t.ps[g] [.int .u8 (t.ps[g].hd:Int),.slice a2 t.ps[g].ps.length c2 e2]:=by
 have hgv:g < vs.length:=by omega
 have hk:=hp g vs[g] t.ps[g] (List.getElem?_eq_getElem hgv) (List.getElem?_eq_getElem hg')
 have hz:∀ v∈vs,v.length=2:=fun v hv=>by
  obtain ⟨k,hk,rfl⟩:=List.mem_iff_getElem.1 hv
  exact (hp k vs[k] (t.ps[k]'(by omega)) (List.getElem?_eq_getElem hk) (List.getElem?_eq_getElem (by omega))).len
 have hfl:vs.flatten=Zec (fun (v:{v:List Zad // v.length=2})=>v.1) (vs.attach.map fun v=>⟨v.1,hz v.1 v.2⟩):=by
  unfold Zec; rw [List.flatMap_map]; simp
 rw [hfl] at hrow
 obtain ⟨i,o,hk',ha,_,hr,_⟩:=Row.el (enc:=fun (v:{v:List Zad // v.length=2})=>v.1) (fun x=>x.2) hrow (by simp [hvl]) (k:=g) hg' (by omega)
 obtain ⟨a2,c2,e2,hv2⟩:=hk.shape
 rw [hv2] at hk
 exact ⟨i,o,a2,c2,e2,ha,by rw [hr]; simp [hv2],hk⟩
theorem Ycd {g:Nat} (hg:g < 2):sub [40,44] (g:Int) ((g:Int) + 1)=[Zkz g]:=by
 rcases g with _ | _ | g
 ·rfl
 ·rfl
 ·omega
theorem Ty.hd_lt (t:Ty) (h:t.ok=true):t.hd < 256:=by
 have:=Ty.ok_ar h
 unfold arN Zdm Zam at this
 simp only [Bool.or_eq_true,beq_iff_eq] at this
 split at this
 ·omega
 ·split at this
  ·omega
  ·split at this
   ·omega
   ·omega
def Zhz:Nat→List Ty→List Nat
 | _,[]=>[]
 | g,x :: l=>Zkz g :: (x.txt ++ Zhz (g + 1) l)
theorem Zmi:∀ (l:List Ty) (g k:Nat) (h:k < l.length),Zhz g (l.take (k + 1))=Zhz g (l.take k) ++ Zkz (g + k) :: l[k].txt
 | x :: l,g,0,_=>by simp [Zhz]
 | x :: l,g,k + 1,h=>by
  have:=Zmi l (g + 1) k (by simpa using h)
  simp only [List.take_succ_cons,Zhz,this,List.getElem_cons_succ,List.cons_append,List.append_assoc]
  rw [show g + 1 + k=g + (k + 1) by omega]
theorem Zoi:∀ (l:List Ty) (g k:Nat),(Zhz g (l.take k)).length≤(Zhz g l).length
 | [],g,k=>by simp [Zhz]
 | x :: l,g,0=>by simp [Zhz]
 | x :: l,g,k + 1=>by
  have:=Zoi l (g + 1) k
  simp only [List.take_succ_cons,Zhz,List.length_cons,List.length_append]; omega
theorem Ty.txt_mids (t:Ty):t.txt=t.hd :: Zhz 0 t.ps ++ (if t.ps=[] then [] else [41]):=by
 cases t <;> simp [Ty.ps,Ty.txt,Ty.hd,Zhz,Zkz]
theorem Znu:∀ (N:Nat) {S:Nat→Prop} {h:Zaa} {t:Ty} {v:List Zad},t.size≤N→t.txt.length≤1048576→t.ok=true→Zdk S h t v→Zac pg Zfr [.agg v] h fun x h'=>x=.str t.txt∧Zbi h.length h h'
 | 0,S,h,t,v,hN,_,_,_=>by have:=t.size_ps; omega
 | N + 1,S,h,t,v,hN,hB,hok,r=>by
  obtain ⟨a,c,e,vs,rfl,hrow,hS,hvl,hp⟩:=r.parts
  have hps2:t.ps.length≤2:=by cases t <;> simp [Ty.ps]
  have htx:=t.txt_mids
  have hln:=congrArg List.length htx
  rw [List.length_append,List.length_cons] at hln
  apply Zer.call
  simp only [Zba,Zph,Nat.zero_add,List.getElem?_cons_succ,List.getElem?_cons_zero,Zak,Zae]
  generalize hh0:h ++ [Zci.cells Zab [.int .u8 (t.hd:Int),.slice a t.ps.length c e] false]=h0
  have s0:Zbi h.length h h0:=by rw [← hh0]; exact Zav
  have o0:h0[h.length]?=some (.cells Zab [.int .u8 (t.hd:Int),.slice a t.ps.length c e] false):=by rw [← hh0]; simp
  generalize hh1:h0 ++ [Zci.cells Ybs [.int .u8 (t.hd:Int)] false]=h1
  have s1:Zbi h0.length h0 h1:=by rw [← hh1]; exact Zav
  have o1:=s1.get o0 (Own.lt o0)
  have hro:rowOf h1 (some (h0.length,0)) 1=some [.int .u8 (t.hd:Int)]:=by rw [← hh1]; simp [rowOf,Zcv]
  rw [hro]
  simp only [Zaw,Zlk,chk,decide_true]
  rw [show ((t.hd:Int)).toNat=t.hd from Int.toNat_natCast _]
  refine ⟨⟨by omega,by have:=t.hd_lt hok; omega⟩,?_⟩
  simp only [Zal o1,List.getElem?_cons_succ,List.getElem?_cons_zero,Zak]
  refine Zer.L3ind _ _ _ _ _ _ _ _ (J:=fun (g:Nat) x3 x13 h'=>x13=(g:Int)∧g≤t.ps.length∧Zbi h.length h h'∧Zbi h1.length h1 h'∧x3=t.hd :: Zhz 0 (t.ps.take g)) (fun g=>t.ps.length - g) ?_ 0 _ _ _ ⟨rfl,by omega,s0.cat s1,Zbi.refl _ _,by simp [Zhz]⟩
  rintro g x3 x13 h' ⟨rfl,hg,hSm,hS1,rfl⟩ R hR
  unfold Zer.L3t
  have o2:=hS1.get o1 (Own.lt o1)
  refine Zar (fun hlt=>?_) (fun hge=>?_)
  ·have hg':g < t.ps.length:=by omega
   obtain ⟨i,o,a2,c2,e2,rfl,hr,hk⟩:=Zdk.get (hrow.same' hSm) hvl (fun k w x h1 h2=>(hp k w x h1 h2).same hSm) hg'
   simp only [Zao,Int.toNat_natCast,hr,Zaw,Zaf,Zan,Zae,Zak,Zba]
   rw [Zgg]
   simp only [Zas]
   rw [Ybp]
   simp only [Zaw,Zaf,Zan,Zae,Zak]
   rw [Zby (by omega),show (((g + 1:Nat):Int))=(g:Int) + 1 by omega,Ycd (by omega)]
   have hm:=List.getElem_mem hg'
   have h1:=Ty.size_part hm
   have h2:=Ty.len_part hm
   have hmt:=Zmi t.ps 0 g hg'
   have hml:(Zhz 0 (t.ps.take (g + 1))).length≤(Zhz 0 t.ps).length:=Zoi _ _ _
   have hmtl:=congrArg List.length hmt
   simp only [List.length_append,List.length_cons,Nat.zero_add] at hmtl
   have s2:Zbi h'.length h' (h' ++ [.cells Zab [.int .u8 (t.ps[g].hd:Int),.slice a2 t.ps[g].ps.length c2 e2] false]):=Zav
   refine ⟨by omega,⟨by omega,by omega,by simp; omega⟩,by simp; omega,(Znu N (by omega) (by omega) (Ty.ok_ps hok _ hm) (hk.same s2)).mono ?_⟩
   rintro x h3 ⟨rfl,s3⟩
   simp only [Zap]
   refine ⟨by simp; omega,?_⟩
   exact hR (g + 1) _ _ _ (by omega) ⟨by omega,by omega,(hSm.cat s2).cat s3,(hS1.cat s2).cat s3,by rw [hmt,Nat.zero_add]; simp⟩
  ·apply Zer.A3x0i
   have:g=t.ps.length:=by omega
   subst this
   simp only [Zal o2,Nat.zero_add,List.getElem?_cons_succ,List.getElem?_cons_zero,Zak]
   rw [List.take_length]
   refine Zar (fun hpos=>?_) (fun hneg=>?_)
   ·have hne:t.ps≠[]:=fun e=>by rw [e] at hpos; simp at hpos
    rw [if_neg hne] at htx hln
    refine ⟨by simp; simp at hln; omega,?_⟩
    apply Zer.J9i
    exact ⟨by rw [htx],hSm⟩
   ·have hne:t.ps=[]:=List.eq_nil_of_length_eq_zero (by omega)
    rw [if_pos hne,List.append_nil] at htx
    apply Zer.J9i
    exact ⟨by rw [htx],hSm⟩
end Go.Sim

set_option linter.unusedVariables false
namespace Go.Sim
open Go Go.RowKit Go.Maps Go.Sort Go.Shelf Go.Proofs
theorem Yho (m:Nat):AnyZ.SortsIn Tryz.prog Tryz.sorted76_ren Fence.wide m:=
 ⟨fun blk off cap ss W hH hblk hsz=>callsIn_wide.2 (Tryz.slices_Sort_string blk off cap ss W hH hblk hsz),fun p cap W=>callsIn_wide.2 (Tryz.slices_Sort_string_none p cap W)⟩
theorem Yhp {h:Zaa} {m:Option Nat}:Zac pg Zda [.map m] h fun v h'=>v=.fn Zcp [.ptr (some (h.length,0))]∧h'=h ++ [.cells Zes [.map m] false]:=
 Zac.keys ⟨_,Tryz.func77,by kernel_rfl,by kernel_rfl⟩ (fun mb W=>callsIn_wide.1 (AnyZ.keys_in Tryz.keys77 Fence.wide 5 trivial rfl mb W))
set_option maxHeartbeats 1000000 in
theorem Zso {h:Zaa} {i m:Nat} {es:List ME} {clk:Nat} (hi:h[i]?=some (.cells Zes [.map (some m)] false)) (hm:h[m]?=some (.map es clk)) {vs:List Nat} (hks:es.map (·.1)=vs.map fun v=>.str [v]) (nd:vs.Nodup) (born:(es.map (·.2.2)).Nodup) (lt:∀ e∈es,e.2.2 < clk) (hl:es.length≤1048576) :
  Zac pg Zgx [.fn Zcp [.ptr (some (i,0))]] h fun v h'=>∃ us:List Nat,us.Perm vs∧us.Pairwise (·≤·)∧((us=[]∧v=.slice none 0 0 true∧h'=h) ∨ (∃ c,v=.slice (some (h.length,0)) us.length c false∧us.length≤c∧h'=h ++ [.cells Zdb (us.map fun v=>.str [v]) false])):=
 Zac.sortedKeys (M:=Zes) (K:=Zdb) Tryz.underlying9 (by kernel_rfl) ⟨_,Tryz.func76,by kernel_rfl,by kernel_rfl⟩
  (fun Bm b nn D0 R w hown hBm hcell hmax hbytes=>callsIn_wide.1 (by
   have hseq:SeqGives Fence.wide 2 Tryz.prog 122 #[.pointer (some ⟨Bm,0,none⟩)] encStr (fun ss=>ss.Perm (strKeys D0)) (Maps.size D0) w:=
    AnyZ.keys_gives (ρ:=Tryz.keys77_ren) { Tryz.keys77 with } Fence.wide _ trivial rfl (by omega) Bm b nn D0 w hBm hcell hown
   exact AnyZ.sorted_in Tryz.sorted76 Fence.wide 5 trivial trivial trivial trivial rfl (by omega) (Yho _) (enters_of Tryz.func121 (by kernel_rfl) rfl) 122 #[.pointer (some ⟨Bm,0,none⟩)] trivial (enters_of Tryz.func122 (by kernel_rfl) rfl) _ _ hmax hbytes _ hseq))
  hi hm hks nd born lt hl
end Go.Sim

set_option linter.unusedSimpArgs false
set_option linter.unusedVariables false
namespace Go.Sim

abbrev Bd:=List (Nat × Ty)
def Zcl:Bd→Nat→Option Ty
 | [],_=>none
 | (v,t) :: m,x=>if v=x then some t else Zcl m x
def Znj (m:Bd) (v:Nat) (t:Ty):Option Bd:=match Zcl m v with | some t'=>if t'=t then some m else none | none=>some (m ++ [(v,t)])
def matchT:Bd→Ty→Ty→Option Bd
 | m,.k c,t=>if Zam c then Znj m c t else if c=t.hd then some m else none
 | m,.u c a,t=>if c=t.hd then (match t.ps with | [x]=>matchT m a x | _=>none) else none
 | m,.w c a b,t=>if c=t.hd then (match t.ps with | [x,y]=>(match matchT m a x with | some m1=>matchT m1 b y | none=>none) | _=>none) else none
def matchL:Bd→List Ty→List Ty→Option Bd
 | m,[],_=>some m
 | m,a :: xs,[]=>none
 | m,a :: xs,t :: ys=>match matchT m a t with | some m1=>matchL m1 xs ys | none=>none
theorem Zlo {a:Ty} (h:a.ok=true) (hv:Zam a.hd=true):a=.k a.hd:=by
 cases a with
 | k c=>rfl
 | u c a=>simp only [Ty.ok,Bool.and_eq_true,Bool.or_eq_true,beq_iff_eq] at h; rcases h.1 with rfl | rfl <;> simp [Ty.hd,Zam] at hv
 | w c a b=>simp only [Ty.ok,Bool.and_eq_true,beq_iff_eq] at h; rcases h.1.1 with rfl; simp [Ty.hd,Zam] at hv
theorem Zzn {a t:Ty} (ha:a.ok=true) (ht:t.ok=true) (h:a.hd=t.hd):a.ps.length=t.ps.length:=by
 have h1:=Ty.ok_ar ha; have h2:=Ty.ok_ar ht
 rw [h,h2] at h1; omega
theorem Ybw {m:Bd} {a t:Ty} (ha:a.ok=true) (ht:t.ok=true) :
  matchT m a t=if Zam a.hd then Znj m a.hd t else if a.hd=t.hd then matchL m a.ps t.ps else none:=by
 cases a with
 | k c=>
  show matchT m (.k c) t=if Zam c then Znj m c t else if c=t.hd then matchL m [] t.ps else none
  rw [matchT,matchL]
 | u c a=>
  have hnv:Zam c=false:=by
   cases h:Zam c with
   | false=>rfl
   | true=>have:=Zlo ha h; cases this
  show matchT m (.u c a) t=if Zam c then Znj m c t else if c=t.hd then matchL m [a] t.ps else none
  rw [matchT,hnv,if_neg (show ¬ (false=true) by decide)]
  by_cases h:c=t.hd
  ·have hl:1=t.ps.length:=Zzn ha ht h
   rw [if_pos h,if_pos h]
   match t.ps,hl with
   | [x],_=>simp only [matchL]; cases matchT m a x <;> rfl
  ·rw [if_neg h,if_neg h]
 | w c a b=>
  have hnv:Zam c=false:=by
   cases h:Zam c with
   | false=>rfl
   | true=>have:=Zlo ha h; cases this
  show matchT m (.w c a b) t=if Zam c then Znj m c t else if c=t.hd then matchL m [a,b] t.ps else none
  rw [matchT,hnv,if_neg (show ¬ (false=true) by decide)]
  by_cases h:c=t.hd
  ·have hl:2=t.ps.length:=Zzn ha ht h
   rw [if_pos h,if_pos h]
   match t.ps,hl with
   | [x,y],_=>
    simp only [matchL]
    cases matchT m a x with
    | none=>rfl
    | some m1=>simp only []; cases matchT m1 b y <;> rfl
  ·rw [if_neg h,if_neg h]
theorem Zrj:∀ (xs ys:List Ty) (m:Bd) (g:Nat) (h1:g < xs.length) (h2:g < ys.length),matchL m (xs.take (g + 1)) (ys.take (g + 1))=match matchL m (xs.take g) (ys.take g) with | some m1=>matchT m1 xs[g] ys[g] | none=>none
 | a :: xs,t :: ys,m,0,_,_=>by
  simp only [List.take_succ_cons,List.take_zero,matchL,List.getElem_cons_zero]
  cases matchT m a t <;> rfl
 | a :: xs,t :: ys,m,g + 1,h1,h2=>by
  simp only [List.length_cons,Nat.add_lt_add_iff_right] at h1 h2
  simp only [List.take_succ_cons,matchL,List.getElem_cons_succ]
  cases hm:matchT m a t with
  | none=>rfl
  | some m1=>
   have:=Zrj xs ys m1 g h1 h2
   simpa only [List.take_succ_cons] using this
theorem Zsa:∀ (xs ys:List Ty) (m:Bd) (g:Nat),xs.length=ys.length→matchL m (xs.take g) (ys.take g)=none→matchL m xs ys=none
 | [],_,m,g,_,h=>by simp [matchL] at h
 | a :: xs,[],m,g,hl,h=>by simp at hl
 | a :: xs,t :: ys,m,0,_,h=>by simp [matchL] at h
 | a :: xs,t :: ys,m,g + 1,hl,h=>by
  simp only [List.take_succ_cons,matchL] at h ⊢
  cases hm:matchT m a t with
  | none=>rfl
  | some m1=>
   rw [hm] at h
   exact Zsa xs ys m1 g (by simpa using hl) h

structure BOk (n:Nat) (m:Bd):Prop where
 var:∀ p∈m,Zam p.1=true∧p.2.ok=true∧p.2.txt.length≤n
 nd:(m.map (·.1)).Nodup
theorem Zib:∀ {m:Bd} {v:Nat} {t:Ty},Zcl m v=some t→(v,t)∈m
 | (w,u) :: m,v,t,h=>by
  simp only [Zcl] at h
  split at h
  ·rename_i e; cases h; subst e; simp
  ·exact List.mem_cons_of_mem _ (Zib h)
theorem Zno:∀ {m:Bd} {v:Nat},Zcl m v=none ↔ v ∉ m.map (·.1)
 | [],v=>by simp [Zcl]
 | (w,u) :: m,v=>by
  simp only [Zcl]
  by_cases e:w=v
  ·simp [e]
  ·simp only [e,if_false,Zno (m:=m),List.map_cons,List.mem_cons,not_or]
   exact ⟨fun h=>⟨fun e'=>e e'.symm,h⟩,fun h=>h.2⟩
theorem Zxf {m:Bd} {v:Nat}:(Zcl m v).isSome=true ↔ v∈m.map (·.1):=by
 cases h:Zcl m v with
 | none=>simp [Zno.1 h]
 | some t=>simp only [Option.isSome_some,true_iff]; exact List.mem_map.2 ⟨_,Zib h,rfl⟩
theorem Ziy {m:Bd} {v x:Nat} {t:Ty}:Zcl (m ++ [(v,t)]) x=match Zcl m x with | some u=>some u | none=>if v=x then some t else none:=by
 induction m with
 | nil=>simp [Zcl]
 | cons p m ih=>
  obtain ⟨w,u⟩:=p
  simp only [List.cons_append,Zcl,ih]
  split <;> rfl
theorem BOk.nil {n:Nat}:BOk n []:=⟨by simp,by simp⟩
theorem BOk.note {n:Nat} {m m':Bd} {v:Nat} {t:Ty} (b:BOk n m) (hv:Zam v=true) (ht:t.ok=true) (hn:t.txt.length≤n) (h:Znj m v t=some m'):BOk n m':=by
 unfold Znj at h
 split at h
 ·split at h
  ·cases h; exact b
  ·cases h
 ·rename_i hg
  cases h
  refine ⟨?_,?_⟩
  ·intro p hp
   rcases List.mem_append.1 hp with hp | hp
   ·exact b.var p hp
   ·simp at hp; subst hp; exact ⟨hv,ht,hn⟩
  ·rw [List.map_append,List.nodup_append]
   refine ⟨b.nd,by simp,?_⟩
   intro x hx y hy e
   simp at hy; subst hy; subst e
   exact Zno.1 hg hx
theorem Zjd {t x:Ty} (h:x∈t.ps):x.txt.length≤t.txt.length:=by
 cases t with
 | k c=>simp [Ty.ps] at h
 | u c a=>simp [Ty.ps] at h; subst h; simp [Ty.txt]; omega
 | w c a b=>simp [Ty.ps] at h; rcases h with rfl | rfl <;> simp [Ty.txt] <;> omega
theorem BOk.matchT {n:Nat}:∀ {a t:Ty} {m m':Bd},a.ok=true→t.ok=true→t.txt.length≤n→BOk n m→Go.Sim.matchT m a t=some m'→BOk n m'
 | .k c,t,m,m',ha,ht,hn,b,h=>by
  simp only [Go.Sim.matchT] at h
  split at h
  ·rename_i hv; exact b.note hv ht hn h
  ·split at h
   ·cases h; exact b
   ·cases h
 | .u c a,t,m,m',ha,ht,hn,b,h=>by
  simp only [Ty.ok,Bool.and_eq_true] at ha
  simp only [Go.Sim.matchT] at h
  split at h
  ·split at h
   ·rename_i x hx
    have hm:x∈t.ps:=by rw [hx]; simp
    exact BOk.matchT ha.2 (Ty.ok_ps ht x hm) (Nat.le_trans (Zjd hm) hn) b h
   ·cases h
  ·cases h
 | .w c a a2,t,m,m',ha,ht,hn,b,h=>by
  simp only [Ty.ok,Bool.and_eq_true] at ha
  simp only [Go.Sim.matchT] at h
  split at h
  ·split at h
   ·rename_i x y hx
    have hm:x∈t.ps:=by rw [hx]; simp
    have hm2:y∈t.ps:=by rw [hx]; simp
    split at h
    ·rename_i m1 h1
     exact BOk.matchT ha.2 (Ty.ok_ps ht y hm2) (Nat.le_trans (Zjd hm2) hn) (BOk.matchT ha.1.2 (Ty.ok_ps ht x hm) (Nat.le_trans (Zjd hm) hn) b h1) h
    ·cases h
   ·cases h
  ·cases h
theorem BOk.matchL {n:Nat}:∀ {xs ys:List Ty} {m m':Bd},(∀ a∈xs,a.ok=true)→(∀ t∈ys,t.ok=true∧t.txt.length≤n)→BOk n m→Go.Sim.matchL m xs ys=some m'→BOk n m'
 | [],_,m,m',_,_,b,h=>by simp [Go.Sim.matchL] at h; subst h; exact b
 | a :: xs,[],m,m',_,_,b,h=>by simp [Go.Sim.matchL] at h
 | a :: xs,t :: ys,m,m',ha,ht,b,h=>by
  simp only [Go.Sim.matchL] at h
  split at h
  ·rename_i m1 h1
   exact BOk.matchL (fun a h=>ha a (by simp [h])) (fun t h=>ht t (by simp [h])) (BOk.matchT (ha a (by simp)) (ht t (by simp)).1 (ht t (by simp)).2 b h1) h
  ·cases h
def bdL (m:Bd):List Nd:=Zcf.filterMap fun v=>(Zcl m v).map fun t=>([v],t.txt)
noncomputable def Zlb (p s:List Nat):Option Bd:=match Zeh p,Zeh s with | some a,some b=>matchT [] a b | _,_=>none
noncomputable def Zsv (p s:List Nat):Bool:=(Zlb p s).isSome
noncomputable def Zzr (p s:List Nat):List Nd:=match Zlb p s with | some m=>bdL m | none=>[]
theorem Ydv {p s:List Nat} {m:Bd} (h:Zlb p s=some m):BOk 60 m:=by
 unfold Zlb at h
 split at h
 ·rename_i a b ha hb
  obtain ⟨h1,_,_⟩:=Zbw.1 ha
  obtain ⟨h2,h3,h4⟩:=Zbw.1 hb
  exact BOk.matchT h1 h2 (by rw [← h3]; exact h4) BOk.nil h
 ·cases h
theorem Zfc:Zcf.Nodup:=by decide
theorem Zpm:Zcf.Pairwise (· < ·):=by decide
theorem Yby (m:Bd):bdL m=(Zcf.filter fun v=>(Zcl m v).isSome).map fun v=>([v],((Zcl m v).getD default).txt):=by
 unfold bdL
 induction Zcf with
 | nil=>rfl
 | cons v l ih=>
  simp only [List.filterMap_cons,List.filter_cons]
  cases h:Zcl m v with
  | none=>simpa [h] using ih
  | some t=>simp [h,ih]
theorem Zxl {n:Nat} {m:Bd} (b:BOk n m) {ks:List Nat} (hp:ks.Perm (m.map (·.1))) (hs:ks.Pairwise (·≤·)):ks=Zcf.filter fun v=>(Zcl m v).isSome:=by
 have hnd:ks.Nodup:=hp.nodup_iff.2 b.nd
 have h1:ks.Pairwise (· < ·):=by
  have:=List.pairwise_and_iff.2 ⟨hs,hnd⟩
  exact this.imp fun h=>by have:=h.1; have:=h.2; omega
 have h2:(Zcf.filter fun v=>(Zcl m v).isSome).Pairwise (· < ·):=Zpm.filter _
 have hp2:ks.Perm (Zcf.filter fun v=>(Zcl m v).isSome):=by
  rw [List.perm_ext_iff_of_nodup hnd (Zfc.filter _)]
  intro v
  rw [hp.mem_iff,List.mem_filter,Zxf]
  constructor
  ·intro hv
   obtain ⟨p,hp,rfl⟩:=List.mem_map.1 hv
   exact ⟨(Zdv _).2 (b.var p hp).1,hv⟩
  ·exact fun h=>h.2
 exact hp2.eq_of_pairwise (fun a b _ _ h1 h2=>by omega) h1 h2
theorem Zzw {α:Type} {f:α→Bool} {l:List α} {g:Nat} (hg:g < l.length) (h:(l.take g).find? f=none) (k:f l[g]=true):l.find? f=some l[g]:=by
 have h1:l=l.take g ++ l[g] :: l.drop (g + 1):=by rw [← List.drop_eq_getElem_cons hg,List.take_append_drop]
 conv=>lhs; rw [h1]
 rw [List.find?_append,h,List.find?_cons,k]; rfl
theorem Zrc {α:Type} {f:α→Bool} {l:List α} {g:Nat} (hg:g < l.length) (h:(l.take g).find? f=none) (k:f l[g]=false):(l.take (g + 1)).find? f=none:=by
 rw [List.take_succ_eq_append_getElem hg,List.find?_append,h]; simp [k]
end Go.Sim

set_option linter.unusedVariables false
set_option linter.unusedSimpArgs false
set_option maxRecDepth 20000
namespace Go.Sim
open Go Go.RowKit

def Zwp (h:Zaa) (i:Nat) (m:Bd):Prop:=∃ es clk,h[i]?=some (.map es clk)∧es.map (·.1)=m.map (fun p=>Zad.str [p.1])∧es.map (·.2.1)=m.map (fun p=>Zad.str p.2.txt)∧(es.map (·.2.2)).Nodup∧∀ e∈es,e.2.2 < clk
theorem Zwp.eq {h h':Zaa} {i:Nat} {m:Bd} (r:Zwp h i m) (he:h'[i]?=h[i]?):Zwp h' i m:=by
 obtain ⟨es,clk,h1,x⟩:=r
 exact ⟨es,clk,by rw [he]; exact h1,x⟩
theorem Zwp.lt {h:Zaa} {i:Nat} {m:Bd} (r:Zwp h i m):i < h.length:=by obtain ⟨es,clk,h1,_⟩:=r; exact Own.lt h1
theorem Zjp:∀ {es:List ME} {m:Bd} {v k:Nat} {t:Ty},es.map (·.1)=m.map (fun p=>Zad.str [p.1])→es.map (·.2.1)=m.map (fun p=>Zad.str p.2.txt)→Zcl m v=some t→∃ j b,Zky es [v] k=some (some (k + j,.str t.txt))∧es[j]?=some (.str [v],.str t.txt,b)
 | _,[],v,k,t,_,_,h=>by simp [Zcl] at h
 | [],p :: m,v,k,t,h,_,_=>by simp at h
 | (ek,ev,eb) :: es,(w,u) :: m,v,k,t,hk,hv,h=>by
  simp only [List.map_cons,List.cons.injEq] at hk hv
  obtain ⟨rfl,hk⟩:=hk
  obtain ⟨rfl,hv⟩:=hv
  simp only [Zcl] at h
  by_cases e:w=v
  ·rw [if_pos e] at h
   cases h; subst e
   exact ⟨0,eb,by simp [Zky],rfl⟩
  ·rw [if_neg e] at h
   obtain ⟨j,b,h1,h2⟩:=Zjp (k:=k + 1) hk hv h
   have:¬ [v]=[w]:=fun x=>e (by simpa using x.symm)
   exact ⟨j + 1,b,by simp only [Zky,this,if_false,h1]; rw [show k + 1 + j=k + (j + 1) by omega],h2⟩
theorem Zjn:∀ {es:List ME} {m:Bd} {v k:Nat},es.map (·.1)=m.map (fun p=>Zad.str [p.1])→Zcl m v=none→Zky es [v] k=some none
 | [],[],v,k,_,_=>rfl
 | [],p :: m,v,k,h,_=>by simp at h
 | e :: es,[],v,k,h,_=>by simp at h
 | (ek,ev,eb) :: es,(w,u) :: m,v,k,hk,h=>by
  simp only [List.map_cons,List.cons.injEq] at hk
  obtain ⟨rfl,hk⟩:=hk
  simp only [Zcl] at h
  by_cases e:w=v
  ·rw [if_pos e] at h; cases h
  ·rw [if_neg e] at h
   have:¬ [v]=[w]:=fun x=>e (by simpa using x.symm)
   simp only [Zky,this,if_false]
   exact Zjn hk h
theorem Zkf {α:Type} {f:α→α} {e:α}:∀ {l:List α} {j:Nat},l[j]?=some e→f e=e→l.modify j f=l
 | [],j,h,_=>by simp at h
 | a :: l,0,h,hf=>by simp at h; subst h; simp [hf]
 | a :: l,j + 1,h,hf=>by simp at h; simp [Zkf h hf]
theorem Zmm (c:Nat):Zku [c]=Zam c:=rfl
theorem Row.keepAt {i:Nat} {h h':Zaa} {a:Pt} {n:Nat} {cs:List Zad} (r:Row h.length h a n cs) (hne:∀ j o,n≠0→a=some (j,o)→j≠i) (k:Zeo i h h'):Row h'.length h' a n cs:=by
 obtain ⟨hl,r⟩:=r
 by_cases h0:n=0
 ·exact ⟨hl,.inl h0⟩
 ·refine ⟨hl,r.imp id ?_⟩
  rintro ⟨j,o',t,all,ro,ha,hi,hg,x⟩
  have:=k.le
  exact ⟨j,o',t,all,ro,ha,by omega,by rw [k.eq j hi (hne j o' h0 ha)]; exact hg,x⟩
def Ymi (h:Zaa) (i:Nat) (r:Option Bd) (v:Zad) (h':Zaa):Prop:=Zeo i h h'∧(match r with | some m'=>v=.bool true∧Zwp h' i m' | none=>v=.bool false)
theorem Zzf:∀ (N:Nat) {a t:Ty} {S:Nat→Prop} {h:Zaa} {p q:Pt} {i n:Nat} {m:Bd},a.size≤N→a.ok=true→t.ok=true→t.txt.length≤1048576→t.txt.length≤n→BOk n m→(∀ j,S j→j≠i)→Zmo S h a p→Zmo S h t q→Zwp h i m →
  Zac pg Zfp [.ptr p,.ptr q,.map (some i)] h (Ymi h i (matchT m a t))
 | 0,a,t,S,h,p,q,i,n,m,hN,_,_,_,_,_,_,_,_,_=>by have:=a.size_ps; omega
 | N + 1,a,t,S,h,p,q,i,n,m,hN,ha,ht,hB,hn,bo,hSi,ra,rt,rm=>by
  have hcase:=Ybw (m:=m) ha ht
  obtain ⟨ia,aa,ca,ea,qa,rfl,sia,hia,rowa,hSa,hqal,hqa⟩:=ra.parts
  obtain ⟨it,at',ct,et,qt,rfl,sit,hit,rowt,hSt,hqtl,hqt⟩:=id rt.parts
  have hps2:a.ps.length≤2:=by cases a <;> simp [Ty.ps]
  apply Zdi.call
  simp only [Zao,Zal hia,Nat.zero_add,List.getElem?_cons_succ,List.getElem?_cons_zero,Zak,Zap]
  refine (Zjv [a.hd]).mono ?_
  rintro v h1 ⟨rfl,rfl⟩
  simp only [Zag,Zmm]
  refine Zfh (fun hv=>?_) (fun hv=>?_)
  ·rw [hv] at hcase
   simp only [if_true] at hcase
   refine (Ydf _ (Nat.le_refl _) hB rt).mono ?_
   rintro v h2 ⟨rfl,s2⟩
   have hia2:=s2.get hia (Own.lt hia)
   obtain ⟨es,clk,hm,hk,hvv,hb,hlt⟩:=id rm
   have hm2:=s2.get hm (Own.lt hm)
   have rm2:Zwp h2 i m:=rm.eq (s2.eq i (Own.lt hm))
   simp only [Zap,Zal hia2,List.getElem?_cons_succ,List.getElem?_cons_zero,Zbv,hm2,Znd]
   have K2:Zeo i h1 h2:=⟨s2.le,fun j hj _=>s2.eq j hj⟩
   have hput:∀ r:Option Bd,(∀ (es':List ME) (k':Nat),Zzv es clk [a.hd] (.str t.txt) (fun x y=>x=es'∧y=k')→Ymi h1 i r (.bool true) (h2.set i (.map es' k')))→Zdi.J6 (Ymi h1 i r) (some i) (some (ia,0)) t.txt h2:=by
    intro r hr
    apply Zdi.J6i
    simp only [Zao,Zal hia2,Nat.zero_add,List.getElem?_cons_zero,Zap,xMp,Zbv,hm2,Zba]
    unfold Zzv at hr ⊢
    cases hg:Zcl m a.hd with
    | none=>
     rw [Zjn hk hg] at hr ⊢
     exact hr _ _ ⟨rfl,rfl⟩
    | some u=>
     obtain ⟨j,b,hf,_⟩:=Zjp (k:=0) hk hvv hg
     rw [hf] at hr ⊢
     exact hr _ _ ⟨rfl,rfl⟩
   have KS:∀ x,Zeo i h1 (h2.set i x):=fun x=>K2.trans (Zeo.set i h2 x)
   have hil:=Own.lt hm2
   cases hg:Zcl m a.hd with
   | none=>
    have hbn:Znj m a.hd t=some (m ++ [(a.hd,t)]):=by unfold Znj; rw [hg]
    rw [hbn] at hcase
    rw [hcase,Zjn hk hg]
    simp only [Option.getD_none,Zap,Option.isSome_none,Zat]
    refine hput _ fun es' k' hp=>⟨KS _,rfl,?_⟩
    unfold Zzv at hp
    rw [Zjn hk hg] at hp
    obtain ⟨rfl,rfl⟩:=hp
    refine ⟨_,_,List.getElem?_set_self hil,by simp [hk],by simp [hvv],?_,?_⟩
    ·rw [List.map_append,List.nodup_append]
     refine ⟨hb,by simp,?_⟩
     intro x hx y hy e
     simp at hy
     obtain ⟨z,hz,rfl⟩:=List.mem_map.1 hx
     have:=hlt z hz; omega
    ·intro e he
     rcases List.mem_append.1 he with he | he
     ·have:=hlt e he; omega
     ·simp at he; subst he; simp
   | some u=>
    obtain ⟨j,b,hf,hj⟩:=Zjp (k:=0) hk hvv hg
    rw [hf]
    simp only [Option.getD_some,Zap,Option.isSome_some,Zaz]
    have hu:u.ok=true ∨ True:=.inr trivial
    by_cases he:u=t
    ·subst he
     have hbn:Znj m a.hd u=some m:=by unfold Znj; rw [hg]; simp
     rw [hbn] at hcase
     rw [hcase]
     simp only [decide_true,Bool.not_true,Zat]
     refine hput _ fun es' k' hp=>⟨KS _,rfl,?_⟩
     unfold Zzv at hp
     rw [hf] at hp
     obtain ⟨rfl,rfl⟩:=hp
     rw [Nat.zero_add,Zkf hj rfl]
     exact ⟨es,clk,List.getElem?_set_self hil,hk,hvv,hb,hlt⟩
    ·have hu:=(bo.var _ (Zib hg)).2.1
     have hne:¬ u.txt=t.txt:=fun e=>he (Ty.txt_inj' hu ht e)
     have hbn:Znj m a.hd t=none:=by unfold Znj; rw [hg]; simp [he]
     rw [hbn] at hcase
     rw [hcase]
     simp only [hne,decide_false,Bool.not_false,Zaz]
     exact ⟨K2,rfl⟩
  ·rw [hv] at hcase
   simp only [Bool.false_eq_true,if_false] at hcase
   simp only [Zao,Zal hia,Zal hit,Nat.zero_add,List.getElem?_cons_succ,List.getElem?_cons_zero,Zak,Zap,true_and]
   refine Zow (fun hne=>?_) (fun he=>?_)
   ·rw [if_neg (fun e=>hne (by rw [e]))] at hcase
    rw [hcase]
    exact ⟨Zeo.refl _ _,rfl⟩
   ·have he':a.hd=t.hd:=by simpa using he
    rw [if_pos he'] at hcase
    rw [hcase]
    have hlen:=Zzn ha ht he'
    refine Zdi.L11ind _ _ _ _ _ _ _ _ (J:=fun (g:Nat) x54 h'=>x54=(g:Int)∧g≤a.ps.length∧Zeo i h1 h'∧∃ m1,matchL m (a.ps.take g) (t.ps.take g)=some m1∧Zwp h' i m1) (fun g=>a.ps.length - g) ?_ 0 _ _ ⟨rfl,by omega,Zeo.refl _ _,m,by simp [matchL],rm⟩
    rintro g x54 h' ⟨rfl,hg,hK,m1,hm1,rm1⟩ R hR
    unfold Zdi.L11t
    refine Zar (fun hlt=>?_) (fun hge=>?_)
    ·have hga:g < a.ps.length:=by omega
     have hgt:g < t.ps.length:=by omega
     have hit1:h'[it]?=some (.cells Zbg [.str [t.hd],.slice at' t.ps.length ct et,.ptr none] false):=by rw [hK.eq _ (Own.lt hit) (hSi _ sit)]; exact hit
     obtain ⟨ja,oa,rfl,_,hca⟩:=(rowa.keepAt (i:=i) (fun j o h0 e=>hSi j (hSa j o h0 e)) hK).at hga
     obtain ⟨jt,ot,rfl,_,hct⟩:=(rowt.keepAt (i:=i) (fun j o h0 e=>hSi j (hSt j o h0 e)) hK).at hgt
     have hqag:g < qa.length:=by omega
     have hqtg:g < qt.length:=by omega
     rw [List.getElem?_map,List.getElem?_eq_getElem hqag] at hca
     rw [List.getElem?_map,List.getElem?_eq_getElem hqtg] at hct
     simp only [Zao,Int.toNat_natCast,Nat.mul_one,hca,hct,Option.map_some,Zbu,Zal hit1,Nat.zero_add,List.getElem?_cons_succ,List.getElem?_cons_zero,Zak]
     have hma:=List.getElem_mem hga
     have hmt:=List.getElem_mem hgt
     have h1:=Ty.size_part hma
     have h2:=Ty.len_part hmt
     have bo1:BOk n m1:=BOk.matchL (fun x hx=>Ty.ok_ps ha x (List.mem_of_mem_take hx)) (fun x hx=>⟨Ty.ok_ps ht x (List.mem_of_mem_take hx),by have:=Ty.len_part (List.mem_of_mem_take hx); omega⟩) bo hm1
     have htk:=Zrj a.ps t.ps m g hga hgt
     rw [hm1] at htk
     simp only at htk
     refine ⟨by omega,by omega,(Zzf N (by omega) (Ty.ok_ps ha _ hma) (Ty.ok_ps ht _ hmt) (by omega) (by omega) bo1 hSi ((hqa g _ _ (List.getElem?_eq_getElem hqag) (List.getElem?_eq_getElem hga)).keep fun j hj hl=>hK.eq j hl (hSi j hj)) ((hqt g _ _ (List.getElem?_eq_getElem hqtg) (List.getElem?_eq_getElem hgt)).keep fun j hj hl=>hK.eq j hl (hSi j hj)) rm1).mono ?_⟩
     rintro v h3 ⟨K3,hres⟩
     cases hmm:matchT m1 a.ps[g] t.ps[g] with
     | none=>
      rw [hmm] at hres htk
      subst hres
      simp only [Zag,Bool.not_false,Zaz]
      rw [Zsa a.ps t.ps m (g + 1) hlen htk]
      exact ⟨hK.trans K3,rfl⟩
     | some m2=>
      rw [hmm] at hres htk
      obtain ⟨rfl,rm2⟩:=hres
      simp only [Zag,Bool.not_true,Zat]
      rw [Zby (by omega)]
      exact hR (g + 1) _ _ (by omega) ⟨rfl,by omega,hK.trans K3,m2,htk,rm2⟩
    ·apply Zdi.A11x0i
     have:g=a.ps.length:=by omega
     subst this
     rw [List.take_length,hlen,List.take_length] at hm1
     rw [hm1]
     exact ⟨hK,rfl,rm1⟩
end Go.Sim

set_option linter.unusedVariables false
set_option linter.unusedSimpArgs false
set_option maxRecDepth 20000
namespace Go.Sim
open Go Go.RowKit

theorem Zrk:pg.underlying Zhr=some (.slice Zaq):=by kernel_rfl
theorem Zvo:pg.cellsOf Zaq=2:=by kernel_rfl
theorem Zvn:pg.okElem Zaq=true:=by kernel_rfl
theorem Zvv:pg.bytesOf Zaq≤127:=Nat.le_of_ble_eq_true (by kernel_rfl)
theorem Vec.fresh {α:Type} {ty:TypeId} {enc:α→List Zad} {b:Nat} {h:Zaa} {a:Pt} {n c:Nat} {l:List α} (v:Vec ty h a n c (Zec enc l)) (hn:n=l.length) (ha:∀ i,a=some (i,0)→b≤i):Zfa ty enc b h a n l:=by
 refine ⟨hn.symm,?_⟩
 rcases v with ⟨rfl,h0,_⟩ | ⟨i,rfl,hi⟩
 ·exact .inl h0
 ·exact .inr ⟨i,rfl,ha i rfl,hi⟩
theorem Yfd (m:Bd):(bdL m).length≤6:=by
 rw [Yby,List.length_map]; exact Nat.le_trans (List.length_filter_le _ _) (by decide)
theorem Zrf {h:Zaa} {i:Nat} {m:Bd} (rm:Zwp h i m) (bo:BOk 60 m) :
  Zac pg Zgs [.map (some i)] h fun v h'=>Zbi h.length h h'∧∃ a n c e,v=.slice a n c e∧n≤c∧Zfa Zaq eP h.length h' a n (bdL m):=by
 have hml:m.length≤6:=by
  have hp:(m.map (·.1)).Perm (Zcf.filter fun v=>decide (v∈m.map (·.1))):=by
   rw [List.perm_ext_iff_of_nodup bo.nd (Zfc.filter _)]
   intro v
   rw [List.mem_filter]
   constructor
   ·intro hv
    obtain ⟨p,hp,rfl⟩:=List.mem_map.1 hv
    exact ⟨(Zdv _).2 (bo.var p hp).1,by simpa using hv⟩
   ·exact fun h=>by simpa using h.2
  have h1:=hp.length_eq
  have h2:=List.length_filter_le (fun v=>decide (v∈m.map (·.1))) Zcf
  rw [List.length_map] at h1
  have h3:Zcf.length=6:=rfl
  omega
 apply Zfk.call
 simp only [Zba]
 generalize hh0:h ++ [Zci.cells Zaq [] false]=h0
 have s0:Zbi h.length h h0:=by rw [← hh0]; exact Zav
 have l0:h0.length=h.length + 1:=by rw [← hh0]; simp
 have o0:h0[h.length]?=some (.cells Zaq [] false):=by rw [← hh0]; simp
 refine Yhp.mono ?_
 rintro v h2 ⟨rfl,hh2⟩
 simp only [Zsq]
 have s2:Zbi h0.length h0 h2:=by rw [hh2]; exact Zav
 have hc2:h2[h0.length]?=some (.cells Zes [.map (some i)] false):=by rw [hh2]; simp
 obtain ⟨es,clk,hm,hk,hvv,hb,hlt⟩:=id rm
 have S2:=s0.cat s2
 have hm2:=S2.get hm (Own.lt hm)
 have hel:es.length=m.length:=by have:=congrArg List.length hk; simpa using this
 refine (Zso hc2 hm2 (vs:=m.map (·.1)) (by rw [hk,List.map_map]; rfl) bo.nd hb hlt (by omega)).mono ?_
 rintro v h3 ⟨us,hp,hsrt,hcase⟩
 have hus:=Zxl bo hp hsrt
 have hbd:bdL m=us.map fun v=>([v],((Zcl m v).getD default).txt):=by rw [Yby,hus]
 have hul:us.length≤6:=by rw [hp.length_eq]; simpa using hml
 have hmem:∀ v∈us,∃ t,Zcl m v=some t:=fun v hv=>by
  rw [hus,List.mem_filter] at hv; exact Option.isSome_iff_exists.1 hv.2
 have hgen:∃ a c e,v=.slice a us.length c e∧Row h3.length h3 a us.length (us.map fun v=>Zad.str [v])∧Zbi h2.length h2 h3:=by
  rcases hcase with ⟨rfl,rfl,rfl⟩ | ⟨c,rfl,hc,rfl⟩
  ·exact ⟨_,_,_,rfl,Row.nil,Zbi.refl _ _⟩
  ·refine ⟨_,_,_,rfl,⟨by simp,.inr ⟨h2.length,0,Zdb,_,false,rfl,by simp,by simp; rfl,by simp,by rw [List.drop_zero,List.take_of_length_le (by simp)]⟩⟩,Zav⟩
 obtain ⟨a9,c9,e9,rfl,hrow,s3⟩:=hgen
 simp only [Zak]
 have S3:=S2.cat s3
 have hS3le:=S3.le
 have o3:h3[h.length]?=some (.cells Zaq [] false):=s3.get (s2.get o0 (Own.lt o0)) (by have:=Own.lt o0; have:=s2.le; omega)
 refine Zfk.L3ind _ _ _ _ _ _ _ (J:=fun (g:Nat) a3 n3 c3 e3 x11 h'=>x11=(g:Int)∧g≤us.length∧Zbi h.length h h'∧(∀ j,j < h3.length→j≠h.length→h'[j]?=h3[j]?)∧h3.length≤h'.length∧n3=g∧n3≤c3∧Vec Zaq h' a3 n3 c3 (Zec eP ((bdL m).take g))∧(∀ i,a3=some (i,0)→i=h.length ∨ h3.length≤i)) (fun g=>us.length - g) ?_ 0 _ _ _ _ _ _
  ⟨rfl,by omega,S3,fun _ _ _=>rfl,Nat.le_refl _,rfl,Nat.le_refl _,Vec.mk1 (by simpa using o3),fun i hi=>by cases hi; exact .inl rfl⟩
 rintro g a3 n3 c3 e3 x11 h' ⟨rfl,hg,hSm,hK,hle3,rfl,hnc,hv,ha⟩ R hR
 unfold Zfk.L3t
 have hbl:(bdL m).length=us.length:=by rw [hbd]; simp
 refine Zar (fun hlt=>?_) (fun hge=>?_)
 ·have hg':n3 < us.length:=by omega
  obtain ⟨j,o,rfl,hj,hc⟩:=hrow.at hg'
  rw [List.getElem?_map,List.getElem?_eq_getElem hg',Option.map_some] at hc
  -- the row of keys has not turned: it lies apart from the row of bindings
  have hjr:j≠h.length:=by
   rcases hcase with ⟨h0,_⟩ | ⟨c,hsl,_,_⟩
   ·rw [h0] at hg'; simp at hg'
   ·simp only [Zad.slice.injEq,Option.some.injEq,Prod.mk.injEq] at hsl
    have:=s2.le; omega
  have hc':Zah h' (.ptr (some (j,o + n3)))=some (.str [us[n3]]):=by
   rw [← hc]; simp only [Zah,hK j hj hjr]
  obtain ⟨t,ht⟩:=hmem _ (List.getElem_mem hg')
  have hm':=hSm.get hm (Own.lt hm)
  obtain ⟨jj,bb,hf,_⟩:=Zjp (k:=0) hk hvv ht
  simp only [Zao,Int.toNat_natCast,Nat.mul_one,hc',Zap,Zbv,hm',Znd,hf,Option.getD_some,Zba]
  have htk:(bdL m).take (n3 + 1)=(bdL m).take n3 ++ [([us[n3]],t.txt)]:=by
   rw [List.take_succ_eq_append_getElem (by omega)]
   congr 2
   have:(bdL m)[n3]?=some ([us[n3]],t.txt):=by
    rw [hbd,List.getElem?_map,List.getElem?_eq_getElem hg',Option.map_some,ht,Option.getD_some]
   exact (List.getElem?_eq_some_iff.1 this).2
  refine ⟨by omega,?_⟩
  refine hv.pushN Zrk Zvo Zvn Zvv (by rw [Zbc Zgl,List.length_take]; omega) rfl (by omega) rfl (by omega) (fun h6 hl6 hi6 hk6=>?_)
  simp only [Zak]
  rw [Zby (by omega)]
  have hle:=hSm.le
  have hb9:∀ i,a3=some (i,0)→h.length≤i:=fun i hi=>by rcases ha i hi with hh | hh <;> omega
  refine hR (n3 + 1) _ _ _ _ _ _ (by omega) ⟨rfl,by omega,⟨by omega,fun j hj=>?_⟩,fun j hj hne=>?_,by omega,rfl,Nat.le_refl _,Vec.mk1 ?_,fun i hi=>by cases hi; right; omega⟩
  ·rw [hk6 j (by omega) fun i hi=>by have:=hb9 i hi; omega]; exact hSm.eq j hj
  ·rw [hk6 j (by omega) fun i hi=>by rcases ha i hi with hh | hh <;> omega]; exact hK j hj hne
  ·rw [hi6,htk,Zrx]; rfl
 ·apply Zfk.A3x0i
  have:n3=us.length:=by omega
  subst this
  rw [show (bdL m).take us.length=bdL m from List.take_of_length_le (by omega)] at hv
  exact ⟨hSm,_,_,_,_,rfl,hnc,hv.fresh (b:=h.length) hbl.symm fun i hi=>by rcases ha i hi with hh | hh <;> omega⟩
def Yij (p s:List Nat) (h:Zaa) (v:Zad) (h':Zaa):Prop:=Zbi h.length h h'∧∃ a n c e,v=.tup [.slice a n c e,.bool (Zsv p s)]∧n≤c∧Zfa Zaq eP h.length h' a n (Zzr p s)
theorem Zvk (p s:List Nat) (h:Zaa):Zac pg Zhq [.str p,.str s] h (Yij p s h):=by
 apply Zhp.call
 refine (Zrh p h).mono ?_
 rintro v h1 ⟨s1,q1,rfl,r1⟩
 simp only [Zbu]
 refine (Zrh s h1).mono ?_
 rintro v h2 ⟨s2,q2,rfl,r2⟩
 simp only [Zbu,Zba]
 have S2:=s1.cat s2
 have s3:Zbi h2.length h2 (h2 ++ [.map [] 0]):=Zav
 have S3:=S2.cat s3
 have no:Zlb p s=none→Yij p s h (.tup [.slice none 0 0 true,.bool false]) (h2 ++ [.map [] 0]):=fun hn=>
  ⟨S3,none,0,0,true,by unfold Zsv; rw [hn]; rfl,Nat.le_refl _,by unfold Zzr; rw [hn]; exact ⟨rfl,.inl rfl⟩⟩
 cases hp:Zeh p with
 | none=>
  rw [hp] at r1; simp only at r1; subst r1
  simp only [Option.isNone_none,Zaz]
  exact no (by unfold Zlb; rw [hp])
 | some a=>
  rw [hp] at r1; simp only at r1
  obtain ⟨i1,rfl,b1,l1⟩:=r1.lt
  simp only [Option.isNone_some,Zat]
  cases ht:Zeh s with
  | none=>
   rw [ht] at r2; simp only at r2; subst r2
   simp only [Option.isNone_none,Zaz]
   exact no (by unfold Zlb; rw [hp,ht])
  | some t=>
   rw [ht] at r2; simp only at r2
   obtain ⟨i2,rfl,b2,l2⟩:=r2.lt
   simp only [Option.isNone_some,Zat]
   obtain ⟨ha1,ha2,ha3⟩:=Zbw.1 hp
   obtain ⟨ht1,ht2,ht3⟩:=Zbw.1 ht
   have hms:Zlb p s=matchT [] a t:=by unfold Zlb; rw [hp,ht]
   have hl1:=s1.le; have hl2:=s2.le
   have R1:=((r1.same s2).same s3).mono (S':=fun j=>j≠h2.length) (fun j hj=>by have:=hj.2; omega)
   have R2:=(r2.same s3).mono (S':=fun j=>j≠h2.length) (fun j hj=>by have:=hj.2; omega)
   have rm:Zwp (h2 ++ [.map [] 0]) h2.length []:=⟨[],0,by simp,rfl,rfl,by simp,by simp⟩
   refine (Zzf _ (Nat.le_refl _) ha1 ht1 (by rw [← ht2]; omega) (n:=60) (by rw [← ht2]; exact ht3) BOk.nil (fun j hj=>hj) R1 R2 rm).mono ?_
   rintro v h4 ⟨K4,hres⟩
   have S4:Zbi h.length h h4:=⟨by have:=K4.le; have:=S3.le; omega,fun j hj=>by rw [K4.eq j (by have:=S3.le; omega) (by have:=S2.le; omega)]; exact S3.eq j hj⟩
   cases hm:matchT [] a t with
   | none=>
    rw [hm] at hres hms
    subst hres
    simp only [Zag,Bool.not_false,Zaz]
    exact ⟨S4,none,0,0,true,by unfold Zsv; rw [hms]; rfl,Nat.le_refl _,by unfold Zzr; rw [hms]; exact ⟨rfl,.inl rfl⟩⟩
   | some m=>
    rw [hm] at hres hms
    obtain ⟨rfl,rm4⟩:=hres
    simp only [Zag,Bool.not_true,Zat]
    apply Zhp.J4i
    refine (Zrf rm4 (Ydv hms)).mono ?_
    rintro v h5 ⟨s5,a5,n5,c5,e5,rfl,hc5,f5⟩
    simp only [Zak]
    refine ⟨S4.cat s5,a5,n5,c5,e5,by unfold Zsv; rw [hms]; rfl,hc5,?_⟩
    unfold Zzr; rw [hms]
    exact ⟨f5.1,f5.2.imp id fun ⟨i,ha,hb,hi⟩=>⟨i,ha,by have:=S4.le; omega,hi⟩⟩
theorem Zob (p s:List Nat) (h:Zaa):Zac pg Zfq [.str p,.str s] h fun v h'=>v=.bool (Zsv p s)∧Zbi h.length h h':=by
 apply Zjk.call
 refine (Zvk p s h).mono ?_
 rintro v h1 ⟨s1,a,n,c,e,rfl,_⟩
 simp only [Zcb,Zaf,Zak,Zag,Zan]
 exact ⟨by trivial,s1⟩
end Go.Sim

set_option linter.unusedVariables false
set_option linter.unusedSimpArgs false
set_option maxRecDepth 20000
namespace Go.Sim
open Go Go.RowKit

def Zee:List Nat:=[88,89,90,120,121,122,49,50,51,52,53,54]
theorem Zus {v:Nat} (hv:Zam v=true):∃ k:Nat,k < 6∧Zcf[k]?=some v∧Zme Zee v=(k:Int):=by
 have:=(Zdv v).2 hv
 simp only [Zcf,List.mem_cons,List.not_mem_nil,or_false] at this
 rcases this with rfl | rfl | rfl | rfl | rfl | rfl
 ·exact ⟨0,by omega,rfl,rfl⟩
 ·exact ⟨1,by omega,rfl,rfl⟩
 ·exact ⟨2,by omega,rfl,rfl⟩
 ·exact ⟨3,by omega,rfl,rfl⟩
 ·exact ⟨4,by omega,rfl,rfl⟩
 ·exact ⟨5,by omega,rfl,rfl⟩
theorem Zsl {t:Ty} (h:t.ok=true):t.hd∈[105,98,117,108,109,112,120,121,122,88,89,90]:=by
 have:=Ty.ok_ar h
 unfold arN Zdm Zam at this
 simp only [Bool.or_eq_true,beq_iff_eq] at this
 simp only [List.mem_cons,List.not_mem_nil,or_false]
 split at this
 ·omega
 ·split at this
  ·omega
  ·split at this
   ·omega
   ·omega
theorem Yfe {t:Ty} (h:t.ok=true) (hv:Zam t.hd=false):Zme Zee t.hd=-1:=by
 apply Zre
 have:=Zsl h
 simp only [List.mem_cons,List.not_mem_nil,or_false] at this
 rcases this with e | e | e | e | e | e | e | e | e | e | e | e <;> rw [e] at hv ⊢ <;> first | (exact absurd hv (by decide)) | decide
theorem Zih {h:Zaa} (c:Nat):Zac pg Zdu [.int .u8 (c:Int)] h fun v h'=>v=.int .i64 (Zme Zee c)∧h'=h:=by
 apply Zmp.call
 refine (Zxg Zee c (by decide)).mono ?_
 rintro v h1 ⟨rfl,rfl⟩
 simp only [Zae]
 exact ⟨by trivial,by trivial⟩
def eR (x:Zad × Zad):List Zad:=[x.1,x.2]
theorem Zgv (x:Zad × Zad):(eR x).length=2:=rfl
theorem Zqd {α:Type} {enc:α→List Zad} {w:Nat} (hw:∀ x,(enc x).length=w):∀ {l:List α} {k:Nat} {x:α},k < l.length→putRow (Zec enc l) (k * w) (enc x)=Zec enc (l.set k x)
 | [],k,x,h=>by simp at h
 | y :: l,0,x,_=>by
  simp only [Nat.zero_mul,Zip,List.set_cons_zero,putRow,List.take_zero,List.nil_append,Nat.zero_add,hw]
  rw [← hw y,List.drop_left]
 | y :: l,k + 1,x,h=>by
  have ih:=Zqd hw (l:=l) (k:=k) (x:=x) (by simpa using h)
  unfold putRow at ih ⊢
  simp only [Zip,List.set_cons_succ]
  rw [← ih,Nat.succ_mul,Nat.add_comm (k * w) w,← hw y,List.take_length_add_append,Nat.add_assoc,List.drop_length_add_append]; simp only [List.append_assoc]
def Zpf (S:Nat→Prop) (h:Zaa) (i:Nat) (m:Bd):Prop:=∃ rows:List (Zad × Zad),rows.length=12∧h[i]?=some (.cells Zbe (Zec eR rows) false) ∧
 ∀ (k:Nat) (x:Zad × Zad),rows[k]?=some x→match (Zcf[k]?).bind (Zcl m) with | some t=>Zdk S h t (eR x) | none=>x=(.int .u8 0,.slice none 0 0 true)
theorem Zpf.keep {S:Nat→Prop} {h h':Zaa} {i:Nat} {m:Bd} (r:Zpf S h i m) (hi:h'[i]?=h[i]?) (hh:∀ j,S j→j < h.length→h'[j]?=h[j]?):Zpf S h' i m:=by
 obtain ⟨rows,h1,h2,h3⟩:=r
 refine ⟨rows,h1,by rw [hi]; exact h2,fun k x hx=>?_⟩
 have:=h3 k x hx
 split at this
 ·exact this.keep hh
 ·exact this
theorem Zpf.same {S:Nat→Prop} {h h':Zaa} {i:Nat} {m:Bd} (r:Zpf S h i m) (s:Zbi h.length h h'):Zpf S h' i m:=by
 have hl:i < h.length:=by obtain ⟨_,_,h2,_⟩:=r; exact Own.lt h2
 exact r.keep (s.eq i hl) fun j _ hj=>s.eq j hj
theorem Zpf.lt {S:Nat→Prop} {h:Zaa} {i:Nat} {m:Bd} (r:Zpf S h i m):i < h.length:=by obtain ⟨_,_,h2,_⟩:=r; exact Own.lt h2
theorem Zpf.nil {S:Nat→Prop} {h:Zaa} {i:Nat} (hi:h[i]?=some (.cells Zbe (Zec eR (List.replicate 12 (.int .u8 0,.slice none 0 0 true))) false)):Zpf S h i []:=by
 refine ⟨_,by simp,hi,fun k x hx=>?_⟩
 have:(Zcf[k]?).bind (Zcl [])=none:=by cases Zcf[k]? <;> rfl
 rw [this]
 rw [List.getElem?_replicate] at hx
 split at hx
 ·cases hx; rfl
 ·cases hx
theorem Zpf.get {S:Nat→Prop} {h:Zaa} {i:Nat} {m:Bd} (r:Zpf S h i m) {k:Nat} (hk:k < 12):∃ x:Zad × Zad,Zah h (.ptr (some (i,0 + k * 2 + 0)))=some x.1∧Zcv h (.ptr (some (i,0 + k * 2))) 2=some [x.1,x.2] ∧
  match (Zcf[k]?).bind (Zcl m) with | some t=>Zdk S h t [x.1,x.2] | none=>x=(.int .u8 0,.slice none 0 0 true):=by
 obtain ⟨rows,h1,h2,h3⟩:=r
 have hrow:Row h.length h (some (i,0)) (12 * 2) (Zec eR rows):=⟨by rw [Zbc Zgv,h1],.inr ⟨i,0,_,_,_,rfl,Own.lt h2,h2,by rw [Zbc Zgv,h1]; simp,by rw [List.drop_zero,List.take_of_length_le (by rw [Zbc Zgv,h1]; simp)]⟩⟩
 obtain ⟨i',o',hk',he,_,hr,hc⟩:=Row.el Zgv hrow h1 hk (by omega)
 cases he
 exact ⟨rows[k],by have:=hc 0 (by omega); simpa [eR] using this,hr,h3 k _ (List.getElem?_eq_getElem hk')⟩
def Yfq (S:Nat→Prop) (h:Zaa) (i:Nat) (m:Bd):Prop:=∃ rows:List (Zad × Zad),rows.length=12∧h[i]?=some (.cells Zbe (Zec eR rows) false) ∧
 ∀ (k:Nat) (x:Zad × Zad),k < 6→rows[k]?=some x→match (Zcf[k]?).bind (Zcl m) with | some t=>Zdk S h t (eR x) | none=>x=(.int .u8 0,.slice none 0 0 true)
theorem Zpf.w {S:Nat→Prop} {h:Zaa} {i:Nat} {m:Bd} (r:Zpf S h i m):Yfq S h i m:=by
 obtain ⟨rows,h1,h2,h3⟩:=r
 exact ⟨rows,h1,h2,fun k x _ hx=>h3 k x hx⟩
theorem Yfq.lt {S:Nat→Prop} {h:Zaa} {i:Nat} {m:Bd} (r:Yfq S h i m):i < h.length:=by obtain ⟨_,_,h2,_⟩:=r; exact Own.lt h2
theorem Yfq.same {S:Nat→Prop} {h h':Zaa} {i:Nat} {m:Bd} (r:Yfq S h i m) (s:Zbi h.length h h'):Yfq S h' i m:=by
 obtain ⟨rows,h1,h2,h3⟩:=r
 refine ⟨rows,h1,by rw [s.eq i (Own.lt h2)]; exact h2,fun k x hk hx=>?_⟩
 have:=h3 k x hk hx
 split at this
 ·exact this.keep fun j _ hj=>s.eq j hj
 ·exact this
theorem Yfq.get {S:Nat→Prop} {h:Zaa} {i:Nat} {m:Bd} (r:Yfq S h i m) {k:Nat} (hk:k < 6):∃ x:Zad × Zad,Zah h (.ptr (some (i,0 + k * 2 + 0)))=some x.1∧Zcv h (.ptr (some (i,0 + k * 2))) 2=some [x.1,x.2] ∧
  match (Zcf[k]?).bind (Zcl m) with | some t=>Zdk S h t [x.1,x.2] | none=>x=(.int .u8 0,.slice none 0 0 true):=by
 obtain ⟨rows,h1,h2,h3⟩:=r
 have hrow:Row h.length h (some (i,0)) (12 * 2) (Zec eR rows):=⟨by rw [Zbc Zgv,h1],.inr ⟨i,0,_,_,_,rfl,Own.lt h2,h2,by rw [Zbc Zgv,h1]; simp,by rw [List.drop_zero,List.take_of_length_le (by rw [Zbc Zgv,h1]; simp)]⟩⟩
 obtain ⟨i',o',hk',he,_,hr,hc⟩:=Row.el Zgv hrow h1 (show k < 12 by omega) (by omega)
 cases he
 exact ⟨rows[k],by have:=hc 0 (by omega); simpa [eR] using this,hr,h3 k _ hk (List.getElem?_eq_getElem hk')⟩
theorem Zpf.put {S:Nat→Prop} {h:Zaa} {i:Nat} {m:Bd} (r:Zpf S h i m) (hSi:∀ j,S j→j≠i) {k v:Nat} (hk:Zcf[k]?=some v) (hg:Zcl m v=none) {t:Ty} {x y:Zad} (ht:Zdk S h t [x,y]) :
  ∃ h',Zbf h (.ptr (some (i,0 + k * 2))) [x,y]=some h'∧Zeo i h h'∧Zpf S h' i (m ++ [(v,t)]):=by
 obtain ⟨rows,h1,h2,h3⟩:=r
 have hk6:k < 6:=(List.getElem?_eq_some_iff.1 hk).1
 have hput:putRow (Zec eR rows) (k * 2) (eR (x,y))=Zec eR (rows.set k (x,y)):=Zqd Zgv (by omega)
 refine ⟨h.set i (.cells Zbe (Zec eR (rows.set k (x,y))) false),?_,Zeo.set _ _ _,?_⟩
 ·rw [Nat.zero_add,Zbj h2 (by rw [Zbc Zgv,h1]; simp; omega),← hput]; rfl
 ·have hkeep:∀ j,S j→j < h.length→(h.set i (.cells Zbe (Zec eR (rows.set k (x,y))) false))[j]?=h[j]?:=fun j hj _=>Zbr (fun e=>hSi j hj e.symm)
  refine ⟨_,by simp [h1],Zch h2,fun k' x' hx'=>?_⟩
  by_cases e:k=k'
  ·subst e
   rw [List.getElem?_set_self (by omega)] at hx'
   cases hx'
   rw [hk]
   simp only [Option.bind_some,Ziy,hg,if_true]
   exact ht.keep hkeep
  ·rw [List.getElem?_set_ne e] at hx'
   have:=h3 k' x' hx'
   have hb:(Zcf[k']?).bind (Zcl (m ++ [(v,t)]))=(Zcf[k']?).bind (Zcl m):=by
    cases hv':Zcf[k']? with
    | none=>rfl
    | some w=>
     simp only [Option.bind_some,Ziy]
     cases hb:Zcl m w with
     | some u=>rfl
     | none=>
      have:¬ v=w:=fun e'=>by
       subst e'
       have h5:=List.getElem?_eq_some_iff.1 hk
       have h6:=List.getElem?_eq_some_iff.1 hv'
       exact e ((List.getElem_inj (h₀:=h5.1) (h₁:=h6.1) Zfc).1 (h5.2.trans h6.2.symm))
      simp [this]
   rw [hb]
   split at this
   ·exact this.keep hkeep
   ·exact this
theorem Zeo.of_same {i:Nat} {h h':Zaa} (s:Zbi h.length h h'):Zeo i h h':=⟨s.le,fun j hj _=>s.eq j hj⟩
end Go.Sim

set_option linter.unusedVariables false
set_option linter.unusedSimpArgs false
set_option maxRecDepth 20000
namespace Go.Sim
open Go Go.RowKit

theorem Zjx:∀ (N:Nat) {S:Nat→Prop} {h:Zaa} {t:Ty} {v:List Zad},t.size≤N→t.txt.length≤4611686018427387904→Zdk S h t v→Zac pg Zek [.agg v] h fun x h'=>x=.int .i64 (t.txt.length:Nat)∧Zbi h.length h h'
 | 0,S,h,t,v,hN,_,_=>by have:=t.size_ps; omega
 | N + 1,S,h,t,v,hN,hB,r=>by
  obtain ⟨a,c,e,vs,rfl,hrow,hS,hvl,hp⟩:=r.parts
  have hps2:t.ps.length≤2:=by cases t <;> simp [Ty.ps]
  have htx:=t.txt_mids
  have hln:=congrArg List.length htx
  rw [List.length_append,List.length_cons] at hln
  apply Zdy.call
  simp only [Zba,Zph,Nat.zero_add,List.getElem?_cons_succ,List.getElem?_cons_zero,Zak]
  generalize hh0:h ++ [Zci.cells Zab [.int .u8 (t.hd:Int),.slice a t.ps.length c e] false]=h0
  have s0:Zbi h.length h h0:=by rw [← hh0]; exact Zav
  have o0:h0[h.length]?=some (.cells Zab [.int .u8 (t.hd:Int),.slice a t.ps.length c e] false):=by rw [← hh0]; simp
  refine Zdy.L3ind _ _ _ _ _ _ _ _ (J:=fun (g:Nat) x3 x9 h'=>x9=(g:Int)∧g≤t.ps.length∧Zbi h.length h h'∧Zbi h0.length h0 h'∧x3=((1 + (Zhz 0 (t.ps.take g)).length:Nat):Int)) (fun g=>t.ps.length - g) ?_ 0 _ _ _ ⟨rfl,by omega,s0,Zbi.refl _ _,by simp [Zhz]⟩
  rintro g x3 x9 h' ⟨rfl,hg,hSm,hS1,rfl⟩ R hR
  unfold Zdy.L3t
  have o2:=hS1.get o0 (Own.lt o0)
  refine Zar (fun hlt=>?_) (fun hge=>?_)
  ·have hg':g < t.ps.length:=by omega
   obtain ⟨i,o,a2,c2,e2,rfl,hr,hk⟩:=Zdk.get (hrow.same' hSm) hvl (fun k w x h1 h2=>(hp k w x h1 h2).same hSm) hg'
   simp only [Zao,Int.toNat_natCast,hr,Zaw,Zaf,Zan,Zae,Zak,Zba]
   rw [Zgg]
   simp only [Zas]
   rw [Ybp]
   simp only [Zaw,Zaf,Zan,Zae,Zak]
   have hm:=List.getElem_mem hg'
   have h1:=Ty.size_part hm
   have h2:=Ty.len_part hm
   have hmt:=Zmi t.ps 0 g hg'
   have hml:(Zhz 0 (t.ps.take (g + 1))).length≤(Zhz 0 t.ps).length:=Zoi _ _ _
   have hmtl:=congrArg List.length hmt
   simp only [List.length_append,List.length_cons,Nat.zero_add] at hmtl
   have s2:Zbi h'.length h' (h' ++ [.cells Zab [.int .u8 (t.ps[g].hd:Int),.slice a2 t.ps[g].ps.length c2 e2] false]):=Zav
   refine ⟨by omega,(Zjx N (by omega) (by omega) (hk.same s2)).mono ?_⟩
   rintro x h3 ⟨rfl,s3⟩
   simp only [Zae]
   rw [Zby (by omega),Zby (by omega),IntWalk.i64_in _ (by omega)]
   exact hR (g + 1) _ _ _ (by omega) ⟨rfl,by omega,(hSm.cat s2).cat s3,(hS1.cat s2).cat s3,by omega⟩
  ·apply Zdy.A3x0i
   have:g=t.ps.length:=by omega
   subst this
   simp only [Zal o2,Nat.zero_add,List.getElem?_cons_succ,List.getElem?_cons_zero,Zak]
   rw [List.take_length]
   refine Zar (fun hpos=>?_) (fun hneg=>?_)
   ·have hne:t.ps≠[]:=fun e=>by rw [e] at hpos; simp at hpos
    rw [if_neg hne] at hln
    apply Zdy.J9i
    simp only [List.length_cons,List.length_nil] at hln
    rw [Zby (by omega)]
    exact ⟨by congr 1; omega,hSm⟩
   ·have hne:t.ps=[]:=List.eq_nil_of_length_eq_zero (by omega)
    rw [if_pos hne] at hln
    simp only [List.length_nil] at hln
    apply Zdy.J9i
    exact ⟨by congr 1; omega,hSm⟩
def Zwq (m:Bd) (g:Nat):List Nd:=(Zcf.take g).filterMap fun v=>(Zcl m v).map fun t=>([v],t.txt)
theorem Ybr (m:Bd) (g:Nat):Zwq m (g + 1)=Zwq m g ++ (match Zcf[g]? with | some v=>(match Zcl m v with | some t=>[([v],t.txt)] | none=>[]) | none=>[]):=by
 unfold Zwq
 rw [List.take_succ,List.filterMap_append]
 cases Zcf[g]? with
 | none=>simp
 | some v=>cases hb:Zcl m v <;> simp [hb]
theorem Ygi (m:Bd) (g:Nat):(Zwq m g).length≤6:=by
 unfold Zwq
 refine Nat.le_trans (List.length_filterMap_le _ _) ?_
 rw [List.length_take]; exact Nat.le_trans (Nat.min_le_right _ _) (by decide)
theorem Yhg {g v:Nat} (hv:Zcf[g]?=some v):sub [88,89,90,120,121,122,49,50,51,52,53,54] (g:Int) ((g:Int) + 1)=[v]:=by
 have hg:g < 6:=(List.getElem?_eq_some_iff.1 hv).1
 match g,hg with
 | 0,_ | 1,_ | 2,_ | 3,_ | 4,_ | 5,_=>simp [Zcf] at hv; subst hv; rfl
theorem Ybx:Zec eR (List.replicate 12 (Zad.int .u8 0,Zad.slice none 0 0 true))=[.int .u8 0,.slice none 0 0 true,.int .u8 0,.slice none 0 0 true,.int .u8 0,.slice none 0 0 true,.int .u8 0,.slice none 0 0 true,.int .u8 0,.slice none 0 0 true,.int .u8 0,.slice none 0 0 true,.int .u8 0,.slice none 0 0 true,.int .u8 0,.slice none 0 0 true,.int .u8 0,.slice none 0 0 true,.int .u8 0,.slice none 0 0 true,.int .u8 0,.slice none 0 0 true,.int .u8 0,.slice none 0 0 true]:=rfl
theorem Zmj {h h':Zaa} {s:List Nat} {vs:List Zad} (hm:match Zeh s with | some t=>Zdk (Btw h.length h'.length) h' t vs | none=>vs=[.int .u8 0,.slice none 0 0 true]):∃ (d:Int) (a:Pt) (n c:Nat) (e:Bool),vs=[.int .u8 d,.slice a n c e]:=by
 split at hm
 ·obtain ⟨a,c,e,rfl⟩:=hm.shape; exact ⟨_,_,_,_,_,rfl⟩
 ·exact ⟨_,_,_,_,_,hm⟩
end Go.Sim

set_option linter.unusedSimpArgs false
set_option linter.unusedVariables false
namespace Go.Sim

noncomputable def Zlg (l:List Nd) (i:Nat):Bool:=Zku (l.getD i ([],[])).1 && Znl (l.getD i ([],[])).2 && (i == 0 || Zeb (l.getD (i - 1) ([],[])).1 (l.getD i ([],[])).1)
noncomputable def Zez (l:List Nd):Bool:=(List.range l.length).all (Zlg l)
def Zqu (l:List Nd) (c:Nat):List Nat:=match l.find? fun p=>decide (p.1=[c]) with | some p=>p.2 | none=>[c]
def Zgh (l:List Nd) (t:List Nat):List Nat:=t.flatMap (Zqu l)
noncomputable def Zkc (l:List Nd) (c:Nat):Option Ty:=match l.find? fun p=>decide (p.1=[c]) with | some p=>Zeh p.2 | none=>none
noncomputable def subst (f:Nat→Option Ty):Ty→Ty
 | .k c=>(f c).getD (.k c)
 | .u c a=>.u c (subst f a)
 | .w c a b=>.w c (subst f a) (subst f b)
noncomputable def Zfu (l:List Nd) (t:List Nat):Option (List Nat):=if Zez l && Znl t && decide ((Zgh l t).length≤60) then some (Zgh l t) else none
theorem Zrl {l:List Nd} (h:Zez l=true) {i:Nat} (hi:i < l.length):Zku l[i].1=true∧Znl l[i].2=true∧(i=0 ∨ Zeb (l.getD (i - 1) ([],[])).1 l[i].1=true):=by
 unfold Zez at h
 rw [List.all_eq_true] at h
 have:=h i (List.mem_range.2 hi)
 unfold Zlg at this
 rw [Zll hi] at this
 simp only [Bool.and_eq_true,Bool.or_eq_true,beq_iff_eq] at this
 exact ⟨this.1.1,this.1.2,this.2⟩
theorem Zid {l:List Nd} (h:Zez l=true) {p:Nd} (hp:p∈l):Zku p.1=true∧Znl p.2=true:=by
 obtain ⟨i,hi,rfl⟩:=List.getElem_of_mem hp
 exact ⟨(Zrl h hi).1,(Zrl h hi).2.1⟩
theorem Znr {l:List Nd} (h:Zez l=true) {c:Nat} (hc:Zam c=false):Zqu l c=[c]∧Zkc l c=none:=by
 have:l.find? (fun p=>decide (p.1=[c]))=none:=by
  rw [List.find?_eq_none]
  intro p hp e
  have:=(Zid h hp).1
  rw [of_decide_eq_true e] at this
  simp [Zku,hc] at this
 unfold Zqu Zkc
 rw [this]; exact ⟨rfl,rfl⟩
theorem Zou {l:List Nd} (h:Zez l=true) (c:Nat):Zqu l c=((Zkc l c).getD (.k c)).txt∧∀ t,Zkc l c=some t→t.ok=true∧t.txt.length≤60:=by
 unfold Zqu Zkc
 cases hf:l.find? (fun p=>decide (p.1=[c])) with
 | none=>exact ⟨rfl,fun t ht=>by cases ht⟩
 | some p=>
  have hp:=List.mem_of_find?_eq_some hf
  obtain ⟨t,ht⟩:=Zlf (Zid h hp).2
  obtain ⟨h1,h2,h3⟩:=Zbw.1 ht
  simp only [ht]
  refine ⟨by simpa using h2,fun u hu=>?_⟩
  cases hu
  exact ⟨h1,by rw [← h2]; exact h3⟩
theorem Zik {l:List Nd} (h:Zez l=true) {c:Nat} (hc:Zvx c=true):Zqu l c=[c]:=by
 refine (Znr h ?_).1
 simp only [Zvx,Bool.or_eq_true,beq_iff_eq] at hc
 rcases hc with (rfl | rfl) | rfl <;> rfl
theorem Yfm {c:Nat} {a:Ty} (h:(Ty.u c a).ok=true):Zam c=false:=by
 cases hv:Zam c with
 | false=>rfl
 | true=>have:=Zlo h hv; cases this
theorem Yeu {c:Nat} {a b:Ty} (h:(Ty.w c a b).ok=true):Zam c=false:=by
 cases hv:Zam c with
 | false=>rfl
 | true=>have:=Zlo h hv; cases this
theorem Zig {l:List Nd} (h:Zez l=true):∀ {t:Ty},t.ok=true→Zgh l t.txt=(subst (Zkc l) t).txt∧(subst (Zkc l) t).ok=true
 | .k c,ht=>by
  have:=Zou h c
  simp only [Zgh,Ty.txt,List.flatMap_cons,List.flatMap_nil,List.append_nil,subst]
  refine ⟨this.1,?_⟩
  cases hb:Zkc l c with
  | none=>exact ht
  | some t=>exact (this.2 t hb).1
 | .u c a,ht=>by
  have hv:=Yfm ht
  have hh:=ht
  simp only [Ty.ok,Bool.and_eq_true] at ht
  have ih:=Zig h ht.2
  simp only [Zgh] at ih
  simp only [Zgh,Ty.txt,List.flatMap_cons,List.flatMap_append,List.flatMap_nil,List.append_nil,subst,(Znr h hv).1,Zik h Ty.m40,Zik h Ty.m41,ih.1,List.cons_append,List.nil_append]
  refine ⟨by trivial,?_⟩
  simp only [Ty.ok,Bool.and_eq_true]; exact ⟨ht.1,ih.2⟩
 | .w c a b,ht=>by
  have hv:=Yeu ht
  simp only [Ty.ok,Bool.and_eq_true] at ht
  have ih:=Zig h ht.1.2
  have ih2:=Zig h ht.2
  simp only [Zgh] at ih ih2
  simp only [Zgh,Ty.txt,List.flatMap_cons,List.flatMap_append,List.flatMap_nil,List.append_nil,subst,(Znr h hv).1,Zik h Ty.m40,Zik h Ty.m41,Zik h Ty.m44,ih.1,ih2.1,List.cons_append,List.nil_append]
  refine ⟨by trivial,?_⟩
  simp only [Ty.ok,Bool.and_eq_true]; exact ⟨⟨ht.1.1,ih.2⟩,ih2.2⟩
theorem Zqp (a b:Nat):Zeb [a] [b]=decide (a < b):=by
 simp [Zeb]
theorem Yab {m:Bd} (b:BOk 60 m):Zez (bdL m)=true:=by
 rw [Yby]
 generalize hvs:(Zcf.filter fun v=>(Zcl m v).isSome)=vs
 have hs:vs.Pairwise (· < ·):=by rw [← hvs]; exact Zpm.filter _
 have hm:∀ v∈vs,Zam v=true∧∃ t,Zcl m v=some t:=by
  intro v hv
  rw [← hvs,List.mem_filter] at hv
  exact ⟨(Zdv v).1 hv.1,Option.isSome_iff_exists.1 hv.2⟩
 unfold Zez
 rw [List.all_eq_true]
 intro i hi
 rw [List.mem_range,List.length_map] at hi
 unfold Zlg
 rw [Zll (by simpa using hi),List.getElem_map]
 obtain ⟨h1,t,h2⟩:=hm _ (List.getElem_mem hi)
 have h3:=b.var _ (Zib h2)
 simp only [h2,Option.getD_some,Zku,h1,Bool.true_and,Bool.and_eq_true,Bool.or_eq_true,beq_iff_eq]
 refine ⟨Zza.2 ⟨t,h3.2.1,rfl,h3.2.2⟩,?_⟩
 cases i with
 | zero=>exact .inl rfl
 | succ j=>
  right
  rw [Nat.add_sub_cancel,Zll (by simp; omega),List.getElem_map,Zqp]
  exact decide_eq_true (List.pairwise_iff_getElem.1 hs j (j + 1) (by omega) hi (by omega))
end Go.Sim
