/- A part of the proof of a statement of this seat: see the text that holds the theorem. No condition. -/
import Derived.Test.YtdglddliggejdaaPTy2
import Derived.Test.YtdglddliggejdaaSimX
import Derived.Test.YtdglddliggejdaaPTCParse
import Derived.Test.YtdglddliggejdaaNm
import Derived.Test.YtdglddliggejdaaPTCGr
import Derived.Test.YtdglddliggejdaaShelf
set_option linter.unusedVariables false
set_option linter.unusedSimpArgs false
set_option linter.all false
set_option linter.unusedSimpArgs false
namespace Go.Sim

abbrev Nd:=List Nat × List Nat
abbrev Ins:=Nd × List Nd
structure Wd where
 cs:List Nd
 is:List Ins

def Ycb (s:List Nat):Bool:=match s with | [c]=>Zao c | _=>false
end Go.Sim

set_option linter.unusedVariables false
set_option linter.unusedSimpArgs false
set_option maxRecDepth 20000
namespace Go.Sim
open Go Go.RowKit

def Zdv {α:Type} (ty:TypeId) (enc:α→List Zac) (b:Nat) (h:Zaa) (a:Pt) (n:Nat) (l:List α):Prop:=l.length=n∧(n=0 ∨ ∃ i,a=some (i,0)∧b≤i∧h[i]?=some (.cells ty (Zdz enc l) false))
theorem Zdv.row {α:Type} {ty:TypeId} {enc:α→List Zac} {w b:Nat} {h:Zaa} {a:Pt} {n:Nat} {l:List α} (hw:∀ x,(enc x).length=w) (f:Zdv ty enc b h a n l):Row h.length h a (n * w) (Zdz enc l):=by
 obtain ⟨hl,h0 | ⟨i,ha,hb,hi⟩⟩:=f
 ·subst h0
  have:l=[]:=List.eq_nil_of_length_eq_zero hl
  subst this; simp; exact Row.nil
 ·rw [ha]; exact (Vec.mk1 (n:=0) (c:=0) hi).row (by rw [Zbj hw,hl])
theorem Zdv.same {α:Type} {ty:TypeId} {enc:α→List Zac} {b:Nat} {h h':Zaa} {a:Pt} {n:Nat} {l:List α} (f:Zdv ty enc b h a n l) (s:Zbg h.length h h'):Zdv ty enc b h' a n l:=
 ⟨f.1,f.2.imp id fun ⟨i,ha,hb,hi⟩=>⟨i,ha,hb,by rw [s.eq i (Own.lt hi)]; exact hi⟩⟩
end Go.Sim

set_option linter.unusedVariables false
set_option linter.unusedSimpArgs false
set_option maxRecDepth 20000
namespace Go.Sim
open Go Go.RowKit

def Zvq (a:Pt) (n:Nat) (h h':Zaa):Prop:=h.length≤h'.length∧∀ j,j < h.length→(∀ i,a=some (i,0)→n≠0→j≠i)→h'[j]?=h[j]?
theorem Zvq.refl (a:Pt) (n:Nat) (h:Zaa):Zvq a n h h:=⟨Nat.le_refl _,fun _ _ _=>rfl⟩
theorem Zvq.same {a:Pt} {n:Nat} {h h1 h2:Zaa} (o:Zvq a n h h1) (s:Zbg h1.length h1 h2):Zvq a n h h2:=⟨Nat.le_trans o.1 s.le,fun j hj hn=>by rw [s.eq j (by have:=o.1; omega)]; exact o.2 j hj hn⟩
theorem Zvq.set {n i:Nat} {h h1:Zaa} {x:Zcj} (o:Zvq (some (i,0)) n h h1) (hn:n≠0):Zvq (some (i,0)) n h (h1.set i x):=⟨by simp; exact o.1,fun j hj hne=>by rw [Zbk (fun e=>hne i rfl hn e.symm)]; exact o.2 j hj hne⟩
theorem Row.only {b:Nat} {h h':Zaa} {a a':Pt} {n m:Nat} {cs:List Zac} (r:Row b h a m cs) (o:Zvq a' n h h') (hb:∀ i,a'=some (i,0)→n≠0→b≤i):Row b h' a m cs:=by
 obtain ⟨hl,r⟩:=r
 refine ⟨hl,r.imp id ?_⟩
 rintro ⟨i,o',t,all,ro,ha,hi,hg,x⟩
 exact ⟨i,o',t,all,ro,ha,hi,by rw [o.2 i (Own.lt hg) fun j hj hn=>by have:=hb j hj hn; omega]; exact hg,x⟩
theorem Zpx {cs vs:List Zac} {o:Nat} (h:o + vs.length≤cs.length):(putRow cs o vs).length=cs.length:=by unfold putRow; simp; omega
theorem Yef {L:List Nd} {g:Nat} {x y:List Nat} (hg:g < L.length):putRow (putRow (Zdz eP L) (g * 2) [.str x]) (g * 2 + 1) [.str y]=Zdz eP (L.take g ++ (x,y) :: L.drop (g + 1)):=by
 have h1:Zdz eP L=Zdz eP (L.take g) ++ .str L[g].1 :: .str L[g].2 :: Zdz eP (L.drop (g + 1)):=by
  have e0:L=L.take g ++ L[g] :: L.drop (g + 1):=by rw [← List.drop_eq_getElem_cons hg,List.take_append_drop]
  have:=congrArg (Zdz eP) e0
  rw [Zho,Zfb] at this
  exact this
 have hA:(Zdz eP (L.take g)).length=g * 2:=by rw [Zbj Zgx,List.length_take]; omega
 generalize hAe:Zdz eP (L.take g)=A at *
 generalize hB:Zdz eP (L.drop (g + 1))=B at *
 rw [h1]
 have e1:putRow (A ++ Zac.str L[g].1 :: Zac.str L[g].2 :: B) (g * 2) [.str x]=A ++ .str x :: .str L[g].2 :: B:=by
  unfold putRow
  rw [← hA,List.take_left,show A.length + [Zac.str x].length=A.length + 1 from rfl,← List.drop_drop,List.drop_left]
  simp
 rw [e1]
 unfold putRow
 have e2:(A ++ .str x :: .str L[g].2 :: B).take (g * 2 + 1)=A ++ [.str x]:=by rw [← hA,List.take_length_add_append]; rfl
 have e3:(A ++ .str x :: .str L[g].2 :: B).drop (g * 2 + 1 + [Zac.str y].length)=B:=by
  rw [show g * 2 + 1 + [Zac.str y].length=A.length + 2 by rw [hA]; rfl,← List.drop_drop,List.drop_left]; rfl
 rw [e2,e3]
 rw [Zho,Zfb,hB,hAe]
 simp [eP]
def Zis (k:Int) (n:Nat):List Nd:=(List.range n).map fun (j:Nat)=>(Zlh (k + 2 * j),Zlh (k + 2 * j + 1))
theorem Zgt (k:Int) (n:Nat):(Zis k n).length=n:=by simp [Zis]
theorem Zvo (k:Int) (n:Nat):Zis k (n + 1)=Zis k n ++ [(Zlh (k + 2 * n),Zlh (k + 2 * n + 1))]:=by simp [Zis,List.range_succ]
theorem Zwu (k:Int) {n g:Nat} (h:g < n):(Zis k n)[g]'(by rw [Zgt]; exact h)=(Zlh (k + 2 * g),Zlh (k + 2 * g + 1)):=by simp [Zis]
theorem Zdv.only {α:Type} {ty:TypeId} {enc:α→List Zac} {b:Nat} {h h':Zaa} {a a':Pt} {n m:Nat} {l:List α} (f:Zdv ty enc b h a n l) (o:Zvq a' m h h') (hb:∀ i,a'=some (i,0)→m≠0→∀ j,a=some (j,0)→j≠i):Zdv ty enc b h' a n l:=
 ⟨f.1,f.2.imp id fun ⟨i,ha,hbi,hi⟩=>⟨i,ha,hbi,by rw [o.2 i (Own.lt hi) fun j hj hn=>hb j hj hn i ha]; exact hi⟩⟩
end Go.Sim

set_option linter.unusedVariables false
set_option linter.unusedSimpArgs false
set_option maxRecDepth 20000
namespace Go.Sim
open Go Go.RowKit

structure EI where
 c:List Nat
 t:List Nat
 a:Pt
 n:Nat
 cp:Nat
 e:Bool
 deriving Inhabited
def eN (x:EI):List Zac:=[.str x.c,.str x.t,.slice x.a x.n x.cp x.e]
def Yei (h:Zaa) (x:EI) (i:Ins):Prop:=x.c=i.1.1∧x.t=i.1.2∧Row h.length h x.a (x.n * 2) (Zdz eP i.2)
def Yax (h:Zaa) (xs:List EI) (is:List Ins):Prop:=xs.length=is.length∧∀ (k:Nat) (x:EI) (i:Ins),xs[k]?=some x→is[k]?=some i→Yei h x i
structure Ygj (h:Zaa) (a0:Pt) (n0 c0:Nat) (a1:Pt) (n1 c1:Nat) (w:Wd):Prop where
 cls:Row h.length h a0 (n0 * 2) (Zdz eP w.cs)
 ins:∃ xs,Row h.length h a1 (n1 * 3) (Zdz eN xs)∧Yax h xs w.is
 le0:n0≤c0
 le1:n1≤c1
theorem Row.same' {h h':Zaa} {a:Pt} {n:Nat} {cs:List Zac} (r:Row h.length h a n cs) (s:Zbg h.length h h'):Row h'.length h' a n cs:=(r.same s).mono s.le
theorem Yei.same {h h':Zaa} {x:EI} {i:Ins} (r:Yei h x i) (s:Zbg h.length h h'):Yei h' x i:=⟨r.1,r.2.1,r.2.2.same' s⟩
theorem Yax.same {h h':Zaa} {xs:List EI} {is:List Ins} (r:Yax h xs is) (s:Zbg h.length h h'):Yax h' xs is:=⟨r.1,fun k x i hx hi=>(r.2 k x i hx hi).same s⟩
theorem Ygj.same {h h':Zaa} {a0 a1:Pt} {n0 c0 n1 c1:Nat} {w:Wd} (r:Ygj h a0 n0 c0 a1 n1 c1 w) (s:Zbg h.length h h'):Ygj h' a0 n0 c0 a1 n1 c1 w:=
 ⟨r.cls.same' s,r.ins.imp fun xs ⟨r1,r2⟩=>⟨r1.same' s,r2.same s⟩,r.le0,r.le1⟩
theorem Yei.len {h:Zaa} {x:EI} {i:Ins} (r:Yei h x i):i.2.length=x.n:=by have:=r.2.2.1; rw [Zbj Zgx] at this; omega
def Mid (lo hi:Nat) (h h':Zaa):Prop:=h.length≤h'.length∧∀ j,j < h.length→(j < lo ∨ hi≤j)→h'[j]?=h[j]?
theorem Mid.refl (lo hi:Nat) (h:Zaa):Mid lo hi h h:=⟨Nat.le_refl _,fun _ _ _=>rfl⟩
theorem Mid.trans {lo hi:Nat} {h h1 h2:Zaa} (a:Mid lo hi h h1) (b:Mid lo hi h1 h2):Mid lo hi h h2:=⟨Nat.le_trans a.1 b.1,fun j hj hn=>by rw [b.2 j (by have:=a.1; omega) hn]; exact a.2 j hj hn⟩
theorem Mid.of_same {lo hi:Nat} {h h':Zaa} (s:Zbg h.length h h'):Mid lo hi h h':=⟨s.le,fun j hj _=>s.eq j hj⟩
theorem Mid.same {lo hi:Nat} {h h1 h2:Zaa} (a:Mid lo hi h h1) (s:Zbg h1.length h1 h2):Mid lo hi h h2:=a.trans (Mid.of_same s)
theorem Mid.set {lo hi i:Nat} {h h1:Zaa} {x:Zcj} (o:Mid lo hi h h1) (h0:lo≤i) (h2:i < hi):Mid lo hi h (h1.set i x):=⟨by simp; exact o.1,fun j hj hne=>by rw [Zbk (by omega)]; exact o.2 j hj hne⟩
theorem Zdv.in {α:Type} {ty:TypeId} {enc:α→List Zac} {b:Nat} {h:Zaa} {a:Pt} {n:Nat} {l:List α} (f:Zdv ty enc b h a n l):∀ i,a=some (i,0)→n≠0→b≤i∧i < h.length:=by
 intro i hi hn
 rcases f.2 with h0 | ⟨j,ha,hb,hj⟩
 ·exact absurd h0 hn
 ·rw [hi] at ha; cases ha; exact ⟨hb,Own.lt hj⟩
structure Zxk (b:Nat) (h:Zaa) (a0:Pt) (n0:Nat) (a1:Pt) (n1:Nat) (xs:List EI) (w:Wd):Prop where
 cls:Zdv Zrv eP b h a0 n0 w.cs
 ins:Zdv Znz eN b h a1 n1 xs
 len:xs.length=w.is.length
 need:∀ (k:Nat) (x:EI) (i:Ins),xs[k]?=some x→w.is[k]?=some i→x.c=i.1.1∧x.t=i.1.2∧Zdv Zsu eP b h x.a x.n i.2
 sep:∀ (j k:Nat) (x y:EI),j≠k→xs[j]?=some x→xs[k]?=some y→x.n≠0→y.n≠0→x.a≠y.a
 nn:∀ x∈xs,x.a≠none
 nc:a0≠none
theorem Zxk.same {b:Nat} {h h':Zaa} {a0 a1:Pt} {n0 n1:Nat} {xs:List EI} {w:Wd} (f:Zxk b h a0 n0 a1 n1 xs w) (s:Zbg h.length h h'):Zxk b h' a0 n0 a1 n1 xs w:=
 ⟨f.cls.same s,f.ins.same s,f.len,fun k x i hx hi=>⟨(f.need k x i hx hi).1,(f.need k x i hx hi).2.1,(f.need k x i hx hi).2.2.same s⟩,f.sep,f.nn,f.nc⟩
end Go.Sim

set_option linter.unusedVariables false
set_option linter.unusedSimpArgs false
set_option maxRecDepth 20000
namespace Go.Sim
open Go Go.RowKit

def one (c:Nat):List Nat:=[c]
end Go.Sim

set_option linter.unusedVariables false
set_option linter.unusedSimpArgs false
set_option maxRecDepth 20000
namespace Go.Sim
open Go Go.RowKit

theorem Zpg {h:Zaa} {t:TypeId} {cs:List Zac} {o:Nat}:Zaj (h ++ [.cells t cs false]) (.ptr (some (h.length,o)))=cs[o]?:=Zag (t:=t) (cs:=cs) (ro:=false) (by simp)
theorem Zzt {h:Zaa} {t:TypeId} {cs:List Zac} {n:Nat} (hn:cs.length=n):Zcl (h ++ [.cells t cs false]) (.ptr (some (h.length,0))) n=some cs:=by
 rw [Zhc (show (h ++ [Zcj.cells t cs false])[h.length]?=some (.cells t cs false) by simp) (by omega)]; simp [← hn]
theorem Zax {h:Zaa} {x:Zcj}:Zbg h.length h (h ++ [x]):=Zbg.app (Nat.le_refl _) _
theorem Zvy {h:Zaa} {t:TypeId} {cs vs:List Zac} (hl:cs.length=vs.length):Zbc (h ++ [.cells t cs false]) (.ptr (some (h.length,0))) vs=some (h ++ [.cells t vs false]):=by
 rw [Zbd (show (h ++ [Zcj.cells t cs false])[h.length]?=some (.cells t cs false) by simp) (by omega)]
 simp [putRow,hl]
theorem Zlu {h:Zaa} {t:TypeId} {x y a b:Zac}:Zbc (h ++ [.cells t [x,y] false]) (.ptr (some (h.length,0))) [a,b]=some (h ++ [.cells t [a,b] false]):=Zvy rfl
theorem Row.sl {b:Nat} {h:Zaa} {a:Pt} {n k:Nat} {l:List Nd} (r:Row b h a (n * 2) (Zdz eP l)) (hk:k≤n) (hl:l.length=n):Row b h a (k * 2) (Zdz eP (l.take k)):=by
 obtain ⟨h1,h2⟩:=r
 have e:(Zdz eP (l.take k)).length=k * 2:=by rw [Zbj Zgx,List.length_take,Nat.min_eq_left (by omega)]
 refine ⟨e,?_⟩
 rcases h2 with h0 | ⟨i,o,t,all,ro,ha,hb,hi,hle,hcs⟩
 ·exact .inl (by omega)
 ·refine .inr ⟨i,o,t,all,ro,ha,hb,hi,by omega,?_⟩
  rw [← Zwt Zgx,hcs,List.take_take,Nat.min_eq_left (by omega)]
end Go.Sim

set_option linter.unusedVariables false
set_option linter.unusedSimpArgs false
set_option maxRecDepth 20000
namespace Go.Sim
open Go Go.RowKit
end Go.Sim

set_option linter.unusedVariables false
set_option linter.unusedSimpArgs false
set_option maxRecDepth 20000
namespace Go.Sim
open Go Go.RowKit

theorem Ydk (c:Nat):decide (c∈[120,121,122,88,89,90])=Zao c:=by rw [Bool.eq_iff_iff]; simp [Zao,or_assoc]
theorem Zmx {h:Zaa} (s:List Nat):Zad pg Zbx [.str s] h fun v h'=>v=.bool (Ycb s)∧h'=h:=by
 apply Zlv.call
 match s with
 | []=>exact Zdx (fun h1=>by simp at h1) (fun h1=>⟨rfl,rfl⟩)
 | [c]=>
  refine Zdx (fun h1=>?_) (fun h1=>by simp at h1)
  refine Zlw.mono ?_
  rintro v h' ⟨rfl,rfl⟩
  simp only [Zaf]
  exact ⟨by rw [Ydk]; rfl,by trivial⟩
 | c :: d :: r=>exact Zdx (fun h1=>by simp at h1; omega) (fun h1=>⟨rfl,rfl⟩)
end Go.Sim

set_option linter.unusedVariables false
set_option linter.unusedSimpArgs false
set_option maxRecDepth 20000
namespace Go.Sim
open Go Go.RowKit

end Go.Sim

set_option linter.unusedVariables false
set_option linter.unusedSimpArgs false
set_option maxRecDepth 20000
namespace Go.Sim
open Go Go.RowKit

structure WB (w:Wd):Prop where
 lc:w.cs.length≤1048576
 li:w.is.length≤1048576
 cs:∀ p∈w.cs,p.1.length≤1048576∧p.2.length≤1048576∧∀ b∈p.1,b < 256
 is:∀ i∈w.is,i.1.1.length≤1048576∧i.1.2.length≤1048576∧i.2.length≤1048576∧∀ p∈i.2,p.1.length≤1048576∧p.2.length≤1048576
theorem Zbg.get {b:Nat} {h h':Zaa} {j:Nat} {x:Zcj} (s:Zbg b h h') (hj:h[j]?=some x) (hb:j < b):h'[j]?=some x:=by rw [s.eq j hb]; exact hj
theorem Zbg.cat {h h1 h2:Zaa} (a:Zbg h.length h h1) (b:Zbg h1.length h1 h2):Zbg h.length h h2:=a.trans (b.mono a.le)

theorem Zzx {h:Zaa} {t:TypeId} {x y:Zac}:Zcl (h ++ [.cells t [x,y] false]) (.ptr (some (h.length,0))) 2=some [x,y]:=Zzt rfl
end Go.Sim

set_option linter.unusedVariables false
set_option linter.unusedSimpArgs false
set_option maxRecDepth 20000
namespace Go.Sim
open Go Go.RowKit

end Go.Sim

set_option linter.unusedVariables false
set_option linter.unusedSimpArgs false
set_option maxRecDepth 20000
namespace Go.Sim
open Go Go.RowKit
end Go.Sim

set_option linter.unusedVariables false
set_option linter.unusedSimpArgs false
set_option maxRecDepth 20000
namespace Go.Sim
open Go Go.RowKit

def isz (i:Ins):Nat:=i.1.1.length + i.1.2.length + (i.2.length + Zxp i.2)
def Ybg (l:List Ins):Nat:=(l.map isz).sum
def wsz (w:Wd):Nat:=w.cs.length + Zxp w.cs + (w.is.length + Ybg w.is)
theorem Zxu {l:List Ins} {g:Nat} (h:g < l.length):Ybg (l.take (g + 1))=Ybg (l.take g) + isz l[g]:=by
 unfold Ybg; rw [List.take_succ_eq_append_getElem h,List.map_append,List.sum_append]; simp
theorem Zsc (l:List Ins) (g:Nat):Ybg (l.take g)≤Ybg l:=by
 conv=>rhs; rw [← List.take_append_drop g l]
 unfold Ybg; rw [List.map_append,List.sum_append]; omega
theorem Yan {l:List Ins} {g:Nat} (h:g < l.length):isz l[g]≤Ybg l:=by
 have:=Zxu h; have:=Zsc l (g + 1); omega
def Ybh (n:Nat):Prop:=n≤9223372036854775807
structure Yhe (w:Wd):Prop where
 lc:Ybh w.cs.length
 li:Ybh w.is.length
 cs:∀ p∈w.cs,Ybh p.1.length∧Ybh p.2.length∧∀ b∈p.1,b < 256
 is:∀ i∈w.is,Ybh i.1.1.length∧Ybh i.1.2.length∧Ybh i.2.length∧∀ p∈i.2,Ybh p.1.length∧Ybh p.2.length
theorem WB.of {w:Wd} (b:Yhe w) (h:wsz w≤1048576):WB w:=by
 have h1:∀ p∈w.cs,p.1.length + p.2.length≤Zxp w.cs:=fun p hp=>by
  obtain ⟨k,hk,rfl⟩:=List.mem_iff_getElem.1 hp; exact Ztw hk
 have h2:∀ i∈w.is,isz i≤Ybg w.is:=fun p hp=>by
  obtain ⟨k,hk,rfl⟩:=List.mem_iff_getElem.1 hp; exact Yan hk
 unfold wsz at h
 refine ⟨by omega,by omega,fun p hp=>⟨by have:=h1 p hp; omega,by have:=h1 p hp; omega,(b.cs p hp).2.2⟩,fun i hi=>?_⟩
 have:=h2 i hi
 unfold isz at this
 refine ⟨by omega,by omega,by omega,fun p hp=>?_⟩
 have h3:p.1.length + p.2.length≤Zxp i.2:=by obtain ⟨k,hk,rfl⟩:=List.mem_iff_getElem.1 hp; exact Ztw hk
 omega
theorem Zdv.keep {α:Type} {ty:TypeId} {enc:α→List Zac} {b b':Nat} {h h':Zaa} {a:Pt} {n:Nat} {l:List α} (f:Zdv ty enc b h a n l) (hb:b'≤b) (hk:∀ i,b≤i→i < h.length→h'[i]?=h[i]?):Zdv ty enc b' h' a n l:=
 ⟨f.1,f.2.imp id fun ⟨i,ha,hbi,hi⟩=>⟨i,ha,by omega,by rw [hk i hbi (Own.lt hi)]; exact hi⟩⟩
end Go.Sim

set_option linter.unusedVariables false
set_option linter.unusedSimpArgs false
set_option maxRecDepth 20000
namespace Go.Sim
open Go Go.RowKit

theorem Zdg {h:Zaa} {i:Nat} {t:TypeId} {x y:Zac} {ro:Bool} (hi:h[i]?=some (.cells t [x,y] ro)):Zcl h (.ptr (some (i,0))) 2=some [x,y]:=by
 rw [Zhc hi (by simp)]; rfl
end Go.Sim

set_option linter.unusedVariables false
set_option linter.unusedSimpArgs false
set_option maxRecDepth 20000
namespace Go.Sim
open Go Go.RowKit

theorem Ty.size_ps (t:Ty):t.size=1 + (t.ps.map Ty.size).sum:=by cases t <;> simp [Ty.size,Ty.ps] <;> omega
theorem Zdd.same {S:Nat→Prop} {h h':Zaa} (s:Zbg h.length h h'):∀ {t:Ty} {v:List Zac},Zdd S h t v→Zdd S h' t v
 | .k d,_,h=>h
 | .u d x,_,⟨j,c,e,r,hv,sj,hj,hr⟩=>⟨j,c,e,r,hv,sj,s.get hj (Own.lt hj),hr.same s⟩
 | .w d x y,_,⟨j,c,e,r,r',hv,sj,hj,hr,hr'⟩=>⟨j,c,e,r,r',hv,sj,s.get hj (Own.lt hj),hr.same s,hr'.same s⟩
end Go.Sim

set_option linter.unusedVariables false
set_option linter.unusedSimpArgs false
set_option maxRecDepth 20000
namespace Go.Sim
open Go Go.RowKit

theorem Vec.lt' {ty:TypeId} {h:Zaa} {a:Pt} {i n c:Nat} {cs:List Zac} (x:Vec ty h a n c cs) (e:a=some (i,0)):i < h.length:=by subst e; exact x.lt
theorem Zkd.keep {S:Nat→Prop} {h h':Zaa} (hh:∀ j,S j→j < h.length→h'[j]?=h[j]?):∀ {t:Ty} {p:Pt},Zkd S h t p→Zkd S h' t p
 | .k d,p,⟨i,a,c,e,hp,si,hi⟩=>⟨i,a,c,e,hp,si,by rw [hh i si (Own.lt hi)]; exact hi⟩
 | .u d x,p,⟨i,j,c,e,q,hp,si,hi,sj,hj,hq⟩=>⟨i,j,c,e,q,hp,si,by rw [hh i si (Own.lt hi)]; exact hi,sj,by rw [hh j sj (Own.lt hj)]; exact hj,hq.keep hh⟩
 | .w d x y,p,⟨i,j,c,e,q,r,hp,si,hi,sj,hj,hq,hr⟩=>⟨i,j,c,e,q,r,hp,si,by rw [hh i si (Own.lt hi)]; exact hi,sj,by rw [hh j sj (Own.lt hj)]; exact hj,hq.keep hh,hr.keep hh⟩
theorem Zkd.same {S:Nat→Prop} {h h':Zaa} {t:Ty} {p:Pt} (r:Zkd S h t p) (s:Zbg h.length h h'):Zkd S h' t p:=r.keep fun j _ hj=>s.eq j hj
theorem Zdd.keep {S:Nat→Prop} {h h':Zaa} (hh:∀ j,S j→j < h.length→h'[j]?=h[j]?):∀ {t:Ty} {v:List Zac},Zdd S h t v→Zdd S h' t v
 | .k d,_,h=>h
 | .u d x,_,⟨j,c,e,r,hv,sj,hj,hr⟩=>⟨j,c,e,r,hv,sj,by rw [hh j sj (Own.lt hj)]; exact hj,hr.keep hh⟩
 | .w d x y,_,⟨j,c,e,r,r',hv,sj,hj,hr,hr'⟩=>⟨j,c,e,r,r',hv,sj,by rw [hh j sj (Own.lt hj)]; exact hj,hr.keep hh,hr'.keep hh⟩
theorem Ty.size_part {t x:Ty} (h:x∈t.ps):x.size < t.size:=by
 cases t with
 | k c=>simp [Ty.ps] at h
 | u c a=>simp [Ty.ps] at h; subst h; simp [Ty.size]
 | w c a b=>simp [Ty.ps] at h; rcases h with rfl | rfl <;> simp [Ty.size] <;> omega
theorem Ty.len_part {t x:Ty} (h:x∈t.ps):x.txt.length < t.txt.length:=by
 cases t with
 | k c=>simp [Ty.ps] at h
 | u c a=>simp [Ty.ps] at h; subst h; simp [Ty.txt]; omega
 | w c a b=>simp [Ty.ps] at h; rcases h with rfl | rfl <;> simp [Ty.txt] <;> omega
theorem Zdd.get {S:Nat→Prop} {h:Zaa} {t:Ty} {a:Pt} {vs:List (List Zac)} (hrow:Row h.length h a (t.ps.length * 2) vs.flatten) (hvl:vs.length=t.ps.length) (hp:∀ (k:Nat) (w:List Zac) (x:Ty),vs[k]?=some w→t.ps[k]?=some x→Zdd S h x w) {g:Nat} (hg':g < t.ps.length) :
  ∃ i o a2 c2 e2,a=some (i,o)∧Zcl h (.ptr (some (i,o + g * 2))) 2=some [.int .u8 (t.ps[g].hd:Int),.slice a2 t.ps[g].ps.length c2 e2]∧Zdd S h t.ps[g] [.int .u8 (t.ps[g].hd:Int),.slice a2 t.ps[g].ps.length c2 e2]:=by
 have hgv:g < vs.length:=by omega
 have hk:=hp g vs[g] t.ps[g] (List.getElem?_eq_getElem hgv) (List.getElem?_eq_getElem hg')
 have hz:∀ v∈vs,v.length=2:=fun v hv=>by
  obtain ⟨k,hk,rfl⟩:=List.mem_iff_getElem.1 hv
  exact (hp k vs[k] (t.ps[k]'(by omega)) (List.getElem?_eq_getElem hk) (List.getElem?_eq_getElem (by omega))).len
 have hfl:vs.flatten=Zdz (fun (v:{v:List Zac // v.length=2})=>v.1) (vs.attach.map fun v=>⟨v.1,hz v.1 v.2⟩):=by
  unfold Zdz; rw [List.flatMap_map]; simp
 rw [hfl] at hrow
 obtain ⟨i,o,hk',ha,_,hr,_⟩:=Row.el (enc:=fun (v:{v:List Zac // v.length=2})=>v.1) (fun x=>x.2) hrow (by simp [hvl]) (k:=g) hg' (by omega)
 obtain ⟨a2,c2,e2,hv2⟩:=hk.shape
 rw [hv2] at hk
 exact ⟨i,o,a2,c2,e2,ha,by rw [hr]; simp [hv2],hk⟩
theorem Zyh {g:Nat} (hg:g < 2):sub [40,44] (g:Int) ((g:Int) + 1)=[Zim g]:=by
 rcases g with _ | _ | g
 ·rfl
 ·rfl
 ·omega
theorem Ty.hd_lt (t:Ty) (h:t.ok=true):t.hd < 256:=by
 have:=Ty.ok_ar h
 unfold arN Zda Zao at this
 simp only [Bool.or_eq_true,beq_iff_eq] at this
 split at this
 ·omega
 ·split at this
  ·omega
  ·split at this
   ·omega
   ·omega
def Zgi:Nat→List Ty→List Nat
 | _,[]=>[]
 | g,x :: l=>Zim g :: (x.txt ++ Zgi (g + 1) l)
theorem Zjk:∀ (l:List Ty) (g k:Nat) (h:k < l.length),Zgi g (l.take (k + 1))=Zgi g (l.take k) ++ Zim (g + k) :: l[k].txt
 | x :: l,g,0,_=>by simp [Zgi]
 | x :: l,g,k + 1,h=>by
  have:=Zjk l (g + 1) k (by simpa using h)
  simp only [List.take_succ_cons,Zgi,this,List.getElem_cons_succ,List.cons_append,List.append_assoc]
  rw [show g + 1 + k=g + (k + 1) by omega]
theorem Zkk:∀ (l:List Ty) (g k:Nat),(Zgi g (l.take k)).length≤(Zgi g l).length
 | [],g,k=>by simp [Zgi]
 | x :: l,g,0=>by simp [Zgi]
 | x :: l,g,k + 1=>by
  have:=Zkk l (g + 1) k
  simp only [List.take_succ_cons,Zgi,List.length_cons,List.length_append]; omega
theorem Ty.txt_mids (t:Ty):t.txt=t.hd :: Zgi 0 t.ps ++ (if t.ps=[] then [] else [41]):=by
 cases t <;> simp [Ty.ps,Ty.txt,Ty.hd,Zgi,Zim]
theorem Zri:∀ (N:Nat) {S:Nat→Prop} {h:Zaa} {t:Ty} {v:List Zac},t.size≤N→t.txt.length≤1048576→t.ok=true→Zdd S h t v→Zad pg Zgj [.agg v] h fun x h'=>x=.str t.txt∧Zbg h.length h h'
 | 0,S,h,t,v,hN,_,_,_=>by have:=t.size_ps; omega
 | N + 1,S,h,t,v,hN,hB,hok,r=>by
  obtain ⟨a,c,e,vs,rfl,hrow,hS,hvl,hp⟩:=r.parts
  have hps2:t.ps.length≤2:=by cases t <;> simp [Ty.ps]
  have htx:=t.txt_mids
  have hln:=congrArg List.length htx
  rw [List.length_append,List.length_cons] at hln
  apply Zdu.call
  simp only [Zbi,Zpg,Nat.zero_add,List.getElem?_cons_succ,List.getElem?_cons_zero,Zak,Zae]
  generalize hh0:h ++ [Zcj.cells Zab [.int .u8 (t.hd:Int),.slice a t.ps.length c e] false]=h0
  have s0:Zbg h.length h h0:=by rw [← hh0]; exact Zax
  have o0:h0[h.length]?=some (.cells Zab [.int .u8 (t.hd:Int),.slice a t.ps.length c e] false):=by rw [← hh0]; simp
  generalize hh1:h0 ++ [Zcj.cells Zsp [.int .u8 (t.hd:Int)] false]=h1
  have s1:Zbg h0.length h0 h1:=by rw [← hh1]; exact Zax
  have o1:=s1.get o0 (Own.lt o0)
  have hro:rowOf h1 (some (h0.length,0)) 1=some [.int .u8 (t.hd:Int)]:=by rw [← hh1]; simp [rowOf,Zcl]
  rw [hro]
  simp only [Zay,Zhm,chk,decide_true]
  rw [show ((t.hd:Int)).toNat=t.hd from Int.toNat_natCast _]
  refine ⟨⟨by omega,by have:=t.hd_lt hok; omega⟩,?_⟩
  simp only [Zag o1,List.getElem?_cons_succ,List.getElem?_cons_zero,Zak]
  refine Zdu.L3ind _ _ _ _ _ _ _ _ (J:=fun (g:Nat) x3 x13 h'=>x13=(g:Int)∧g≤t.ps.length∧Zbg h.length h h'∧Zbg h1.length h1 h'∧x3=t.hd :: Zgi 0 (t.ps.take g)) (fun g=>t.ps.length - g) ?_ 0 _ _ _ ⟨rfl,by omega,s0.cat s1,Zbg.refl _ _,by simp [Zgi]⟩
  rintro g x3 x13 h' ⟨rfl,hg,hSm,hS1,rfl⟩ R hR
  unfold Zdu.L3t
  have o2:=hS1.get o1 (Own.lt o1)
  refine Zan (fun hlt=>?_) (fun hge=>?_)
  ·have hg':g < t.ps.length:=by omega
   obtain ⟨i,o,a2,c2,e2,rfl,hr,hk⟩:=Zdd.get (hrow.same' hSm) hvl (fun k w x h1 h2=>(hp k w x h1 h2).same hSm) hg'
   simp only [Zaq,Int.toNat_natCast,hr,Zay,Zai,Zat,Zae,Zak,Zbi]
   rw [Zlu]
   simp only [Zau]
   rw [Zzx]
   simp only [Zay,Zai,Zat,Zae,Zak]
   rw [Zcm (by omega),show (((g + 1:Nat):Int))=(g:Int) + 1 by omega,Zyh (by omega)]
   have hm:=List.getElem_mem hg'
   have h1:=Ty.size_part hm
   have h2:=Ty.len_part hm
   have hmt:=Zjk t.ps 0 g hg'
   have hml:(Zgi 0 (t.ps.take (g + 1))).length≤(Zgi 0 t.ps).length:=Zkk _ _ _
   have hmtl:=congrArg List.length hmt
   simp only [List.length_append,List.length_cons,Nat.zero_add] at hmtl
   have s2:Zbg h'.length h' (h' ++ [.cells Zab [.int .u8 (t.ps[g].hd:Int),.slice a2 t.ps[g].ps.length c2 e2] false]):=Zax
   refine ⟨by omega,⟨by omega,by omega,by simp; omega⟩,by simp; omega,(Zri N (by omega) (by omega) (Ty.ok_ps hok _ hm) (hk.same s2)).mono ?_⟩
   rintro x h3 ⟨rfl,s3⟩
   simp only [Zba]
   refine ⟨by simp; omega,?_⟩
   exact hR (g + 1) _ _ _ (by omega) ⟨by omega,by omega,(hSm.cat s2).cat s3,(hS1.cat s2).cat s3,by rw [hmt,Nat.zero_add]; simp⟩
  ·apply Zdu.A3x0i
   have:g=t.ps.length:=by omega
   subst this
   simp only [Zag o2,Nat.zero_add,List.getElem?_cons_succ,List.getElem?_cons_zero,Zak]
   rw [List.take_length]
   refine Zan (fun hpos=>?_) (fun hneg=>?_)
   ·have hne:t.ps≠[]:=fun e=>by rw [e] at hpos; simp at hpos
    rw [if_neg hne] at htx hln
    refine ⟨by simp; simp at hln; omega,?_⟩
    apply Zdu.J9i
    exact ⟨by rw [htx],hSm⟩
   ·have hne:t.ps=[]:=List.eq_nil_of_length_eq_zero (by omega)
    rw [if_pos hne,List.append_nil] at htx
    apply Zdu.J9i
    exact ⟨by rw [htx],hSm⟩
end Go.Sim

set_option linter.unusedVariables false
namespace Go.Sim
open Go Go.RowKit Go.Maps Go.Sort Go.Shelf Go.Proofs
theorem Ybm (m:Nat):AnyZ.SortsIn Try.prog Try.sorted105_ren Fence.wide m:=
 ⟨fun blk off cap ss W hH hblk hsz=>callsIn_wide.2 (Try.slices_Sort_string blk off cap ss W hH hblk hsz),fun p cap W=>callsIn_wide.2 (Try.slices_Sort_string_none p cap W)⟩
theorem Yah {h:Zaa} {m:Option Nat}:Zad pg Zce [.map m] h fun v h'=>v=.fn Zbz [.ptr (some (h.length,0))]∧h'=h ++ [.cells Zdq [.map m] false]:=
 Zad.keys ⟨_,Try.func106,by kernel_rfl,by kernel_rfl⟩ (fun mb W=>callsIn_wide.1 (AnyZ.keys_in Try.keys106 Fence.wide 5 trivial rfl mb W))
set_option maxHeartbeats 1000000 in
theorem Zop {h:Zaa} {i m:Nat} {es:List ME} {clk:Nat} (hi:h[i]?=some (.cells Zdq [.map (some m)] false)) (hm:h[m]?=some (.map es clk)) {vs:List Nat} (hks:es.map (·.1)=vs.map fun v=>.str [v]) (nd:vs.Nodup) (born:(es.map (·.2.2)).Nodup) (lt:∀ e∈es,e.2.2 < clk) (hl:es.length≤1048576) :
  Zad pg Zfm [.fn Zbz [.ptr (some (i,0))]] h fun v h'=>∃ us:List Nat,us.Perm vs∧us.Pairwise (·≤·)∧((us=[]∧v=.slice none 0 0 true∧h'=h) ∨ (∃ c,v=.slice (some (h.length,0)) us.length c false∧us.length≤c∧h'=h ++ [.cells Zmj (us.map fun v=>.str [v]) false])):=
 Zad.sortedKeys (M:=Zdq) (K:=Zmj) Try.underlying9 (by kernel_rfl) ⟨_,Try.func105,by kernel_rfl,by kernel_rfl⟩
  (fun Bm b nn D0 R w hown hBm hcell hmax hbytes=>callsIn_wide.1 (by
   have hseq:SeqGives Fence.wide 2 Try.prog 147 #[.pointer (some ⟨Bm,0,none⟩)] encStr (fun ss=>ss.Perm (strKeys D0)) (Maps.size D0) w:=
    AnyZ.keys_gives (ρ:=Try.keys106_ren) { Try.keys106 with } Fence.wide _ trivial rfl (by omega) Bm b nn D0 w hBm hcell hown
   exact AnyZ.sorted_in Try.sorted105 Fence.wide 5 trivial trivial trivial trivial rfl (by omega) (Ybm _) (enters_of Try.func146 (by kernel_rfl) rfl) 147 #[.pointer (some ⟨Bm,0,none⟩)] trivial (enters_of Try.func147 (by kernel_rfl) rfl) _ _ hmax hbytes _ hseq))
  hi hm hks nd born lt hl
end Go.Sim

set_option linter.unusedSimpArgs false
set_option linter.unusedVariables false
namespace Go.Sim

abbrev Bd:=List (Nat × Ty)
def Zea:Bd→Nat→Option Ty
 | [],_=>none
 | (v,t) :: m,x=>if v=x then some t else Zea m x
structure BOk (n:Nat) (m:Bd):Prop where
 var:∀ p∈m,Zao p.1=true∧p.2.ok=true∧p.2.txt.length≤n
 nd:(m.map (·.1)).Nodup
theorem Zmv:∀ {m:Bd} {v:Nat} {t:Ty},Zea m v=some t→(v,t)∈m
 | (w,u) :: m,v,t,h=>by
  simp only [Zea] at h
  split at h
  ·rename_i e; cases h; subst e; simp
  ·exact List.mem_cons_of_mem _ (Zmv h)
theorem Zqs:∀ {m:Bd} {v:Nat},Zea m v=none ↔ v ∉ m.map (·.1)
 | [],v=>by simp [Zea]
 | (w,u) :: m,v=>by
  simp only [Zea]
  by_cases e:w=v
  ·simp [e]
  ·simp only [e,if_false,Zqs (m:=m),List.map_cons,List.mem_cons,not_or]
   exact ⟨fun h=>⟨fun e'=>e e'.symm,h⟩,fun h=>h.2⟩
theorem Zsl {m:Bd} {v:Nat}:(Zea m v).isSome=true ↔ v∈m.map (·.1):=by
 cases h:Zea m v with
 | none=>simp [Zqs.1 h]
 | some t=>simp only [Option.isSome_some,true_iff]; exact List.mem_map.2 ⟨_,Zmv h,rfl⟩
theorem Zmk {m:Bd} {v x:Nat} {t:Ty}:Zea (m ++ [(v,t)]) x=match Zea m x with | some u=>some u | none=>if v=x then some t else none:=by
 induction m with
 | nil=>simp [Zea]
 | cons p m ih=>
  obtain ⟨w,u⟩:=p
  simp only [List.cons_append,Zea,ih]
  split <;> rfl
theorem BOk.nil {n:Nat}:BOk n []:=⟨by simp,by simp⟩
def bdL (m:Bd):List Nd:=Zcq.filterMap fun v=>(Zea m v).map fun t=>([v],t.txt)
theorem Zgn:Zcq.Nodup:=by decide
theorem Zry:Zcq.Pairwise (· < ·):=by decide
theorem Ybx (m:Bd):bdL m=(Zcq.filter fun v=>(Zea m v).isSome).map fun v=>([v],((Zea m v).getD default).txt):=by
 unfold bdL
 induction Zcq with
 | nil=>rfl
 | cons v l ih=>
  simp only [List.filterMap_cons,List.filter_cons]
  cases h:Zea m v with
  | none=>simpa [h] using ih
  | some t=>simp [h,ih]
theorem Ztj {n:Nat} {m:Bd} (b:BOk n m) {ks:List Nat} (hp:ks.Perm (m.map (·.1))) (hs:ks.Pairwise (·≤·)):ks=Zcq.filter fun v=>(Zea m v).isSome:=by
 have hnd:ks.Nodup:=hp.nodup_iff.2 b.nd
 have h1:ks.Pairwise (· < ·):=by
  have:=List.pairwise_and_iff.2 ⟨hs,hnd⟩
  exact this.imp fun h=>by have:=h.1; have:=h.2; omega
 have h2:(Zcq.filter fun v=>(Zea m v).isSome).Pairwise (· < ·):=Zry.filter _
 have hp2:ks.Perm (Zcq.filter fun v=>(Zea m v).isSome):=by
  rw [List.perm_ext_iff_of_nodup hnd (Zgn.filter _)]
  intro v
  rw [hp.mem_iff,List.mem_filter,Zsl]
  constructor
  ·intro hv
   obtain ⟨p,hp,rfl⟩:=List.mem_map.1 hv
   exact ⟨(Zei _).2 (b.var p hp).1,hv⟩
  ·exact fun h=>h.2
 exact hp2.eq_of_pairwise (fun a b _ _ h1 h2=>by omega) h1 h2
end Go.Sim

set_option linter.unusedVariables false
set_option linter.unusedSimpArgs false
set_option maxRecDepth 20000
namespace Go.Sim
open Go Go.RowKit

def Zyw (h:Zaa) (i:Nat) (m:Bd):Prop:=∃ es clk,h[i]?=some (.map es clk)∧es.map (·.1)=m.map (fun p=>Zac.str [p.1])∧es.map (·.2.1)=m.map (fun p=>Zac.str p.2.txt)∧(es.map (·.2.2)).Nodup∧∀ e∈es,e.2.2 < clk
theorem Zyw.eq {h h':Zaa} {i:Nat} {m:Bd} (r:Zyw h i m) (he:h'[i]?=h[i]?):Zyw h' i m:=by
 obtain ⟨es,clk,h1,x⟩:=r
 exact ⟨es,clk,by rw [he]; exact h1,x⟩
theorem Zyw.lt {h:Zaa} {i:Nat} {m:Bd} (r:Zyw h i m):i < h.length:=by obtain ⟨es,clk,h1,_⟩:=r; exact Own.lt h1
theorem Zlo:∀ {es:List ME} {m:Bd} {v k:Nat} {t:Ty},es.map (·.1)=m.map (fun p=>Zac.str [p.1])→es.map (·.2.1)=m.map (fun p=>Zac.str p.2.txt)→Zea m v=some t→∃ j b,Zij es [v] k=some (some (k + j,.str t.txt))∧es[j]?=some (.str [v],.str t.txt,b)
 | _,[],v,k,t,_,_,h=>by simp [Zea] at h
 | [],p :: m,v,k,t,h,_,_=>by simp at h
 | (ek,ev,eb) :: es,(w,u) :: m,v,k,t,hk,hv,h=>by
  simp only [List.map_cons,List.cons.injEq] at hk hv
  obtain ⟨rfl,hk⟩:=hk
  obtain ⟨rfl,hv⟩:=hv
  simp only [Zea] at h
  by_cases e:w=v
  ·rw [if_pos e] at h
   cases h; subst e
   exact ⟨0,eb,by simp [Zij],rfl⟩
  ·rw [if_neg e] at h
   obtain ⟨j,b,h1,h2⟩:=Zlo (k:=k + 1) hk hv h
   have:¬ [v]=[w]:=fun x=>e (by simpa using x.symm)
   exact ⟨j + 1,b,by simp only [Zij,this,if_false,h1]; rw [show k + 1 + j=k + (j + 1) by omega],h2⟩
theorem Zoy:∀ {es:List ME} {m:Bd} {v k:Nat},es.map (·.1)=m.map (fun p=>Zac.str [p.1])→Zea m v=none→Zij es [v] k=some none
 | [],[],v,k,_,_=>rfl
 | [],p :: m,v,k,h,_=>by simp at h
 | e :: es,[],v,k,h,_=>by simp at h
 | (ek,ev,eb) :: es,(w,u) :: m,v,k,hk,h=>by
  simp only [List.map_cons,List.cons.injEq] at hk
  obtain ⟨rfl,hk⟩:=hk
  simp only [Zea] at h
  by_cases e:w=v
  ·rw [if_pos e] at h; cases h
  ·rw [if_neg e] at h
   have:¬ [v]=[w]:=fun x=>e (by simpa using x.symm)
   simp only [Zij,this,if_false]
   exact Zoy hk h
theorem Zkb {α:Type} {f:α→α} {e:α}:∀ {l:List α} {j:Nat},l[j]?=some e→f e=e→l.modify j f=l
 | [],j,h,_=>by simp at h
 | a :: l,0,h,hf=>by simp at h; subst h; simp [hf]
 | a :: l,j + 1,h,hf=>by simp at h; simp [Zkb h hf]
theorem Zln (c:Nat):Ycb [c]=Zao c:=rfl
theorem Row.keepAt {i:Nat} {h h':Zaa} {a:Pt} {n:Nat} {cs:List Zac} (r:Row h.length h a n cs) (hne:∀ j o,n≠0→a=some (j,o)→j≠i) (k:Zfl i h h'):Row h'.length h' a n cs:=by
 obtain ⟨hl,r⟩:=r
 by_cases h0:n=0
 ·exact ⟨hl,.inl h0⟩
 ·refine ⟨hl,r.imp id ?_⟩
  rintro ⟨j,o',t,all,ro,ha,hi,hg,x⟩
  have:=k.le
  exact ⟨j,o',t,all,ro,ha,by omega,by rw [k.eq j hi (hne j o' h0 ha)]; exact hg,x⟩
end Go.Sim

set_option linter.unusedVariables false
set_option linter.unusedSimpArgs false
set_option maxRecDepth 20000
namespace Go.Sim
open Go Go.RowKit

theorem Zof:pg.underlying Zfw=some (.slice Zap):=by kernel_rfl
theorem Zrk:pg.cellsOf Zap=2:=by kernel_rfl
theorem Zqw:pg.okElem Zap=true:=by kernel_rfl
theorem Zql:pg.bytesOf Zap≤127:=Nat.le_of_ble_eq_true (by kernel_rfl)
theorem Vec.fresh {α:Type} {ty:TypeId} {enc:α→List Zac} {b:Nat} {h:Zaa} {a:Pt} {n c:Nat} {l:List α} (v:Vec ty h a n c (Zdz enc l)) (hn:n=l.length) (ha:∀ i,a=some (i,0)→b≤i):Zdv ty enc b h a n l:=by
 refine ⟨hn.symm,?_⟩
 rcases v with ⟨rfl,h0,_⟩ | ⟨i,rfl,hi⟩
 ·exact .inl h0
 ·exact .inr ⟨i,rfl,ha i rfl,hi⟩
theorem Ydt (m:Bd):(bdL m).length≤6:=by
 rw [Ybx,List.length_map]; exact Nat.le_trans (List.length_filter_le _ _) (by decide)
theorem Zsv {h:Zaa} {i:Nat} {m:Bd} (rm:Zyw h i m) (bo:BOk 60 m) :
  Zad pg Zgr [.map (some i)] h fun v h'=>Zbg h.length h h'∧∃ a n c e,v=.slice a n c e∧n≤c∧Zdv Zap eP h.length h' a n (bdL m):=by
 have hml:m.length≤6:=by
  have hp:(m.map (·.1)).Perm (Zcq.filter fun v=>decide (v∈m.map (·.1))):=by
   rw [List.perm_ext_iff_of_nodup bo.nd (Zgn.filter _)]
   intro v
   rw [List.mem_filter]
   constructor
   ·intro hv
    obtain ⟨p,hp,rfl⟩:=List.mem_map.1 hv
    exact ⟨(Zei _).2 (bo.var p hp).1,by simpa using hv⟩
   ·exact fun h=>by simpa using h.2
  have h1:=hp.length_eq
  have h2:=List.length_filter_le (fun v=>decide (v∈m.map (·.1))) Zcq
  rw [List.length_map] at h1
  have h3:Zcq.length=6:=rfl
  omega
 apply Zeg.call
 simp only [Zbi]
 generalize hh0:h ++ [Zcj.cells Zap [] false]=h0
 have s0:Zbg h.length h h0:=by rw [← hh0]; exact Zax
 have l0:h0.length=h.length + 1:=by rw [← hh0]; simp
 have o0:h0[h.length]?=some (.cells Zap [] false):=by rw [← hh0]; simp
 refine Yah.mono ?_
 rintro v h2 ⟨rfl,hh2⟩
 simp only [Zol]
 have s2:Zbg h0.length h0 h2:=by rw [hh2]; exact Zax
 have hc2:h2[h0.length]?=some (.cells Zdq [.map (some i)] false):=by rw [hh2]; simp
 obtain ⟨es,clk,hm,hk,hvv,hb,hlt⟩:=id rm
 have S2:=s0.cat s2
 have hm2:=S2.get hm (Own.lt hm)
 have hel:es.length=m.length:=by have:=congrArg List.length hk; simpa using this
 refine (Zop hc2 hm2 (vs:=m.map (·.1)) (by rw [hk,List.map_map]; rfl) bo.nd hb hlt (by omega)).mono ?_
 rintro v h3 ⟨us,hp,hsrt,hcase⟩
 have hus:=Ztj bo hp hsrt
 have hbd:bdL m=us.map fun v=>([v],((Zea m v).getD default).txt):=by rw [Ybx,hus]
 have hul:us.length≤6:=by rw [hp.length_eq]; simpa using hml
 have hmem:∀ v∈us,∃ t,Zea m v=some t:=fun v hv=>by
  rw [hus,List.mem_filter] at hv; exact Option.isSome_iff_exists.1 hv.2
 have hgen:∃ a c e,v=.slice a us.length c e∧Row h3.length h3 a us.length (us.map fun v=>Zac.str [v])∧Zbg h2.length h2 h3:=by
  rcases hcase with ⟨rfl,rfl,rfl⟩ | ⟨c,rfl,hc,rfl⟩
  ·exact ⟨_,_,_,rfl,Row.nil,Zbg.refl _ _⟩
  ·refine ⟨_,_,_,rfl,⟨by simp,.inr ⟨h2.length,0,Zmj,_,false,rfl,by simp,by simp; rfl,by simp,by rw [List.drop_zero,List.take_of_length_le (by simp)]⟩⟩,Zax⟩
 obtain ⟨a9,c9,e9,rfl,hrow,s3⟩:=hgen
 simp only [Zak]
 have S3:=S2.cat s3
 have hS3le:=S3.le
 have o3:h3[h.length]?=some (.cells Zap [] false):=s3.get (s2.get o0 (Own.lt o0)) (by have:=Own.lt o0; have:=s2.le; omega)
 refine Zeg.L3ind _ _ _ _ _ _ _ (J:=fun (g:Nat) a3 n3 c3 e3 x11 h'=>x11=(g:Int)∧g≤us.length∧Zbg h.length h h'∧(∀ j,j < h3.length→j≠h.length→h'[j]?=h3[j]?)∧h3.length≤h'.length∧n3=g∧n3≤c3∧Vec Zap h' a3 n3 c3 (Zdz eP ((bdL m).take g))∧(∀ i,a3=some (i,0)→i=h.length ∨ h3.length≤i)) (fun g=>us.length - g) ?_ 0 _ _ _ _ _ _
  ⟨rfl,by omega,S3,fun _ _ _=>rfl,Nat.le_refl _,rfl,Nat.le_refl _,Vec.mk1 (by simpa using o3),fun i hi=>by cases hi; exact .inl rfl⟩
 rintro g a3 n3 c3 e3 x11 h' ⟨rfl,hg,hSm,hK,hle3,rfl,hnc,hv,ha⟩ R hR
 unfold Zeg.L3t
 have hbl:(bdL m).length=us.length:=by rw [hbd]; simp
 refine Zan (fun hlt=>?_) (fun hge=>?_)
 ·have hg':n3 < us.length:=by omega
  obtain ⟨j,o,rfl,hj,hc⟩:=hrow.at hg'
  rw [List.getElem?_map,List.getElem?_eq_getElem hg',Option.map_some] at hc
  -- the row of keys has not turned: it lies apart from the row of bindings
  have hjr:j≠h.length:=by
   rcases hcase with ⟨h0,_⟩ | ⟨c,hsl,_,_⟩
   ·rw [h0] at hg'; simp at hg'
   ·simp only [Zac.slice.injEq,Option.some.injEq,Prod.mk.injEq] at hsl
    have:=s2.le; omega
  have hc':Zaj h' (.ptr (some (j,o + n3)))=some (.str [us[n3]]):=by
   rw [← hc]; simp only [Zaj,hK j hj hjr]
  obtain ⟨t,ht⟩:=hmem _ (List.getElem_mem hg')
  have hm':=hSm.get hm (Own.lt hm)
  obtain ⟨jj,bb,hf,_⟩:=Zlo (k:=0) hk hvv ht
  simp only [Zaq,Int.toNat_natCast,Nat.mul_one,hc',Zba,Zbl,hm',Zlm,hf,Option.getD_some,Zbi]
  have htk:(bdL m).take (n3 + 1)=(bdL m).take n3 ++ [([us[n3]],t.txt)]:=by
   rw [List.take_succ_eq_append_getElem (by omega)]
   congr 2
   have:(bdL m)[n3]?=some ([us[n3]],t.txt):=by
    rw [hbd,List.getElem?_map,List.getElem?_eq_getElem hg',Option.map_some,ht,Option.getD_some]
   exact (List.getElem?_eq_some_iff.1 this).2
  refine ⟨by omega,?_⟩
  refine hv.pushN Zof Zrk Zqw Zql (by rw [Zbj Zgx,List.length_take]; omega) rfl (by omega) rfl (by omega) (fun h6 hl6 hi6 hk6=>?_)
  simp only [Zak]
  rw [Zcm (by omega)]
  have hle:=hSm.le
  have hb9:∀ i,a3=some (i,0)→h.length≤i:=fun i hi=>by rcases ha i hi with hh | hh <;> omega
  refine hR (n3 + 1) _ _ _ _ _ _ (by omega) ⟨rfl,by omega,⟨by omega,fun j hj=>?_⟩,fun j hj hne=>?_,by omega,rfl,Nat.le_refl _,Vec.mk1 ?_,fun i hi=>by cases hi; right; omega⟩
  ·rw [hk6 j (by omega) fun i hi=>by have:=hb9 i hi; omega]; exact hSm.eq j hj
  ·rw [hk6 j (by omega) fun i hi=>by rcases ha i hi with hh | hh <;> omega]; exact hK j hj hne
  ·rw [hi6,htk,Zho]; rfl
 ·apply Zeg.A3x0i
  have:n3=us.length:=by omega
  subst this
  rw [show (bdL m).take us.length=bdL m from List.take_of_length_le (by omega)] at hv
  exact ⟨hSm,_,_,_,_,rfl,hnc,hv.fresh (b:=h.length) hbl.symm fun i hi=>by rcases ha i hi with hh | hh <;> omega⟩
end Go.Sim

set_option linter.unusedVariables false
set_option linter.unusedSimpArgs false
set_option maxRecDepth 20000
namespace Go.Sim
open Go Go.RowKit

def Zdh:List Nat:=[88,89,90,120,121,122,49,50,51,52,53,54]
theorem Zzg {t:Ty} (h:t.ok=true):t.hd∈[105,98,117,108,109,112,120,121,122,88,89,90]:=by
 have:=Ty.ok_ar h
 unfold arN Zda Zao at this
 simp only [Bool.or_eq_true,beq_iff_eq] at this
 simp only [List.mem_cons,List.not_mem_nil,or_false]
 split at this
 ·omega
 ·split at this
  ·omega
  ·split at this
   ·omega
   ·omega
theorem Zjj {h:Zaa} (c:Nat):Zad pg Zdy [.int .u8 (c:Int)] h fun v h'=>v=.int .i64 (Zjx Zdh c)∧h'=h:=by
 apply Zjq.call
 refine (Zyl Zdh c (by decide)).mono ?_
 rintro v h1 ⟨rfl,rfl⟩
 simp only [Zae]
 exact ⟨by trivial,by trivial⟩
def eR (x:Zac × Zac):List Zac:=[x.1,x.2]
theorem Zgd (x:Zac × Zac):(eR x).length=2:=rfl
theorem Zqb {α:Type} {enc:α→List Zac} {w:Nat} (hw:∀ x,(enc x).length=w):∀ {l:List α} {k:Nat} {x:α},k < l.length→putRow (Zdz enc l) (k * w) (enc x)=Zdz enc (l.set k x)
 | [],k,x,h=>by simp at h
 | y :: l,0,x,_=>by
  simp only [Nat.zero_mul,Zfb,List.set_cons_zero,putRow,List.take_zero,List.nil_append,Nat.zero_add,hw]
  rw [← hw y,List.drop_left]
 | y :: l,k + 1,x,h=>by
  have ih:=Zqb hw (l:=l) (k:=k) (x:=x) (by simpa using h)
  unfold putRow at ih ⊢
  simp only [Zfb,List.set_cons_succ]
  rw [← ih,Nat.succ_mul,Nat.add_comm (k * w) w,← hw y,List.take_length_add_append,Nat.add_assoc,List.drop_length_add_append]; simp only [List.append_assoc]
def Zmh (S:Nat→Prop) (h:Zaa) (i:Nat) (m:Bd):Prop:=∃ rows:List (Zac × Zac),rows.length=12∧h[i]?=some (.cells Zbu (Zdz eR rows) false) ∧
 ∀ (k:Nat) (x:Zac × Zac),rows[k]?=some x→match (Zcq[k]?).bind (Zea m) with | some t=>Zdd S h t (eR x) | none=>x=(.int .u8 0,.slice none 0 0 true)
theorem Zmh.keep {S:Nat→Prop} {h h':Zaa} {i:Nat} {m:Bd} (r:Zmh S h i m) (hi:h'[i]?=h[i]?) (hh:∀ j,S j→j < h.length→h'[j]?=h[j]?):Zmh S h' i m:=by
 obtain ⟨rows,h1,h2,h3⟩:=r
 refine ⟨rows,h1,by rw [hi]; exact h2,fun k x hx=>?_⟩
 have:=h3 k x hx
 split at this
 ·exact this.keep hh
 ·exact this
theorem Zmh.same {S:Nat→Prop} {h h':Zaa} {i:Nat} {m:Bd} (r:Zmh S h i m) (s:Zbg h.length h h'):Zmh S h' i m:=by
 have hl:i < h.length:=by obtain ⟨_,_,h2,_⟩:=r; exact Own.lt h2
 exact r.keep (s.eq i hl) fun j _ hj=>s.eq j hj
theorem Zmh.lt {S:Nat→Prop} {h:Zaa} {i:Nat} {m:Bd} (r:Zmh S h i m):i < h.length:=by obtain ⟨_,_,h2,_⟩:=r; exact Own.lt h2
theorem Zmh.nil {S:Nat→Prop} {h:Zaa} {i:Nat} (hi:h[i]?=some (.cells Zbu (Zdz eR (List.replicate 12 (.int .u8 0,.slice none 0 0 true))) false)):Zmh S h i []:=by
 refine ⟨_,by simp,hi,fun k x hx=>?_⟩
 have:(Zcq[k]?).bind (Zea [])=none:=by cases Zcq[k]? <;> rfl
 rw [this]
 rw [List.getElem?_replicate] at hx
 split at hx
 ·cases hx; rfl
 ·cases hx
theorem Zmh.get {S:Nat→Prop} {h:Zaa} {i:Nat} {m:Bd} (r:Zmh S h i m) {k:Nat} (hk:k < 12):∃ x:Zac × Zac,Zaj h (.ptr (some (i,0 + k * 2 + 0)))=some x.1∧Zcl h (.ptr (some (i,0 + k * 2))) 2=some [x.1,x.2] ∧
  match (Zcq[k]?).bind (Zea m) with | some t=>Zdd S h t [x.1,x.2] | none=>x=(.int .u8 0,.slice none 0 0 true):=by
 obtain ⟨rows,h1,h2,h3⟩:=r
 have hrow:Row h.length h (some (i,0)) (12 * 2) (Zdz eR rows):=⟨by rw [Zbj Zgd,h1],.inr ⟨i,0,_,_,_,rfl,Own.lt h2,h2,by rw [Zbj Zgd,h1]; simp,by rw [List.drop_zero,List.take_of_length_le (by rw [Zbj Zgd,h1]; simp)]⟩⟩
 obtain ⟨i',o',hk',he,_,hr,hc⟩:=Row.el Zgd hrow h1 hk (by omega)
 cases he
 exact ⟨rows[k],by have:=hc 0 (by omega); simpa [eR] using this,hr,h3 k _ (List.getElem?_eq_getElem hk')⟩
def Yca (S:Nat→Prop) (h:Zaa) (i:Nat) (m:Bd):Prop:=∃ rows:List (Zac × Zac),rows.length=12∧h[i]?=some (.cells Zbu (Zdz eR rows) false) ∧
 ∀ (k:Nat) (x:Zac × Zac),k < 6→rows[k]?=some x→match (Zcq[k]?).bind (Zea m) with | some t=>Zdd S h t (eR x) | none=>x=(.int .u8 0,.slice none 0 0 true)
theorem Zmh.w {S:Nat→Prop} {h:Zaa} {i:Nat} {m:Bd} (r:Zmh S h i m):Yca S h i m:=by
 obtain ⟨rows,h1,h2,h3⟩:=r
 exact ⟨rows,h1,h2,fun k x _ hx=>h3 k x hx⟩
theorem Yca.lt {S:Nat→Prop} {h:Zaa} {i:Nat} {m:Bd} (r:Yca S h i m):i < h.length:=by obtain ⟨_,_,h2,_⟩:=r; exact Own.lt h2
theorem Yca.same {S:Nat→Prop} {h h':Zaa} {i:Nat} {m:Bd} (r:Yca S h i m) (s:Zbg h.length h h'):Yca S h' i m:=by
 obtain ⟨rows,h1,h2,h3⟩:=r
 refine ⟨rows,h1,by rw [s.eq i (Own.lt h2)]; exact h2,fun k x hk hx=>?_⟩
 have:=h3 k x hk hx
 split at this
 ·exact this.keep fun j _ hj=>s.eq j hj
 ·exact this
theorem Yca.get {S:Nat→Prop} {h:Zaa} {i:Nat} {m:Bd} (r:Yca S h i m) {k:Nat} (hk:k < 6):∃ x:Zac × Zac,Zaj h (.ptr (some (i,0 + k * 2 + 0)))=some x.1∧Zcl h (.ptr (some (i,0 + k * 2))) 2=some [x.1,x.2] ∧
  match (Zcq[k]?).bind (Zea m) with | some t=>Zdd S h t [x.1,x.2] | none=>x=(.int .u8 0,.slice none 0 0 true):=by
 obtain ⟨rows,h1,h2,h3⟩:=r
 have hrow:Row h.length h (some (i,0)) (12 * 2) (Zdz eR rows):=⟨by rw [Zbj Zgd,h1],.inr ⟨i,0,_,_,_,rfl,Own.lt h2,h2,by rw [Zbj Zgd,h1]; simp,by rw [List.drop_zero,List.take_of_length_le (by rw [Zbj Zgd,h1]; simp)]⟩⟩
 obtain ⟨i',o',hk',he,_,hr,hc⟩:=Row.el Zgd hrow h1 (show k < 12 by omega) (by omega)
 cases he
 exact ⟨rows[k],by have:=hc 0 (by omega); simpa [eR] using this,hr,h3 k _ hk (List.getElem?_eq_getElem hk')⟩
theorem Zmh.put {S:Nat→Prop} {h:Zaa} {i:Nat} {m:Bd} (r:Zmh S h i m) (hSi:∀ j,S j→j≠i) {k v:Nat} (hk:Zcq[k]?=some v) (hg:Zea m v=none) {t:Ty} {x y:Zac} (ht:Zdd S h t [x,y]) :
  ∃ h',Zbc h (.ptr (some (i,0 + k * 2))) [x,y]=some h'∧Zfl i h h'∧Zmh S h' i (m ++ [(v,t)]):=by
 obtain ⟨rows,h1,h2,h3⟩:=r
 have hk6:k < 6:=(List.getElem?_eq_some_iff.1 hk).1
 have hput:putRow (Zdz eR rows) (k * 2) (eR (x,y))=Zdz eR (rows.set k (x,y)):=Zqb Zgd (by omega)
 refine ⟨h.set i (.cells Zbu (Zdz eR (rows.set k (x,y))) false),?_,Zfl.set _ _ _,?_⟩
 ·rw [Nat.zero_add,Zbd h2 (by rw [Zbj Zgd,h1]; simp; omega),← hput]; rfl
 ·have hkeep:∀ j,S j→j < h.length→(h.set i (.cells Zbu (Zdz eR (rows.set k (x,y))) false))[j]?=h[j]?:=fun j hj _=>Zbk (fun e=>hSi j hj e.symm)
  refine ⟨_,by simp [h1],Zca h2,fun k' x' hx'=>?_⟩
  by_cases e:k=k'
  ·subst e
   rw [List.getElem?_set_self (by omega)] at hx'
   cases hx'
   rw [hk]
   simp only [Option.bind_some,Zmk,hg,if_true]
   exact ht.keep hkeep
  ·rw [List.getElem?_set_ne e] at hx'
   have:=h3 k' x' hx'
   have hb:(Zcq[k']?).bind (Zea (m ++ [(v,t)]))=(Zcq[k']?).bind (Zea m):=by
    cases hv':Zcq[k']? with
    | none=>rfl
    | some w=>
     simp only [Option.bind_some,Zmk]
     cases hb:Zea m w with
     | some u=>rfl
     | none=>
      have:¬ v=w:=fun e'=>by
       subst e'
       have h5:=List.getElem?_eq_some_iff.1 hk
       have h6:=List.getElem?_eq_some_iff.1 hv'
       exact e ((List.getElem_inj (h₀:=h5.1) (h₁:=h6.1) Zgn).1 (h5.2.trans h6.2.symm))
      simp [this]
   rw [hb]
   split at this
   ·exact this.keep hkeep
   ·exact this
theorem Zfl.of_same {i:Nat} {h h':Zaa} (s:Zbg h.length h h'):Zfl i h h':=⟨s.le,fun j hj _=>s.eq j hj⟩
end Go.Sim

set_option linter.unusedVariables false
set_option linter.unusedSimpArgs false
set_option maxRecDepth 20000
namespace Go.Sim
open Go Go.RowKit

theorem Znq:∀ (N:Nat) {S:Nat→Prop} {h:Zaa} {t:Ty} {v:List Zac},t.size≤N→t.txt.length≤4611686018427387904→Zdd S h t v→Zad pg Zff [.agg v] h fun x h'=>x=.int .i64 (t.txt.length:Nat)∧Zbg h.length h h'
 | 0,S,h,t,v,hN,_,_=>by have:=t.size_ps; omega
 | N + 1,S,h,t,v,hN,hB,r=>by
  obtain ⟨a,c,e,vs,rfl,hrow,hS,hvl,hp⟩:=r.parts
  have hps2:t.ps.length≤2:=by cases t <;> simp [Ty.ps]
  have htx:=t.txt_mids
  have hln:=congrArg List.length htx
  rw [List.length_append,List.length_cons] at hln
  apply Zct.call
  simp only [Zbi,Zpg,Nat.zero_add,List.getElem?_cons_succ,List.getElem?_cons_zero,Zak]
  generalize hh0:h ++ [Zcj.cells Zab [.int .u8 (t.hd:Int),.slice a t.ps.length c e] false]=h0
  have s0:Zbg h.length h h0:=by rw [← hh0]; exact Zax
  have o0:h0[h.length]?=some (.cells Zab [.int .u8 (t.hd:Int),.slice a t.ps.length c e] false):=by rw [← hh0]; simp
  refine Zct.L3ind _ _ _ _ _ _ _ _ (J:=fun (g:Nat) x3 x9 h'=>x9=(g:Int)∧g≤t.ps.length∧Zbg h.length h h'∧Zbg h0.length h0 h'∧x3=((1 + (Zgi 0 (t.ps.take g)).length:Nat):Int)) (fun g=>t.ps.length - g) ?_ 0 _ _ _ ⟨rfl,by omega,s0,Zbg.refl _ _,by simp [Zgi]⟩
  rintro g x3 x9 h' ⟨rfl,hg,hSm,hS1,rfl⟩ R hR
  unfold Zct.L3t
  have o2:=hS1.get o0 (Own.lt o0)
  refine Zan (fun hlt=>?_) (fun hge=>?_)
  ·have hg':g < t.ps.length:=by omega
   obtain ⟨i,o,a2,c2,e2,rfl,hr,hk⟩:=Zdd.get (hrow.same' hSm) hvl (fun k w x h1 h2=>(hp k w x h1 h2).same hSm) hg'
   simp only [Zaq,Int.toNat_natCast,hr,Zay,Zai,Zat,Zae,Zak,Zbi]
   rw [Zlu]
   simp only [Zau]
   rw [Zzx]
   simp only [Zay,Zai,Zat,Zae,Zak]
   have hm:=List.getElem_mem hg'
   have h1:=Ty.size_part hm
   have h2:=Ty.len_part hm
   have hmt:=Zjk t.ps 0 g hg'
   have hml:(Zgi 0 (t.ps.take (g + 1))).length≤(Zgi 0 t.ps).length:=Zkk _ _ _
   have hmtl:=congrArg List.length hmt
   simp only [List.length_append,List.length_cons,Nat.zero_add] at hmtl
   have s2:Zbg h'.length h' (h' ++ [.cells Zab [.int .u8 (t.ps[g].hd:Int),.slice a2 t.ps[g].ps.length c2 e2] false]):=Zax
   refine ⟨by omega,(Znq N (by omega) (by omega) (hk.same s2)).mono ?_⟩
   rintro x h3 ⟨rfl,s3⟩
   simp only [Zae]
   rw [Zcm (by omega),Zcm (by omega),IntWalk.i64_in _ (by omega)]
   exact hR (g + 1) _ _ _ (by omega) ⟨rfl,by omega,(hSm.cat s2).cat s3,(hS1.cat s2).cat s3,by omega⟩
  ·apply Zct.A3x0i
   have:g=t.ps.length:=by omega
   subst this
   simp only [Zag o2,Nat.zero_add,List.getElem?_cons_succ,List.getElem?_cons_zero,Zak]
   rw [List.take_length]
   refine Zan (fun hpos=>?_) (fun hneg=>?_)
   ·have hne:t.ps≠[]:=fun e=>by rw [e] at hpos; simp at hpos
    rw [if_neg hne] at hln
    apply Zct.J9i
    simp only [List.length_cons,List.length_nil] at hln
    rw [Zcm (by omega)]
    exact ⟨by congr 1; omega,hSm⟩
   ·have hne:t.ps=[]:=List.eq_nil_of_length_eq_zero (by omega)
    rw [if_pos hne] at hln
    simp only [List.length_nil] at hln
    apply Zct.J9i
    exact ⟨by congr 1; omega,hSm⟩
def Zsd (m:Bd) (g:Nat):List Nd:=(Zcq.take g).filterMap fun v=>(Zea m v).map fun t=>([v],t.txt)
theorem Zzq (m:Bd) (g:Nat):Zsd m (g + 1)=Zsd m g ++ (match Zcq[g]? with | some v=>(match Zea m v with | some t=>[([v],t.txt)] | none=>[]) | none=>[]):=by
 unfold Zsd
 rw [List.take_succ,List.filterMap_append]
 cases Zcq[g]? with
 | none=>simp
 | some v=>cases hb:Zea m v <;> simp [hb]
theorem Yaf (m:Bd) (g:Nat):(Zsd m g).length≤6:=by
 unfold Zsd
 refine Nat.le_trans (List.length_filterMap_le _ _) ?_
 rw [List.length_take]; exact Nat.le_trans (Nat.min_le_right _ _) (by decide)
theorem Yav {g v:Nat} (hv:Zcq[g]?=some v):sub [88,89,90,120,121,122,49,50,51,52,53,54] (g:Int) ((g:Int) + 1)=[v]:=by
 have hg:g < 6:=(List.getElem?_eq_some_iff.1 hv).1
 match g,hg with
 | 0,_ | 1,_ | 2,_ | 3,_ | 4,_ | 5,_=>simp [Zcq] at hv; subst hv; rfl
theorem Ydy:Zdz eR (List.replicate 12 (Zac.int .u8 0,Zac.slice none 0 0 true))=[.int .u8 0,.slice none 0 0 true,.int .u8 0,.slice none 0 0 true,.int .u8 0,.slice none 0 0 true,.int .u8 0,.slice none 0 0 true,.int .u8 0,.slice none 0 0 true,.int .u8 0,.slice none 0 0 true,.int .u8 0,.slice none 0 0 true,.int .u8 0,.slice none 0 0 true,.int .u8 0,.slice none 0 0 true,.int .u8 0,.slice none 0 0 true,.int .u8 0,.slice none 0 0 true,.int .u8 0,.slice none 0 0 true]:=rfl
theorem Zpi {h h':Zaa} {s:List Nat} {vs:List Zac} (hm:match Zgh s with | some t=>Zdd (Btw h.length h'.length) h' t vs | none=>vs=[.int .u8 0,.slice none 0 0 true]):∃ (d:Int) (a:Pt) (n c:Nat) (e:Bool),vs=[.int .u8 d,.slice a n c e]:=by
 split at hm
 ·obtain ⟨a,c,e,rfl⟩:=hm.shape; exact ⟨_,_,_,_,_,rfl⟩
 ·exact ⟨_,_,_,_,_,hm⟩
end Go.Sim

set_option linter.unusedSimpArgs false
set_option linter.unusedVariables false
namespace Go.Sim

noncomputable def subst (f:Nat→Option Ty):Ty→Ty
 | .k c=>(f c).getD (.k c)
 | .u c a=>.u c (subst f a)
 | .w c a b=>.w c (subst f a) (subst f b)
end Go.Sim

set_option linter.unusedSimpArgs false
set_option linter.unusedVariables false
namespace Go.Sim

section
variable (V:Nat→Bool)
def sb (θ:Nat→Ty):Ty→Ty
 | .k c=>if V c=true then θ c else .k c
 | .u c a=>.u c (sb θ a)
 | .w c a b=>.w c (sb θ a) (sb θ b)
def occ (v:Nat):Ty→Bool
 | .k c=>decide (c=v)
 | .u _ a=>occ v a
 | .w _ a b=>occ v a || occ v b
end
section
variable {V:Nat→Bool}
theorem Zqh (θ F:Nat→Ty):∀ t:Ty,sb V θ (sb V F t)=sb V (fun c=>sb V θ (F c)) t
 | .k c=>by by_cases h:V c=true <;> simp [sb,h]
 | .u c a=>by simp only [sb,Zqh θ F a]
 | .w c a b=>by simp only [sb,Zqh θ F a,Zqh θ F b]
theorem Zzi:∀ t:Ty,sb V .k t=t
 | .k c=>by unfold sb; split <;> rfl
 | .u c a=>by simp only [sb,Zzi a]
 | .w c a b=>by simp only [sb,Zzi a,Zzi b]
theorem Zkx {θ θ':Nat→Ty}:∀ {t:Ty},(∀ c,V c=true→occ c t=true→θ c=θ' c)→sb V θ t=sb V θ' t
 | .k c,h=>by
  unfold sb
  by_cases hv:V c=true
  ·rw [if_pos hv,if_pos hv,h c hv (by simp [occ])]
  ·rw [if_neg hv,if_neg hv]
 | .u c a,h=>by simp only [sb,Zkx (t:=a) fun c hv ho=>h c hv (by simpa [occ] using ho)]
 | .w c a b,h=>by
  simp only [sb,Zkx (t:=a) fun c hv ho=>h c hv (by simp [occ,ho]),Zkx (t:=b) fun c hv ho=>h c hv (by simp [occ,ho])]
theorem Zuc {F:Nat→Ty}:∀ {t:Ty},sb V F t=t→∀ c,V c=true→occ c t=true→F c=.k c
 | .k d,h,c,hv,ho=>by
  simp [occ] at ho; subst ho
  unfold sb at h; rw [if_pos hv] at h; exact h
 | .u d a,h,c,hv,ho=>by simp only [sb,Ty.u.injEq,true_and] at h; exact Zuc h c hv (by simpa [occ] using ho)
 | .w d a b,h,c,hv,ho=>by
  simp only [sb,Ty.w.injEq,true_and] at h
  simp only [occ,Bool.or_eq_true] at ho
  rcases ho with ho | ho
  ·exact Zuc h.1 c hv ho
  ·exact Zuc h.2 c hv ho
theorem Zje (t:Ty):1≤t.size:=by cases t <;> simp [Ty.size]
theorem Zpj {θ:Nat→Ty} {x:Nat} (hx:V x=true):∀ {t:Ty},occ x t=true→(θ x).size≤(sb V θ t).size
 | .k d,ho=>by simp [occ] at ho; subst ho; unfold sb; rw [if_pos hx]; exact Nat.le_refl _
 | .u d a,ho=>by have:=Zpj (θ:=θ) hx (t:=a) (by simpa [occ] using ho); simp only [sb,Ty.size]; omega
 | .w d a b,ho=>by
  simp only [occ,Bool.or_eq_true] at ho
  simp only [sb,Ty.size]
  rcases ho with ho | ho
  ·have:=Zpj (θ:=θ) hx ho; omega
  ·have:=Zpj (θ:=θ) hx ho; omega
theorem Zuf {θ:Nat→Ty} {x:Nat} (hx:V x=true) {t:Ty} (ho:occ x t=true) (hne:t≠.k x):(θ x).size < (sb V θ t).size:=by
 cases t with
 | k d=>simp [occ] at ho; exact absurd (by rw [ho]) hne
 | u d a=>have:=Zpj (θ:=θ) hx (t:=a) (by simpa [occ] using ho); simp only [sb,Ty.size]; omega
 | w d a b=>
  simp only [occ,Bool.or_eq_true] at ho
  simp only [sb,Ty.size]
  rcases ho with ho | ho
  ·have:=Zpj (θ:=θ) hx ho; omega
  ·have:=Zpj (θ:=θ) hx ho; omega

inductive Wlk (σ:Nat→Option Ty):Nat→Ty→Ty→Prop
 | stop {t:Ty}:(∀ c,t=.k c→σ c=none)→Wlk σ 0 t t
 | step {c n:Nat} {u t:Ty}:σ c=some u→Wlk σ n u t→Wlk σ (n + 1) (.k c) t
theorem Wlk.end_ {σ:Nat→Option Ty} {n:Nat} {s t:Ty} (h:Wlk σ n s t):∀ c,t=.k c→σ c=none:=by
 induction h with
 | stop h=>exact h
 | step _ _ ih=>exact ih
theorem Wlk.det {σ:Nat→Option Ty} {n m:Nat} {s t t':Ty} (h:Wlk σ n s t) (h':Wlk σ m s t'):t=t'∧n=m:=by
 induction h generalizing m with
 | stop h=>
  cases h' with
  | stop _=>exact ⟨rfl,rfl⟩
  | step h1 _=>rw [h _ rfl] at h1; cases h1
 | step h1 _ ih=>
  cases h' with
  | stop h2=>rw [h2 _ rfl] at h1; cases h1
  | step h2 h3=>rw [h1] at h2; cases h2; obtain ⟨e1,e2⟩:=ih h3; exact ⟨e1,by rw [e2]⟩
structure Rsv (V:Nat→Bool) (σ:Nat→Option Ty) (F:Nat→Ty):Prop where
 dom:∀ c t,σ c=some t→V c=true
 non:∀ c,σ c=none→F c=.k c
 som:∀ c t,σ c=some t→F c=sb V F t
 wlk:∀ c,∃ n t,Wlk σ n (.k c) t
def Sol (V:Nat→Bool) (σ:Nat→Option Ty) (θ:Nat→Ty):Prop:=∀ c t,σ c=some t→θ c=sb V θ t
def Inc (rk:Nat→Nat) (V:Nat→Bool) (σ:Nat→Option Ty):Prop:=∀ c d,σ c=some (.k d)→V d=true→rk c < rk d
theorem Rsv.nil:Rsv V (fun _=>none) .k:=⟨fun c t h=>(by cases h),fun _ _=>rfl,fun c t h=>(by cases h),fun c=>⟨0,_,.stop fun _ _=>rfl⟩⟩
theorem Sol.nil {θ:Nat→Ty}:Sol V (fun _=>none) θ:=fun c t h=>by cases h
variable {σ:Nat→Option Ty} {F:Nat→Ty}
theorem Rsv.walk (r:Rsv V σ F) (t:Ty):∃ n t',Wlk σ n t t':=by
 cases t with
 | k c=>exact r.wlk c
 | u c a=>exact ⟨0,_,.stop fun c h=>by cases h⟩
 | w c a b=>exact ⟨0,_,.stop fun c h=>by cases h⟩
theorem Rsv.var (r:Rsv V σ F) {c:Nat} (h:σ c=none):sb V F (.k c)=.k c:=by unfold sb; split; exact r.non c h; rfl
theorem Wlk.sbF (r:Rsv V σ F) {n:Nat} {s t:Ty} (h:Wlk σ n s t):sb V F s=sb V F t:=by
 induction h with
 | stop=>rfl
 | step h1 _ ih=>rw [← ih,sb,if_pos (r.dom _ _ h1),r.som _ _ h1]
theorem Wlk.sbS (r:Rsv V σ F) {θ:Nat→Ty} (hs:Sol V σ θ) {n:Nat} {s t:Ty} (h:Wlk σ n s t):sb V θ s=sb V θ t:=by
 induction h with
 | stop=>rfl
 | step h1 _ ih=>rw [← ih,sb,if_pos (r.dom _ _ h1),hs _ _ h1]
theorem Rsv.solF (r:Rsv V σ F):Sol V σ F:=fun c t h=>r.som c t h
theorem Yer (r:Rsv V σ F) {θ:Nat→Ty} (hs:Sol V σ θ):∀ (N:Nat) (t:Ty),(sb V F t).size≤N→sb V θ (sb V F t)=sb V θ t:=by
 intro N
 induction N with
 | zero=>intro t h; have:=Zje (sb V F t); omega
 | succ N ih=>
  intro t h
  obtain ⟨n,t',hw⟩:=r.walk t
  rw [hw.sbF r] at h ⊢
  rw [hw.sbS r hs]
  have hend:=hw.end_
  cases t' with
  | k c=>rw [r.var (hend c rfl)]
  | u c a=>simp only [sb,Ty.size] at h ⊢; rw [ih a (by omega)]
  | w c a b=>simp only [sb,Ty.size] at h ⊢; rw [ih a (by omega),ih b (by omega)]
theorem Rsv.gen (r:Rsv V σ F) {θ:Nat→Ty} (hs:Sol V σ θ) {c:Nat} (hv:V c=true):sb V θ (F c)=θ c:=by
 have:=Yer r hs _ (.k c) (Nat.le_refl _)
 simpa [sb,hv] using this
def upd (σ:Nat→Option Ty) (x:Nat) (b:Ty):Nat→Option Ty:=fun c=>if c=x then some b else σ c
def sng (x:Nat) (B:Ty):Nat→Ty:=fun c=>if c=x then B else .k c
theorem Ycp {x:Nat} {B t:Ty} (h:occ x t=false):sb V (sng x B) t=t:=by
 conv=>rhs; rw [← Zzi (V:=V) t]
 refine Zkx fun c hv ho=>?_
 unfold sng
 rw [if_neg]
 rintro rfl; rw [h] at ho; cases ho
theorem Rsv.bind (r:Rsv V σ F) {x:Nat} {b:Ty} (hx:σ x=none) (hv:V x=true) (hb:∀ c,b=.k c→σ c=none∧c≠x) (ho:occ x (sb V F b)=false) :
  Rsv V (upd σ x b) (fun c=>sb V (sng x (sb V F b)) (F c))∧∀ θ,Sol V (upd σ x b) θ ↔ Sol V σ θ∧θ x=sb V θ b:=by
 refine ⟨⟨?_,?_,?_,?_⟩,?_⟩
 ·intro c t h
  unfold upd at h
  by_cases e:c=x
  ·rw [e]; exact hv
  ·rw [if_neg e] at h; exact r.dom c t h
 ·intro c h
  unfold upd at h
  by_cases e:c=x
  ·rw [if_pos e] at h; cases h
  ·rw [if_neg e] at h
   show sb V _ (F c)=_
   rw [r.non c h]
   exact Ycp (by simp [occ,e])
 ·intro c t h
  show sb V _ (F c)=sb V (fun c=>sb V (sng x (sb V F b)) (F c)) t
  rw [← Zqh]
  unfold upd at h
  by_cases e:c=x
  ·rw [if_pos e] at h; cases h
   rw [Ycp ho,e,r.non x hx]
   simp [sb,hv,sng]
  ·rw [if_neg e] at h
   rw [r.som c t h]
 ·intro c
  have key:∀ {n:Nat} {s t:Ty},Wlk σ n s t→∃ n t',Wlk (upd σ x b) n s t':=by
   intro n s t hw
   induction hw with
   | @stop t h=>
    by_cases e:t=.k x
    ·subst e
     refine ⟨1,b,.step (u:=b) (by simp [upd]) (.stop fun c hc=>?_)⟩
     obtain ⟨h1,h2⟩:=hb c hc
     simp [upd,h2,h1]
    ·refine ⟨0,_,.stop fun c hc=>?_⟩
     have:c≠x:=fun e'=>e (by rw [hc,e'])
     simp [upd,this,h c hc]
   | @step d n u t h1 _ ih=>
    obtain ⟨n',t',hw'⟩:=ih
    have:d≠x:=fun e=>by rw [e,hx] at h1; cases h1
    exact ⟨n' + 1,t',.step (by simp [upd,this,h1]) hw'⟩
  obtain ⟨n,t,hw⟩:=r.wlk c
  exact key hw
 ·intro θ
  constructor
  ·intro h
   refine ⟨fun c t hc=>h c t ?_,h x b (by simp [upd])⟩
   have:c≠x:=fun e=>by rw [e,hx] at hc; cases hc
   simp [upd,this,hc]
  ·rintro ⟨h1,h2⟩ c t hc
   unfold upd at hc
   by_cases e:c=x
   ·rw [if_pos e] at hc; cases hc; rw [e]; exact h2
   ·rw [if_neg e] at hc; exact h1 c t hc
theorem Inc.bind {rk:Nat→Nat} (h:Inc rk V σ) {x:Nat} {b:Ty} (hb:∀ d,b=.k d→V d=true→rk x < rk d):Inc rk V (upd σ x b):=by
 intro c d hc hd
 unfold upd at hc
 by_cases e:c=x
 ·rw [if_pos e] at hc; cases hc; rw [e]; exact hb d rfl hd
 ·rw [if_neg e] at hc; exact h c d hc hd
theorem Zyp (r:Rsv V σ F) {x:Nat} {b:Ty} (hx:σ x=none) (hv:V x=true) (hb:∀ c,b=.k c→σ c=none∧c≠x) (ho:occ x (sb V F b)=true) (θ:Nat→Ty):¬ (Sol V σ θ∧θ x=sb V θ b):=by
 rintro ⟨hs,he⟩
 have hne:sb V F b≠.k x:=by
  cases b with
  | k c=>
   obtain ⟨h1,h2⟩:=hb c rfl
   rw [r.var h1]; intro e; cases e; exact h2 rfl
  | u c a=>simp [sb]
  | w c a b=>simp [sb]
 have:=Zuf (θ:=θ) hv ho hne
 rw [Yer r hs _ b (Nat.le_refl _),← he] at this
 omega
structure MGU (V:Nat→Bool) (rk:Nat→Nat) (S:(Nat→Ty)→Prop) (F:Nat→Ty):Prop where
 sol:S F
 gen:∀ θ,S θ→∀ c,V c=true→sb V θ (F c)=θ c
 inc:∀ c d,V c=true→V d=true→F c=.k d→c≠d→rk c < rk d
 out:∀ c,V c=false→F c=.k c
theorem Wlk.var {rk:Nat→Nat} (r:Rsv V σ F) (hi:Inc rk V σ) {n e:Nat} (he:V e=true):∀ {c:Nat},Wlk σ n (.k c) (.k e)→c=e ∨ rk c < rk e:=by
 induction n with
 | zero=>intro c h; cases h; exact .inl rfl
 | succ n ih=>
  intro c h
  cases h with
  | @step _ _ u _ h1 h2=>
   cases h2 with
   | stop _=>exact .inr (hi _ _ h1 he)
   | @step d n' u' _ h3 h4=>
    have:=hi c d h1 (r.dom _ _ h3)
    rcases ih (.step h3 h4) with e | e
    ·subst e; exact .inr this
    ·exact .inr (by omega)
theorem MGU.of_res {rk:Nat→Nat} {S:(Nat→Ty)→Prop} (r:Rsv V σ F) (hi:Inc rk V σ) (hS:∀ θ,Sol V σ θ ↔ S θ):MGU V rk S F:=by
 refine ⟨(hS F).1 r.solF,fun θ h c hv=>r.gen ((hS θ).2 h) hv,fun c d hc hd e hne=>?_,fun c h=>?_⟩
 ·obtain ⟨n,t,hw⟩:=r.wlk c
  have h1:=hw.sbF r
  rw [sb,if_pos hc,e] at h1
  have hend:=hw.end_
  cases t with
  | k x=>
   rw [r.var (hend x rfl)] at h1
   cases h1
   exact (hw.var r hi hd).resolve_left hne
  | u x a=>simp [sb] at h1
  | w x a b=>simp [sb] at h1
 ·cases hs:σ c with
  | none=>exact r.non c hs
  | some t=>have:=r.dom c t hs; rw [h] at this; cases this
theorem MGU.vars {rk:Nat→Nat} {S:(Nat→Ty)→Prop} {F G:Nat→Ty} (f:MGU V rk S F) (g:MGU V rk S G) {v:Nat} (hv:V v=true) (h:F v=.k v):G v=.k v:=by
 have h1:=g.gen F f.sol v hv
 rw [h] at h1
 cases hg:G v with
 | k w=>
  rw [hg] at h1
  by_cases hw:V w=true
  ·rw [sb,if_pos hw] at h1
   by_cases e:v=w
   ·rw [e]
   ·have a:=g.inc v w hv hw hg e
    have b:=f.inc w v hw hv h1 (fun e'=>e e'.symm)
    omega
  ·rw [sb,if_neg hw] at h1; cases h1; exact absurd hv hw
 | u w a=>rw [hg] at h1; simp [sb] at h1
 | w w a b=>rw [hg] at h1; simp [sb] at h1
theorem MGU.unique {rk:Nat→Nat} {S:(Nat→Ty)→Prop} {F G:Nat→Ty} (f:MGU V rk S F) (g:MGU V rk S G):F=G:=by
 funext v
 cases hv:V v with
 | false=>rw [f.out v hv,g.out v hv]
 | true=>
  have h1:=f.gen G g.sol v hv
  have h2:sb V F (F v)=F v:=f.gen F f.sol v hv
  have h3:sb V G (F v)=F v:=by
   conv=>rhs; rw [← Zzi (V:=V) (F v)]
   refine Zkx fun c hc ho=>?_
   exact f.vars g hc (Zuc h2 c hc ho)
  rw [← h3,h1]
end
end Go.Sim
