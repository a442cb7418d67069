/- A part of the proof of a statement of this seat: see the text that holds the theorem. No condition. -/
import Derived.Test.YtflfcofeedjblaaPTCOwn
import Derived.Test.YtflfcofeedjblaaCSplit
import Derived.Test.YtflfcofeedjblaaSimX
import Derived.Test.YtflfcofeedjblaaPTCParse
import Derived.Test.YtflfcofeedjblaaNm
import Derived.Test.YtflfcofeedjblaaPTCWVar2
set_option linter.unusedVariables false
set_option linter.unusedSimpArgs false
set_option linter.all false
set_option linter.unusedVariables false
namespace Go.Sim
open Go Go.RowKit

theorem Zux {h:Zab} {c t:List Nat} {x:Int} (hc:c.length≤9223372036854775807) (ht:t.length≤9223372036854775807) (hx:0≤x∧x≤1048576) :
  Zag pg Zjc [.agg [.str c,.str t],.int .i64 x] h fun v h'=>∃ y,v=.int .i64 y∧Zbb h.length h h'∧(0≤y→(c.length:Int) + t.length + y=x):=by
 apply Zot.call
 simp only [Zbh]
 have s1:Zbb h.length h (h ++ [.cells Znx [.str c,.str t] false]):=Zbb.app (Nat.le_refl _) _
 simp [Zaf]
 rw [IntWalk.i64_in _ (by omega)]
 refine Zaq (fun hlt=>s1) (fun hge=>?_)
 rw [IntWalk.i64_in _ (by omega)]
 exact Zaq (fun hlt=>s1) (fun hge=>⟨s1,by omega⟩)
theorem Zvv {h:Zab} {c t c' t':List Nat} :
  Zag pg Zjb [.agg [.str c,.str t],.agg [.str c',.str t']] h fun v h'=>v=.bool (decide (c=c') && decide (t=t'))∧Zbb h.length h h':=by
 apply Zoa.call
 simp only [Zbh]
 simp [Zaf]
 by_cases e1:c=c' <;> by_cases e2:t=t' <;> simp [e1,e2] <;> exact Zbb.app (Nat.le_refl _) _
theorem Zvj {h:Zab} {c t:List Nat} :
  Zag pg Zjd [.agg [.str c,.str t]] h fun v h'=>v=.agg [.str c,.str t]∧Zbb h.length h h':=by
 apply Zox.call
 simp only [Zbh]
 simp [Zaf,Zaw,Zax,Zbj,List.getElem?_append,List.getElem?_set]
 exact Zbb.app (Nat.le_refl _) _

def prs (l:List (List Nat × List Nat)):List Zai:=l.flatMap fun p=>[.str p.1,.str p.2]
@[simp] theorem Yjw:prs []=[]:=rfl
@[simp] theorem Yes (p:List Nat × List Nat) (l:List (List Nat × List Nat)):prs (p :: l)=.str p.1 :: .str p.2 :: prs l:=rfl
@[simp] theorem Yho (a b:List (List Nat × List Nat)):prs (a ++ b)=prs a ++ prs b:=by simp [prs]
theorem Zfo (l:List (List Nat × List Nat)):(prs l).length=l.length * 2:=by
 induction l with
 | nil=>rfl
 | cons p l ih=>simp [ih]; omega
theorem Zto:∀ (l:List (List Nat × List Nat)) (k:Nat),(prs l).drop (k * 2)=prs (l.drop k)
 | l,0=>by simp
 | [],k + 1=>by simp
 | p :: l,k + 1=>by rw [Nat.succ_mul]; simpa using Zto l k
theorem Row.pair {b:Nat} {h:Zab} {a:Pt} {n:Nat} {l:List (List Nat × List Nat)} (r:Row b h a (n * 2) (prs l)) {k:Nat} (hk:k < n) :
  ∃ i o,∃ hk':k < l.length,a=some (i,o)∧i < b∧Zax h (.ptr (some (i,o + k * 2))) 2=some [.str l[k].1,.str l[k].2]:=by
 have hl:l.length=n:=by have:=r.1; rw [Zfo] at this; omega
 obtain ⟨_,r⟩:=r
 rcases r with h0 | ⟨i,o,t,all,ro,ha,hb,hi,hle,hcs⟩
 ·omega
 ·refine ⟨i,o,by omega,ha,hb,?_⟩
  have hd:(all.drop (o + k * 2)).take 2=[.str l[k].1,.str l[k].2]:=by
   have h1:((all.drop o).take (n * 2)).drop (k * 2)=prs (l.drop k):=by rw [← hcs,Zto]
   rw [List.drop_take,List.drop_drop] at h1
   have h2:(all.drop (o + k * 2)).take 2=((all.drop (o + k * 2)).take (n * 2 - k * 2)).take 2:=by rw [List.take_take,Nat.min_eq_left (by omega)]
   rw [h2,h1,List.drop_eq_getElem_cons (by omega)]
   simp only [Yes,List.take_succ_cons,List.take_zero]
  simp only [Zax,hi]
  rw [if_pos (by omega),hd]

def Zua (l:List (List Nat × List Nat)):Nat:=(l.map fun p=>p.1.length + p.2.length).sum
theorem Zrg {l:List (List Nat × List Nat)} {g:Nat} (h:g < l.length):Zua (l.take (g + 1))=Zua (l.take g) + (l[g].1.length + l[g].2.length):=by
 unfold Zua; rw [List.take_succ_eq_append_getElem h,List.map_append,List.sum_append]; simp
theorem Zud (l:List (List Nat × List Nat)) (g:Nat):Zua (l.take g)≤Zua l:=by
 conv=>rhs; rw [← List.take_append_drop g l]
 unfold Zua; rw [List.map_append,List.sum_append]; omega
theorem Ztc {l:List (List Nat × List Nat)} {g:Nat} (h:g < l.length):l[g].1.length + l[g].2.length≤Zua l:=by
 have:=Zrg h; have:=Zud l (g + 1); omega
theorem Yal {h:Zab} {a:Pt} {n c:Nat} {e:Bool} {l:List (List Nat × List Nat)} (r:Row h.length h a (n * 2) (prs l)) (hs:∀ p∈l,p.1.length≤9223372036854775807∧p.2.length≤9223372036854775807) (hn:n≤9223372036854775807) {left:Int} (hl:0≤left∧left≤1048576) :
  Zag pg Zkk [.slice a n c e,.int .i64 left] h fun v h'=>∃ x,v=.int .i64 x∧Zbb h.length h h'∧(0≤x→(n:Int) + Zua l + x=left):=by
 have hll:l.length=n:=by have:=r.1; rw [Zfo] at this; omega
 apply Zgx.call
 rw [IntWalk.i64_in _ (by omega)]
 refine Zaq (fun hlt=>?_) (fun hge=>?_)
 ·exact ⟨_,rfl,Zbb.refl _ _,by omega⟩
 ·refine Zgx.L5ind _ _ _ _ _ (J:=fun (g:Nat) x1 x5 h'=>x5=(g:Int)∧Zbb h.length h h'∧g≤n∧0≤x1∧x1 + n + Zua (l.take g)=left) (fun g=>n - g) ?_ 0 _ 0 h ⟨rfl,Zbb.refl _ _,by omega,by omega,by simp [Zua]⟩
  rintro g x1 x5 h' ⟨rfl,hS,hg,h0,ht⟩ R hR
  unfold Zgx.L5t
  refine Zaq (fun hlt=>?_) (fun hge=>?_)
  ·have hlt':g < n:=by omega
   obtain ⟨i,o,hgl,rfl,hi,hc⟩:=(r.same hS).pair hlt'
   have hsl:=hs _ (List.getElem_mem hgl)
   simp only [Zbd,Int.toNat_natCast,hc,Zar,Zah,Zal,Zaj]
   refine ⟨by omega,(Zux hsl.1 hsl.2 (by omega)).mono fun v h1 ⟨y,hv,hs1,hy⟩=>?_⟩
   subst hv
   simp only [Zbg]
   have hS1:=hS.trans (hs1.mono hS.le)
   refine Zaq (fun hneg=>⟨_,rfl,hS1,by omega⟩) (fun hneg=>?_)
   rw [Zkt hlt' (by omega)]
   have hyy:=hy (by omega)
   refine hR (g + 1) _ _ _ (by omega) ⟨rfl,hS1,by omega,by omega,?_⟩
   rw [Zrg hgl]; omega
  ·have:g=n:=by omega
   subst this
   rw [List.take_of_length_le (by omega)] at ht
   exact Zgx.A5x0i _ _ _ ⟨_,rfl,hS,by omega⟩
end Go.Sim

set_option linter.unusedVariables false
namespace Go.Sim
open Go Go.RowKit
theorem Zyf:∀ (l:List (List Nat × List Nat)) (k:Nat),(prs l).take (k * 2)=prs (l.take k)
 | l,0=>by simp
 | [],k + 1=>by simp
 | p :: l,k + 1=>by rw [Nat.succ_mul]; simpa using Zyf l k
theorem Zvg {h:Zab} {i k:Nat} {t:TypeId} {L:List (List Nat × List Nat)} {a b:List Nat} (hi:h[i]?=some (.cells t (prs L) false)) (hk:k < L.length) :
  Zaw h (.ptr (some (i,k * 2))) [.str a,.str b]=some (h.set i (.cells t (prs (L.take k ++ [(a,b)] ++ L.drop (k + 1))) false)):=by
 have hle:k * 2 + 2≤(prs L).length:=by rw [Zfo]; omega
 simp only [Zaw,hi,List.length_cons,List.length_nil,Nat.zero_add,hle,if_true,Zbj]
 rw [Zyf,show k * 2 + (1 + 1)=(k + 1) * 2 by omega,Zto]
 simp
theorem Zyb (n:Nat):reps n [.str [],.str []]=prs (List.replicate n ([],[])):=by
 unfold reps
 induction n with
 | zero=>rfl
 | succ n ih=>rw [List.replicate_succ,List.flatten_cons,ih,List.replicate_succ]; rfl
theorem Zzq {h:Zab} {a0 a1:Pt} {n0 n1 c0 c1:Nat} {e0 e1:Bool} {l0 l1:List (List Nat × List Nat)} (r0:Row h.length h a0 (n0 * 2) (prs l0)) (r1:Row h.length h a1 (n1 * 2) (prs l1)) (hn:n0≤4611686018427387904) (heq:l0=l1) :
  Zag pg Zkc [.slice a0 n0 c0 e0,.slice a1 n1 c1 e1] h fun v h'=>v=.bool true∧Zbb h.length h h':=by
 subst heq
 have hl0:l0.length=n0:=by have:=r0.1; rw [Zfo] at this; omega
 have hl1:l0.length=n1:=by have:=r1.1; rw [Zfo] at this; omega
 have:n1=n0:=by omega
 subst this
 apply Zgw.call
 simp only [beq_self_eq_true,Bool.not_true,Zbr]
 refine Zgw.L4ind _ _ _ _ _ _ _ _ _ (J:=fun (k:Nat) x5 h'=>Zbb h.length h h'∧x5=(k:Int)∧k≤n1) (fun k=>n1 - k) ?_ 0 0 h ⟨Zbb.refl _ _,rfl,by omega⟩
 rintro k x5 h' ⟨hs,rfl,hk⟩ R hR
 unfold Zgw.L4t
 refine Zaq (fun hlt=>?_) (fun hge=>Zgw.A4x0i _ _ ⟨rfl,hs⟩)
 have hlt':k < n1:=by omega
 obtain ⟨i,o,hgl,rfl,_,hc0⟩:=(r0.same hs).pair hlt'
 obtain ⟨i',o',_,rfl,_,hc1⟩:=(r1.same hs).pair hlt'
 simp only [Zbd,Int.toNat_natCast,hc0,hc1,Zar,Zah,Zal,Zaj,true_and]
 refine ⟨⟨by omega,by omega⟩,⟨by omega,by omega⟩,Zvv.mono fun v h1 ⟨hv,hs1⟩=>?_⟩
 subst hv
 simp only [Zau,decide_true,Bool.and_self,Bool.not_true,Zbr]
 rw [Zkt hlt' (by omega)]
 exact hR (k + 1) _ _ (by omega) ⟨hs.trans (hs1.mono hs.le),rfl,by omega⟩

def need (p:List Nat × List Nat):List Nat:=p.1 ++ [32] ++ p.2
end Go.Sim

set_option linter.unusedSimpArgs false
namespace Go.Sim

def Zng:List Nat:=[88,89,90,120,121,122]
def Znv (s:List Nat):List Nat:=Zng.filter fun v=>decide (v∈s)
end Go.Sim

set_option linter.unusedSimpArgs false
namespace Go.Sim

abbrev Nd:=List Nat × List Nat
abbrev Ins:=Nd × List Nd
structure Wd where
 cs:List Nd
 is:List Ins

def Zoz (s:List Nat):Bool:=match s with | [c]=>decide (65≤c∧c≤84) | _=>false
def Zfs (cs:List Nd) (c:List Nat):Bool:=cs.any fun x=>decide (x.1=c)
def Zry (cs:List Nd) (s:List Nat) (k:Nat):Bool:=Zfs cs [s.getD k 0] && (k == 0 || decide (s.getD (k - 1) 0 < s.getD k 0))
def Zvc (cs:List Nd) (s:List Nat):Bool:=(List.range s.length).all (Zry cs s)
def Zqk (cs:List Nd) (i:Nat):Bool:=Zoz (cs.getD i ([],[])).1 && (i == 0 || Zeg (cs.getD (i - 1) ([],[])).1 (cs.getD i ([],[])).1) && Zvc (cs.take i) (cs.getD i ([],[])).2
def Zhl (cs:List Nd):Bool:=(List.range cs.length).all (Zqk cs) && decide (1≤cs.length∧cs.length≤4)
def Zoq (s:List Nat):Bool:=match s with | [c]=>Zhj c | _=>false
noncomputable def Zhz (cs:List Nd) (t:List Nat) (n:Nd):Bool:=Zfs cs n.1 && Zpz n.2 && decide (n.2.length≤20) && (Znv n.2).all fun v=>decide (v∈t)
noncomputable def Ziw (cs:List Nd) (i:Ins):Bool:=Zhl cs && Zfs cs i.1.1 && Zpz i.1.2 && decide (i.1.2.length≤20) && !Zoq i.1.2 && decide (i.2.length≤3) && i.2.all (Zhz cs i.1.2)
noncomputable def Zeh (w:Wd):Bool:=Zhl w.cs && decide (w.is.length≤10) && w.is.all (Ziw w.cs)
noncomputable def Zpb (w:Wd) (n:Nd):Bool:=Zfs w.cs n.1 && Zpz n.2
theorem Zil {f:Nat→Bool} {g:Nat} (h:(List.range g).all f=true) (k:f g=true):(List.range (g + 1)).all f=true:=by
 rw [List.range_succ,List.all_append,h]; simp [k]
theorem Zlb {f:Nat→Bool} {g n:Nat} (h:g < n) (k:f g=false):(List.range n).all f=false:=by
 rw [List.all_eq_false]; exact ⟨g,List.mem_range.2 h,by simp [k]⟩
theorem Zeo {α:Type} {f:α→Bool} {l:List α} {g:Nat} (hg:g < l.length) (h:(l.take g).all f=true) (k:f l[g]=true):(l.take (g + 1)).all f=true:=by
 rw [List.take_succ_eq_append_getElem hg,List.all_append,h]; simp [k]
theorem Zmr {α:Type} {f:α→Bool} {l:List α} {g:Nat} (hg:g < l.length) (k:f l[g]=false):l.all f=false:=by
 rw [List.all_eq_false]; exact ⟨_,List.getElem_mem hg,by simp [k]⟩
theorem Zho {α:Type} {l:List α} {g:Nat} {d:α} (h:g < l.length):l.getD g d=l[g]:=by simp [List.getD,h]
theorem Zqy {cs:List Nd} {c:List Nat} {g:Nat} (hg:g < cs.length):Zfs (cs.take (g + 1)) c=(Zfs (cs.take g) c || decide (cs[g].1=c)):=by
 unfold Zfs; rw [List.take_succ_eq_append_getElem hg,List.any_append]; simp
def Ycn (cs:List Nd) (c:List Nat):Int:=if Zfs cs c then (cs.findIdx fun x=>decide (x.1=c):Nat) else -1
theorem Zqf (cs:List Nd) (c:List Nat):decide (Ycn cs c < 0)=!Zfs cs c:=by
 unfold Ycn; cases h:Zfs cs c <;> simp
theorem Yjj {t:List Nat} (h:Zpz t=true):Zoq t=Zhj (t.headD 0):=by
 obtain ⟨u,hu,rfl,_⟩:=Zyp.1 h
 cases u with
 | k c=>rfl
 | u c a=>
  have h1:=hu
  simp only [Ty.ok,Bool.and_eq_true,Bool.or_eq_true,beq_iff_eq] at h1
  rcases h1.1 with rfl | rfl <;> rfl
 | w c a b=>
  have h1:=hu
  simp only [Ty.ok,Bool.and_eq_true,beq_iff_eq] at h1
  rcases h1.1.1 with rfl; rfl
end Go.Sim

set_option linter.unusedVariables false
set_option linter.unusedSimpArgs false
set_option maxRecDepth 20000
namespace Go.Sim
open Go Go.RowKit

theorem Yau {h:Zab} {x a b:Int}:Zag pg Zlh [.int .i64 x,.int .i64 a,.int .i64 b] h fun v h'=>v=.bool (decide (a≤x∧x≤b))∧h'=h:=by
 apply Zql.call
 refine Zaq (fun h1=>?_) (fun h1=>?_)
 ·have:a≤x:=h1
  simp [this]
 ·have:¬ a≤x:=h1
  simp [this]
theorem Zza {h:Zab} (s:List Nat):Zag pg Zkh [.str s] h fun v h'=>v=.bool (Zoz s)∧h'=h:=by
 apply Znt.call
 match s with
 | []=>simp [Zoz]
 | [c]=>
  simp only [List.length_cons,List.length_nil,show ((0 + 1:Nat):Int)=1 from rfl,beq_self_eq_true,Zfp]
  have e1:Zeg [c] [65]=decide (c < 65):=by simp [Zeg]
  have e2:Zeg [c] [84]=decide (c < 84):=by simp [Zeg]
  rw [e1,e2]
  refine Zzt (fun h1=>?_) (fun h1=>?_)
  ·refine ⟨?_,by trivial⟩
   congr 1
   simp [Zoz]
   rw [Bool.eq_iff_iff]; simp; omega
  ·refine ⟨?_,by trivial⟩
   simp [Zoz]; omega
 | c :: d :: r=>
  refine Zgv (fun h1=>?_) (fun h1=>⟨rfl,rfl⟩)
  simp at h1; omega
theorem Zug {h:Zab} (s:List Nat) (hb:∀ b∈s,b < 256):Zag pg Ziv [.str s] h fun v h'=>v=.bool (Zoz s)∧h'=h:=by
 apply Zma.call
 match s,hb with
 | [],_=>simp [Zoz]
 | [c],hb=>
  have hc:=hb c (by simp)
  simp only [List.length_cons,List.length_nil,show ((0 + 1:Nat):Int)=1 from rfl,beq_self_eq_true,Zfp]
  refine ⟨⟨by omega,by simp⟩,?_⟩
  simp only [Int.toNat_zero,List.getD_cons_zero]
  rw [IntWalk.i64_in _ (by omega)]
  refine Yau.mono ?_
  rintro v h' ⟨rfl,rfl⟩
  simp only [Zau]
  refine ⟨?_,by trivial⟩
  congr 1
  simp [Zoz]; rw [Bool.eq_iff_iff]; simp; omega
 | c :: d :: r,_=>
  refine Zgv (fun h1=>?_) (fun h1=>⟨rfl,rfl⟩)
  simp at h1; omega
theorem Zxu:pg.underlying Zlc=some (.slice Zap):=by kernel_rfl
theorem Yfq:pg.cellsOf Zap=2:=by kernel_rfl
theorem Ygf:pg.okElem Zap=true:=by kernel_rfl
theorem Yfo:pg.bytesOf Zap≤127:=Nat.le_of_ble_eq_true (by kernel_rfl)
def Zcd {α:Type} (ty:TypeId) (enc:α→List Zai) (b:Nat) (h:Zab) (a:Pt) (n:Nat) (l:List α):Prop:=l.length=n∧(n=0 ∨ ∃ i,a=some (i,0)∧b≤i∧h[i]?=some (.cells ty (Zdf enc l) false))
theorem Zcd.row {α:Type} {ty:TypeId} {enc:α→List Zai} {w b:Nat} {h:Zab} {a:Pt} {n:Nat} {l:List α} (hw:∀ x,(enc x).length=w) (f:Zcd ty enc b h a n l):Row h.length h a (n * w) (Zdf enc l):=by
 obtain ⟨hl,h0 | ⟨i,ha,hb,hi⟩⟩:=f
 ·subst h0
  have:l=[]:=List.eq_nil_of_length_eq_zero hl
  subst this; simp; exact Row.nil
 ·rw [ha]; exact (Vec.mk1 (n:=0) (c:=0) hi).row (by rw [Zbl hw,hl])
theorem Zcd.same {α:Type} {ty:TypeId} {enc:α→List Zai} {b:Nat} {h h':Zab} {a:Pt} {n:Nat} {l:List α} (f:Zcd ty enc b h a n l) (s:Zbb h.length h h'):Zcd ty enc b h' a n l:=
 ⟨f.1,f.2.imp id fun ⟨i,ha,hb,hi⟩=>⟨i,ha,hb,by rw [s.eq i (Own.lt hi)]; exact hi⟩⟩
end Go.Sim

set_option linter.unusedVariables false
set_option linter.unusedSimpArgs false
set_option maxRecDepth 20000
namespace Go.Sim
open Go Go.RowKit

def Ztz (a:Pt) (n:Nat) (h h':Zab):Prop:=h.length≤h'.length∧∀ j,j < h.length→(∀ i,a=some (i,0)→n≠0→j≠i)→h'[j]?=h[j]?
theorem Ztz.refl (a:Pt) (n:Nat) (h:Zab):Ztz a n h h:=⟨Nat.le_refl _,fun _ _ _=>rfl⟩
theorem Ztz.same {a:Pt} {n:Nat} {h h1 h2:Zab} (o:Ztz a n h h1) (s:Zbb h1.length h1 h2):Ztz a n h h2:=⟨Nat.le_trans o.1 s.le,fun j hj hn=>by rw [s.eq j (by have:=o.1; omega)]; exact o.2 j hj hn⟩
theorem Ztz.set {n i:Nat} {h h1:Zab} {x:Zbv} (o:Ztz (some (i,0)) n h h1) (hn:n≠0):Ztz (some (i,0)) n h (h1.set i x):=⟨by simp; exact o.1,fun j hj hne=>by rw [Zbn (fun e=>hne i rfl hn e.symm)]; exact o.2 j hj hne⟩
theorem Row.only {b:Nat} {h h':Zab} {a a':Pt} {n m:Nat} {cs:List Zai} (r:Row b h a m cs) (o:Ztz a' n h h') (hb:∀ i,a'=some (i,0)→n≠0→b≤i):Row b h' a m cs:=by
 obtain ⟨hl,r⟩:=r
 refine ⟨hl,r.imp id ?_⟩
 rintro ⟨i,o',t,all,ro,ha,hi,hg,x⟩
 exact ⟨i,o',t,all,ro,ha,hi,by rw [o.2 i (Own.lt hg) fun j hj hn=>by have:=hb j hj hn; omega]; exact hg,x⟩
theorem Zog {cs vs:List Zai} {o:Nat} (h:o + vs.length≤cs.length):(Zbj cs o vs).length=cs.length:=by unfold Zbj; simp; omega
theorem Ycx {L:List Nd} {g:Nat} {x y:List Nat} (hg:g < L.length):Zbj (Zbj (Zdf eP L) (g * 2) [.str x]) (g * 2 + 1) [.str y]=Zdf eP (L.take g ++ (x,y) :: L.drop (g + 1)):=by
 have h1:Zdf eP L=Zdf eP (L.take g) ++ .str L[g].1 :: .str L[g].2 :: Zdf eP (L.drop (g + 1)):=by
  have e0:L=L.take g ++ L[g] :: L.drop (g + 1):=by rw [← List.drop_eq_getElem_cons hg,List.take_append_drop]
  have:=congrArg (Zdf eP) e0
  rw [Zll,Zfv] at this
  exact this
 have hA:(Zdf eP (L.take g)).length=g * 2:=by rw [Zbl Zdg,List.length_take]; omega
 generalize hAe:Zdf eP (L.take g)=A at *
 generalize hB:Zdf eP (L.drop (g + 1))=B at *
 rw [h1]
 have e1:Zbj (A ++ Zai.str L[g].1 :: Zai.str L[g].2 :: B) (g * 2) [.str x]=A ++ .str x :: .str L[g].2 :: B:=by
  unfold Zbj
  rw [← hA,List.take_left,show A.length + [Zai.str x].length=A.length + 1 from rfl,← List.drop_drop,List.drop_left]
  simp
 rw [e1]
 unfold Zbj
 have e2:(A ++ .str x :: .str L[g].2 :: B).take (g * 2 + 1)=A ++ [.str x]:=by rw [← hA,List.take_length_add_append]; rfl
 have e3:(A ++ .str x :: .str L[g].2 :: B).drop (g * 2 + 1 + [Zai.str y].length)=B:=by
  rw [show g * 2 + 1 + [Zai.str y].length=A.length + 2 by rw [hA]; rfl,← List.drop_drop,List.drop_left]; rfl
 rw [e2,e3]
 rw [Zll,Zfv,hB,hAe]
 simp [eP]
def Zhk (k:Int) (n:Nat):List Nd:=(List.range n).map fun (j:Nat)=>(Zfu (k + 2 * j),Zfu (k + 2 * j + 1))
theorem Zex (k:Int) (n:Nat):(Zhk k n).length=n:=by simp [Zhk]
theorem Zsn (k:Int) (n:Nat):Zhk k (n + 1)=Zhk k n ++ [(Zfu (k + 2 * n),Zfu (k + 2 * n + 1))]:=by simp [Zhk,List.range_succ]
theorem Zul (k:Int) {n g:Nat} (h:g < n):(Zhk k n)[g]'(by rw [Zex]; exact h)=(Zfu (k + 2 * g),Zfu (k + 2 * g + 1)):=by simp [Zhk]
theorem Zmt {h:Zab} {b:Nat} {a:Pt} {n c:Nat} {e:Bool} {l:List Nd} {k:Int} (f:Zcd Zap eP b h a n l) (hk:0≤k∧k + 2 * n≤4611686018427387000) :
  Zag pg Zhd [.slice a n c e,.int .i64 k] h fun v h'=>v=.int .i64 (k + 2 * n)∧Ztz a n h h'∧Zcd Zap eP b h' a n (Zhk k n):=by
 apply Zfi.call
 obtain ⟨hl,hf⟩:=f
 refine Zfi.L2ind _ _ _ _ _ (J:=fun (g:Nat) x1 x5 h'=>x5=(g:Int)∧g≤n∧x1=k + 2 * g∧Ztz a n h h'∧(n=0 ∨ ∃ i,a=some (i,0)∧b≤i∧h'[i]?=some (.cells Zap (Zdf eP (Zhk k g ++ l.drop g)) false))) (fun g=>n - g) ?_ 0 _ _ _
  ⟨rfl,by omega,by simp,Ztz.refl _ _ _,by simpa [Zhk] using hf⟩
 rintro g x1 x5 h' ⟨rfl,hg,rfl,hO,hst⟩ R hR
 unfold Zfi.L2t
 refine Zaq (fun hlt=>?_) (fun hge=>?_)
 ·rcases hst with h0 | ⟨i,rfl,hbi,ho⟩
  ·omega
  have hn0:n≠0:=by omega
  have hgl:g < (Zhk k g ++ l.drop g).length:=by simp [Zex]; omega
  have hlen:(Zdf eP (Zhk k g ++ l.drop g)).length=n * 2:=by rw [Zbl Zdg]; simp [Zex]; omega
  refine (Zdq (by omega)).mono ?_
  rintro v h1 ⟨rfl,s1⟩
  simp only [Zaj,Zbd,Int.toNat_natCast,Nat.zero_add,Nat.add_zero]
  have ho1:h1[i]?=some (.cells Zap (Zdf eP (Zhk k g ++ l.drop g)) false):=by rw [s1.eq i (Own.lt ho)]; exact ho
  rw [Zay ho1 (by rw [hlen]; simp; omega)]
  simp only [Zam]
  refine ⟨by omega,(Zdq (by rw [IntWalk.i64_in _ (by omega)]; omega)).mono ?_⟩
  rintro v h2 ⟨rfl,s2⟩
  simp only [Zaj]
  rw [IntWalk.i64_in (k + 2 * (g:Int) + 1) (by omega)]
  have ho2:h2[i]?=some (.cells Zap (Zbj (Zdf eP (Zhk k g ++ l.drop g)) (g * 2) [.str (Zfu (k + 2 * g))]) false):=by rw [s2.eq i (by simp; exact Own.lt ho1)]; exact Zbm ho1
  have hlen2:(Zbj (Zdf eP (Zhk k g ++ l.drop g)) (g * 2) [.str (Zfu (k + 2 * g))]).length=n * 2:=by rw [Zog (by rw [hlen]; simp; omega),hlen]
  rw [Zay ho2 (by rw [hlen2]; simp; omega)]
  simp only [Zam]
  rw [IntWalk.i64_in _ (by omega),Zcp (by omega)]
  refine ⟨by omega,hR (g + 1) _ _ _ (by omega) ⟨rfl,by omega,by omega,((hO.same s1).set hn0 |>.same s2).set hn0,.inr ⟨i,rfl,hbi,?_⟩⟩⟩
  rw [Zbm ho2,Ycx hgl]
  congr 3
  rw [List.take_left' (Zex k g),Zsn]
  have:(Zhk k g ++ l.drop g).drop (g + 1)=l.drop (g + 1):=by
   rw [← List.drop_drop,List.drop_left' (Zex k g),List.drop_drop]
  rw [this]; simp
 ·have:g=n:=by omega
  subst this
  apply Zfi.A2x0i
  refine ⟨rfl,hO,Zex _ _,?_⟩
  rw [List.drop_of_length_le (by omega),List.append_nil] at hst
  exact hst
theorem Zuc {h:Zab} {a:Pt} {n c:Nat} {e:Bool} {k:Int} (r:Row h.length h a (n * 2) (Zdf eP (Zhk k n))) (hk:0≤k∧k + 2 * n≤4611686018427387000) :
  Zag pg Zit [.slice a n c e,.int .i64 k] h fun v h'=>v=.int .i64 (k + 2 * n)∧Zbb h.length h h':=by
 apply Zfl.call
 refine Zfl.L2ind _ _ _ _ _ (J:=fun (g:Nat) x1 x5 h'=>x5=(g:Int)∧g≤n∧x1=k + 2 * g∧Zbb h.length h h') (fun g=>n - g) ?_ 0 _ _ _ ⟨rfl,by omega,by simp,Zbb.refl _ _⟩
 rintro g x1 x5 h' ⟨rfl,hg,rfl,hS⟩ R hR
 unfold Zfl.L2t
 refine Zaq (fun hlt=>?_) (fun hge=>?_)
 ·obtain ⟨i,o,hgl,rfl,hi,_,hc⟩:=Row.el Zdg (r.same hS) (Zex k n) (k:=g) (by omega) (by omega)
  rw [Zul k (by omega)] at hc
  have c0:=hc 0 (by omega)
  have c1:=hc 1 (by omega)
  simp only [eP,List.getElem?_cons_zero,List.getElem?_cons_succ] at c0 c1
  simp only [Zbd,Int.toNat_natCast,c0,Zaj]
  refine ⟨by omega,(Zdq (by omega)).mono ?_⟩
  rintro v h1 ⟨rfl,s1⟩
  have hl:=hS.le
  simp only [Zaj]
  have c01:=(s1.mono hl).cell (by omega) c0
  have c11:=(s1.mono hl).cell (by omega) c1
  refine ⟨c01,?_⟩
  simp only [decide_true,Bool.not_true,Zbr,Zbd,c11,Zaj]
  refine ⟨by omega,(Zdq (by rw [IntWalk.i64_in _ (by omega)]; omega)).mono ?_⟩
  rintro v h2 ⟨rfl,s2⟩
  rw [IntWalk.i64_in (k + 2 * (g:Int) + 1) (by omega)]
  simp only [Zaj,decide_true,Bool.not_true,Zbr]
  have S1:=hS.trans (s1.mono hl)
  have c12:=(s2.mono S1.le).cell (by omega) c11
  rw [IntWalk.i64_in _ (by omega),Zcp (by omega)]
  exact ⟨c12,hR (g + 1) _ _ _ (by omega) ⟨rfl,by omega,by omega,S1.trans (s2.mono S1.le)⟩⟩
 ·have:g=n:=by omega
  subst this
  exact Zfl.A2x0i _ _ _ ⟨rfl,hS⟩

theorem Zcd.only {α:Type} {ty:TypeId} {enc:α→List Zai} {b:Nat} {h h':Zab} {a a':Pt} {n m:Nat} {l:List α} (f:Zcd ty enc b h a n l) (o:Ztz a' m h h') (hb:∀ i,a'=some (i,0)→m≠0→∀ j,a=some (j,0)→j≠i):Zcd ty enc b h' a n l:=
 ⟨f.1,f.2.imp id fun ⟨i,ha,hbi,hi⟩=>⟨i,ha,hbi,by rw [o.2 i (Own.lt hi) fun j hj hn=>hb j hj hn i ha]; exact hi⟩⟩
end Go.Sim

set_option linter.unusedVariables false
set_option linter.unusedSimpArgs false
set_option maxRecDepth 20000
namespace Go.Sim
open Go Go.RowKit

structure EI where
 c:List Nat
 t:List Nat
 a:Pt
 n:Nat
 cp:Nat
 e:Bool
 deriving Inhabited
def eN (x:EI):List Zai:=[.str x.c,.str x.t,.slice x.a x.n x.cp x.e]
theorem Zgu (x:EI):(eN x).length=3:=rfl
def Yfn (h:Zab) (x:EI) (i:Ins):Prop:=x.c=i.1.1∧x.t=i.1.2∧Row h.length h x.a (x.n * 2) (Zdf eP i.2)
def Zzp (h:Zab) (xs:List EI) (is:List Ins):Prop:=xs.length=is.length∧∀ (k:Nat) (x:EI) (i:Ins),xs[k]?=some x→is[k]?=some i→Yfn h x i
structure Zip (h:Zab) (a0:Pt) (n0 c0:Nat) (a1:Pt) (n1 c1:Nat) (w:Wd):Prop where
 cls:Row h.length h a0 (n0 * 2) (Zdf eP w.cs)
 ins:∃ xs,Row h.length h a1 (n1 * 3) (Zdf eN xs)∧Zzp h xs w.is
 le0:n0≤c0
 le1:n1≤c1
theorem Row.same' {h h':Zab} {a:Pt} {n:Nat} {cs:List Zai} (r:Row h.length h a n cs) (s:Zbb h.length h h'):Row h'.length h' a n cs:=(r.same s).mono s.le
theorem Yfn.same {h h':Zab} {x:EI} {i:Ins} (r:Yfn h x i) (s:Zbb h.length h h'):Yfn h' x i:=⟨r.1,r.2.1,r.2.2.same' s⟩
theorem Zzp.same {h h':Zab} {xs:List EI} {is:List Ins} (r:Zzp h xs is) (s:Zbb h.length h h'):Zzp h' xs is:=⟨r.1,fun k x i hx hi=>(r.2 k x i hx hi).same s⟩
theorem Zip.same {h h':Zab} {a0 a1:Pt} {n0 c0 n1 c1:Nat} {w:Wd} (r:Zip h a0 n0 c0 a1 n1 c1 w) (s:Zbb h.length h h'):Zip h' a0 n0 c0 a1 n1 c1 w:=
 ⟨r.cls.same' s,r.ins.imp fun xs ⟨r1,r2⟩=>⟨r1.same' s,r2.same s⟩,r.le0,r.le1⟩
theorem Yfn.len {h:Zab} {x:EI} {i:Ins} (r:Yfn h x i):i.2.length=x.n:=by have:=r.2.2.1; rw [Zbl Zdg] at this; omega
theorem Zip.len0 {h:Zab} {a0 a1:Pt} {n0 c0 n1 c1:Nat} {w:Wd} (r:Zip h a0 n0 c0 a1 n1 c1 w):w.cs.length=n0:=by have:=r.cls.1; rw [Zbl Zdg] at this; omega
theorem Zip.len1 {h:Zab} {a0 a1:Pt} {n0 c0 n1 c1:Nat} {w:Wd} (r:Zip h a0 n0 c0 a1 n1 c1 w):w.is.length=n1:=by
 obtain ⟨xs,r1,r2,_⟩:=r.ins
 have:=r1.1; rw [Zbl Zgu] at this; omega
theorem Zip.inst {h:Zab} {a0 a1:Pt} {n0 c0 n1 c1:Nat} {w:Wd} (r:Zip h a0 n0 c0 a1 n1 c1 w) {k:Nat} (hk:k < n1) :
  ∃ i o,∃ hk':k < w.is.length,∃ a n cp e,a1=some (i,o)∧i < h.length∧Zax h (.ptr (some (i,o + k * 3))) 3=some [.str w.is[k].1.1,.str w.is[k].1.2,.slice a n cp e]∧Zaf h (.ptr (some (i,o + k * 3)))=some (.str w.is[k].1.1)∧Zaf h (.ptr (some (i,o + k * 3 + 1)))=some (.str w.is[k].1.2)∧Zaf h (.ptr (some (i,o + k * 3 + 2)))=some (.slice a n cp e) ∧
   Row h.length h a (n * 2) (Zdf eP w.is[k].2)∧w.is[k].2.length=n:=by
 have hl:=r.len1
 obtain ⟨xs,r1,r2,r3⟩:=r.ins
 obtain ⟨i,o,hk',ha,hi,hr,hc⟩:=Row.el Zgu r1 (by omega) hk (by omega)
 have hI:=r3 k xs[k] w.is[k] (List.getElem?_eq_getElem hk') (List.getElem?_eq_getElem (by omega))
 obtain ⟨e1,e2,e3⟩:=id hI
 refine ⟨i,o,by omega,xs[k].a,xs[k].n,xs[k].cp,xs[k].e,ha,hi,?_,?_,?_,?_,e3,hI.len⟩
 ·rw [hr,eN,e1,e2]
 ·have:=hc 0 (by omega); rw [← e1]; simpa [eN] using this
 ·have:=hc 1 (by omega); rw [← e2]; simpa [eN] using this
 ·have:=hc 2 (by omega); simpa [eN] using this
theorem Row.pr {b:Nat} {h:Zab} {a:Pt} {n:Nat} {l:List Nd} (r:Row b h a (n * 2) (Zdf eP l)) {k:Nat} (hk:k < n) :
  ∃ i o,∃ hk':k < l.length,a=some (i,o)∧i < b∧Zax h (.ptr (some (i,o + k * 2))) 2=some [.str l[k].1,.str l[k].2]∧Zaf h (.ptr (some (i,o + k * 2)))=some (.str l[k].1)∧Zaf h (.ptr (some (i,o + k * 2 + 1)))=some (.str l[k].2):=by
 have hl:l.length=n:=by have:=r.1; rw [Zbl Zdg] at this; omega
 obtain ⟨i,o,hk',ha,hi,hr,hc⟩:=Row.el Zdg r hl hk (by omega)
 exact ⟨i,o,hk',ha,hi,hr,by simpa [eP] using hc 0 (by omega),by simpa [eP] using hc 1 (by omega)⟩

def Mid (lo hi:Nat) (h h':Zab):Prop:=h.length≤h'.length∧∀ j,j < h.length→(j < lo ∨ hi≤j)→h'[j]?=h[j]?
theorem Mid.refl (lo hi:Nat) (h:Zab):Mid lo hi h h:=⟨Nat.le_refl _,fun _ _ _=>rfl⟩
theorem Mid.trans {lo hi:Nat} {h h1 h2:Zab} (a:Mid lo hi h h1) (b:Mid lo hi h1 h2):Mid lo hi h h2:=⟨Nat.le_trans a.1 b.1,fun j hj hn=>by rw [b.2 j (by have:=a.1; omega) hn]; exact a.2 j hj hn⟩
theorem Mid.of_same {lo hi:Nat} {h h':Zab} (s:Zbb h.length h h'):Mid lo hi h h':=⟨s.le,fun j hj _=>s.eq j hj⟩
theorem Mid.same {lo hi:Nat} {h h1 h2:Zab} (a:Mid lo hi h h1) (s:Zbb h1.length h1 h2):Mid lo hi h h2:=a.trans (Mid.of_same s)
theorem Mid.set {lo hi i:Nat} {h h1:Zab} {x:Zbv} (o:Mid lo hi h h1) (h0:lo≤i) (h2:i < hi):Mid lo hi h (h1.set i x):=⟨by simp; exact o.1,fun j hj hne=>by rw [Zbn (by omega)]; exact o.2 j hj hne⟩
theorem Ztz.mid {lo hi:Nat} {a:Pt} {n:Nat} {h h':Zab} (o:Ztz a n h h') (hb:∀ i,a=some (i,0)→n≠0→lo≤i∧i < hi):Mid lo hi h h':=⟨o.1,fun j hj hn=>o.2 j hj fun i hi h0=>by have:=hb i hi h0; omega⟩
theorem Zcd.in {α:Type} {ty:TypeId} {enc:α→List Zai} {b:Nat} {h:Zab} {a:Pt} {n:Nat} {l:List α} (f:Zcd ty enc b h a n l):∀ i,a=some (i,0)→n≠0→b≤i∧i < h.length:=by
 intro i hi hn
 rcases f.2 with h0 | ⟨j,ha,hb,hj⟩
 ·exact absurd h0 hn
 ·rw [hi] at ha; cases ha; exact ⟨hb,Own.lt hj⟩
theorem Row.mid {lo hi b:Nat} {h h':Zab} {a:Pt} {m:Nat} {cs:List Zai} (r:Row b h a m cs) (o:Mid lo hi h h') (hb:b≤lo):Row b h' a m cs:=by
 obtain ⟨hl,r⟩:=r
 refine ⟨hl,r.imp id ?_⟩
 rintro ⟨i,o',t,all,ro,ha,hi,hg,x⟩
 exact ⟨i,o',t,all,ro,ha,hi,by rw [o.2 i (Own.lt hg) (.inl (by omega))]; exact hg,x⟩
theorem Zcd.mid {α:Type} {ty:TypeId} {enc:α→List Zai} {lo hi b:Nat} {h h':Zab} {a:Pt} {n:Nat} {l:List α} (f:Zcd ty enc b h a n l) (o:Mid lo hi h h') (hb:hi≤b):Zcd ty enc b h' a n l:=
 ⟨f.1,f.2.imp id fun ⟨i,ha,hbi,hi⟩=>⟨i,ha,hbi,by rw [o.2 i (Own.lt hi) (.inr (by omega))]; exact hi⟩⟩

structure Zfw (b:Nat) (h:Zab) (a0:Pt) (n0:Nat) (a1:Pt) (n1:Nat) (xs:List EI) (w:Wd):Prop where
 cls:Zcd Zat eP b h a0 n0 w.cs
 ins:Zcd Zaa eN b h a1 n1 xs
 len:xs.length=w.is.length
 need:∀ (k:Nat) (x:EI) (i:Ins),xs[k]?=some x→w.is[k]?=some i→x.c=i.1.1∧x.t=i.1.2∧Zcd Zap eP b h x.a x.n i.2
 sep:∀ (j k:Nat) (x y:EI),j≠k→xs[j]?=some x→xs[k]?=some y→x.n≠0→y.n≠0→x.a≠y.a
 nn:∀ x∈xs,x.a≠none
 nc:a0≠none
theorem Zfw.same {b:Nat} {h h':Zab} {a0 a1:Pt} {n0 n1:Nat} {xs:List EI} {w:Wd} (f:Zfw b h a0 n0 a1 n1 xs w) (s:Zbb h.length h h'):Zfw b h' a0 n0 a1 n1 xs w:=
 ⟨f.cls.same s,f.ins.same s,f.len,fun k x i hx hi=>⟨(f.need k x i hx hi).1,(f.need k x i hx hi).2.1,(f.need k x i hx hi).2.2.same s⟩,f.sep,f.nn,f.nc⟩
theorem Zfw.mid {lo hi b:Nat} {h h':Zab} {a0 a1:Pt} {n0 n1:Nat} {xs:List EI} {w:Wd} (f:Zfw b h a0 n0 a1 n1 xs w) (s:Mid lo hi h h') (hb:hi≤b):Zfw b h' a0 n0 a1 n1 xs w:=
 ⟨f.cls.mid s hb,f.ins.mid s hb,f.len,fun k x i hx hi=>⟨(f.need k x i hx hi).1,(f.need k x i hx hi).2.1,(f.need k x i hx hi).2.2.mid s hb⟩,f.sep,f.nn,f.nc⟩
theorem Zfw.rep {b:Nat} {h:Zab} {a0 a1:Pt} {n0 c0 n1 c1:Nat} {xs:List EI} {w:Wd} (f:Zfw b h a0 n0 a1 n1 xs w) (h0:n0≤c0) (h1:n1≤c1):Zip h a0 n0 c0 a1 n1 c1 w:=
 ⟨f.cls.row Zdg,⟨xs,f.ins.row Zgu,f.len,fun k x i hx hi=>⟨(f.need k x i hx hi).1,(f.need k x i hx hi).2.1,(f.need k x i hx hi).2.2.row Zdg⟩⟩,h0,h1⟩
end Go.Sim

set_option linter.unusedVariables false
set_option linter.unusedSimpArgs false
set_option maxRecDepth 20000
namespace Go.Sim
open Go Go.RowKit

def one (c:Nat):List Nat:=[c]
theorem Zwz:pg.underlying Zsp=some (.slice Zdv):=by kernel_rfl
theorem Ycl:pg.cellsOf Zdv=1:=by kernel_rfl
theorem Ybd:pg.okElem Zdv=true:=by kernel_rfl
theorem Ybt:pg.bytesOf Zdv≤127:=Nat.le_of_ble_eq_true (by kernel_rfl)
theorem Ygh (s:List Nat) (h:Zab):Zag pg Znu [.str s] h fun v h'=>Zbb h.length h h'∧∃ a n c e,v=.slice a n c e∧Row h'.length h' a n (strs ((Znv s).map one)):=by
 apply Zhg.call
 simp only [Zbh]
 have hlist:(h ++ [Zbv.cells Zdv [] false] ++ [Zbv.cells Zdv [.str [88],.str [89],.str [90],.str [120],.str [121],.str [122]] false])[h.length + 1]?=some (.cells Zdv [.str [88],.str [89],.str [90],.str [120],.str [121],.str [122]] false):=by simp
 have hlen:List.length (h ++ [Zbv.cells Zdv [] false])=h.length + 1:=by simp
 rw [hlen]
 refine Zhg.L3ind _ _ _ _ _ _ _ (J:=fun (g:Nat) a3 n3 c3 e3 x9 h'=>x9=(g:Int)∧g≤6∧Zbb h.length h h'∧h'[h.length + 1]?=some (.cells Zdv [.str [88],.str [89],.str [90],.str [120],.str [121],.str [122]] false)∧n3=(((Zng.take g).filter fun v=>decide (v∈s)).map one).length∧Vec Zdv h' a3 n3 c3 (strs (((Zng.take g).filter fun v=>decide (v∈s)).map one))∧∀ i,a3=some (i,0)→h.length≤i∧i≠h.length + 1) (fun g=>6 - g) ?_ 0 _ _ _ _ _ _
  ⟨rfl,by omega,(Zbb.app (Nat.le_refl _) _).trans (Zbb.app (by simp) _),hlist,by simp,Vec.mk1 (by simp),fun i hi=>by cases hi; omega⟩
 rintro g a3 n3 c3 e3 x9 h' ⟨rfl,hg,hS,hl,rfl,hv,ha⟩ R hR
 unfold Zhg.L3t
 refine Zaq (fun hlt=>?_) (fun hge=>?_)
 ·have hlt':g < 6:=by omega
  have hc:∃ c,Zng[g]?=some c∧Zaf h' (.ptr (some (h.length + 1,0 + (g:Int).toNat * 1)))=some (.str [c]):=by
   rw [Zba hl,Int.toNat_natCast]
   match g,hlt' with
   | 0,_ | 1,_ | 2,_ | 3,_ | 4,_ | 5,_=>exact ⟨_,rfl,rfl⟩
  obtain ⟨c,hc1,hc2⟩:=hc
  simp only [Zbd,hc2,Zaj]
  refine ⟨by omega,Zjx.mono ?_⟩
  rintro v h2 ⟨rfl,rfl⟩
  simp only [Zau]
  have htk:Zng.take (g + 1)=Zng.take g ++ [c]:=by
   rw [List.take_succ,hc1]; rfl
  have hbd:(((Zng.take g).filter fun v=>decide (v∈s)).map one).length≤6:=by
   rw [List.length_map]
   exact Nat.le_trans (List.length_filter_le _ _) (by simp; omega)
  refine Zaq (fun hin=>?_) (fun hout=>?_)
  ·simp only [Zbh]
   refine hv.push Zwz Ycl Ybd Ybt (by simp) rfl (by omega) (fun h4 hl4 hi4 hk4=>?_)
   simp only [Zae]
   apply Zhg.J7i
   rw [Zcp (by omega)]
   have hle:=hS.le
   refine hR (g + 1) _ _ _ _ _ _ (by omega) ⟨rfl,by omega,⟨by omega,fun j hj=>?_⟩,?_,?_,Vec.mk1 ?_,fun i hi=>by cases hi; have:=Own.lt hl; omega⟩
   ·rw [hk4 j (by omega) fun i hi=>by have:=(ha i hi).1; omega]; exact hS.eq j hj
   ·rw [hk4 _ (Own.lt hl) fun i hi=>(ha i hi).2.symm]; exact hl
   ·rw [htk,List.filter_append]; simp [hin]
   ·rw [hi4,htk,List.filter_append]; simp [hin,strs,one]
  ·apply Zhg.J7i
   rw [Zcp (by omega)]
   have hf:(Zng.take (g + 1)).filter (fun v=>decide (v∈s))=(Zng.take g).filter fun v=>decide (v∈s):=by rw [htk,List.filter_append]; simp [hout]
   refine hR (g + 1) _ _ _ _ _ _ (by omega) ⟨rfl,by omega,hS,hl,by rw [hf],by rw [hf]; exact hv,ha⟩
 ·have:g=6:=by omega
  subst this
  apply Zhg.A3x0i
  refine ⟨hS,_,_,_,_,rfl,hv.row (by simp)⟩
end Go.Sim

set_option linter.unusedVariables false
set_option linter.unusedSimpArgs false
set_option maxRecDepth 20000
namespace Go.Sim
open Go Go.RowKit

theorem Zge {h:Zab} {t:TypeId} {cs:List Zai} {o:Nat}:Zaf (h ++ [.cells t cs false]) (.ptr (some (h.length,o)))=cs[o]?:=Zba (t:=t) (cs:=cs) (ro:=false) (by simp)
theorem Ych {h:Zab} {t:TypeId} {cs:List Zai} {n:Nat} (hn:cs.length=n):Zax (h ++ [.cells t cs false]) (.ptr (some (h.length,0))) n=some cs:=by
 rw [Zhu (show (h ++ [Zbv.cells t cs false])[h.length]?=some (.cells t cs false) by simp) (by omega)]; simp [← hn]
theorem Zan {h:Zab} {x:Zbv}:Zbb h.length h (h ++ [x]):=Zbb.app (Nat.le_refl _) _
theorem Zss {h:Zab} {t:TypeId} {cs vs:List Zai} (hl:cs.length=vs.length):Zaw (h ++ [.cells t cs false]) (.ptr (some (h.length,0))) vs=some (h ++ [.cells t vs false]):=by
 rw [Zay (show (h ++ [Zbv.cells t cs false])[h.length]?=some (.cells t cs false) by simp) (by omega)]
 simp [Zbj,hl]
theorem Znm {h:Zab} {t:TypeId} {x y a b:Zai}:Zaw (h ++ [.cells t [x,y] false]) (.ptr (some (h.length,0))) [a,b]=some (h ++ [.cells t [a,b] false]):=Zss rfl
theorem Zym {h:Zab} {t:TypeId} {x y z a b c:Zai}:Zaw (h ++ [.cells t [x,y,z] false]) (.ptr (some (h.length,0))) [a,b,c]=some (h ++ [.cells t [a,b,c] false]):=Zss rfl
theorem Row.sl {b:Nat} {h:Zab} {a:Pt} {n k:Nat} {l:List Nd} (r:Row b h a (n * 2) (Zdf eP l)) (hk:k≤n) (hl:l.length=n):Row b h a (k * 2) (Zdf eP (l.take k)):=by
 obtain ⟨h1,h2⟩:=r
 have e:(Zdf eP (l.take k)).length=k * 2:=by rw [Zbl Zdg,List.length_take,Nat.min_eq_left (by omega)]
 refine ⟨e,?_⟩
 rcases h2 with h0 | ⟨i,o,t,all,ro,ha,hb,hi,hle,hcs⟩
 ·exact .inl (by omega)
 ·refine .inr ⟨i,o,t,all,ro,ha,hb,hi,by omega,?_⟩
  rw [← Ybq Zdg,hcs,List.take_take,Nat.min_eq_left (by omega)]
theorem Zyc {b:Nat} {h:Zab} {a:Pt} {n c k:Nat} {e:Bool} {l:List Nd} {K:Zai→Prop} (r:Row b h a (n * 2) (Zdf eP l)) (hl:l.length=n) (hk:k≤n) (hc:n≤c) {z:Int} (hz:z=k)
  (hK:∀ a' c' e',Row b h a' (k * 2) (Zdf eP (l.take k))→k≤c'→K (.slice a' k c' e')):Zle a n c e 2 none (some (.int .i64 z)) none K:=by
 subst hz
 simp only [Zle,Ziz]
 refine ⟨by omega,?_⟩
 split
 ·have h0:n=0:=by
   obtain ⟨h1,h2⟩:=r
   rcases h2 with h2 | ⟨i,o,t,all,ro,ha,_⟩
   ·omega
   ·cases ha
  have hk0:k=0:=by omega
  subst hk0
  exact ⟨⟨by trivial,by simp,.inl (by trivial)⟩,hK _ _ _ (by simpa using Row.nil) (by omega)⟩
 ·rename_i i o
  refine ⟨fun hlt=>?_,fun hlt=>?_⟩
  ·have e2:((k:Int) - 0).toNat=k:=by omega
   have e3:o + Int.toNat 0 * 2=o:=by simp
   have e4:((c:Int) - 0).toNat=c:=by omega
   rw [e2,e3,e4]
   exact hK _ _ _ (r.sl hk hl) (by omega)
  ·have hk0:k=0:=by omega
   subst hk0
   exact hK _ _ _ (by simpa using Row.nil) (by omega)

theorem Zxp {h:Zab} {x:Nd} {j:Nat} {c:List Nat} (hj:Zaf h (.ptr (some (j,0)))=some (.str c)) (hjl:j < h.length) :
  Zag pg Zcl [.agg [.str x.1,.str x.2],.ptr (some (j,0))] h fun v h'=>v=.bool (decide (x.1=c))∧Zbb h.length h h':=by
 apply Zkm.call
 simp only [Zbh,Zge,List.getElem?_cons_zero,Zaj]
 have:=(Zan (h:=h) (x:=.cells Zat [.str x.1,.str x.2] false)).cell hjl hj
 rw [this]
 exact ⟨rfl,Zan⟩
theorem Zxo {h:Zab} {a:Pt} {n c:Nat} {e:Bool} {cs:List Nd} {j:Nat} {s:List Nat} (r:Row h.length h a (n * 2) (Zdf eP cs)) (hn:n≤4611686018427387904) (hj:Zaf h (.ptr (some (j,0)))=some (.str s)) (hjl:j < h.length) :
  Zag pg Zcy [.slice a n c e,.fn Zcl [.ptr (some (j,0))]] h fun v h'=>(∃ z:Int,v=.int .i64 z∧decide (z ≥ 0)=Zfs cs s)∧Zbb h.length h h':=by
 have hl:cs.length=n:=by have:=r.1; rw [Zbl Zdg] at this; omega
 apply Zbf.call
 refine Zbf.L2ind _ _ _ _ _ _ _ (J:=fun (g:Nat) x8 h'=>x8=(g:Int)∧g≤n∧Zbb h.length h h'∧Zfs (cs.take g) s=false) (fun g=>n - g) ?_ 0 _ _ ⟨rfl,by omega,Zbb.refl _ _,rfl⟩
 rintro g x8 h' ⟨rfl,hg,hS,hk⟩ R hR
 unfold Zbf.L2t
 refine Zaq (fun hlt=>?_) (fun hge=>?_)
 ·obtain ⟨i,o,hgl,rfl,_,hr,_⟩:=(r.same hS).pr (k:=g) (by omega)
  simp only [Zbd,Int.toNat_natCast,hr,Zar,Zah,Zal,Zaj]
  refine ⟨by omega,(Zxp (x:=cs[g]) (hS.cell hjl hj) (by have:=hS.le; omega)).mono ?_⟩
  rintro v h2 ⟨rfl,s2⟩
  simp only [Zau]
  have hS2:=hS.trans (s2.mono hS.le)
  refine Zaq (fun he=>?_) (fun he=>?_)
  ·refine ⟨⟨_,rfl,?_⟩,hS2⟩
   have:Zfs cs s=true:=by unfold Zfs; rw [List.any_eq_true]; exact ⟨_,List.getElem_mem hgl,by simpa using he⟩
   rw [this]; simp
  ·rw [Zcp (by omega)]
   exact hR (g + 1) _ _ (by omega) ⟨rfl,by omega,hS2,by rw [Zqy hgl,hk]; simp [he]⟩
 ·apply Zbf.A2x0i
  have:g=n:=by omega
  subst this
  rw [List.take_of_length_le (by omega)] at hk
  exact ⟨⟨_,rfl,by rw [hk]; rfl⟩,hS⟩
theorem Zsz {h:Zab} {a:Pt} {n c:Nat} {e:Bool} {cs:List Nd} {s:List Nat} (r:Row h.length h a (n * 2) (Zdf eP cs)) (hn:n≤4611686018427387904) :
  Zag pg Zio [.slice a n c e,.str s] h fun v h'=>v=.bool (Zfs cs s)∧Zbb h.length h h':=by
 apply Zpp.call
 simp only [Zbh]
 apply Zcq.call
 have s1:Zbb h.length h (h ++ [.cells Zdv [.str s] false]):=Zan
 refine (Zxo (r.same' s1) hn (s:=s) (by rw [Zge]; rfl) (by simp)).mono ?_
 rintro v h2 ⟨⟨z,rfl,hz⟩,s2⟩
 simp only [Zbg,Zau]
 exact ⟨by rw [hz],s1.trans (s2.mono s1.le)⟩
theorem Zpj {h:Zab} {a a1:Pt} {n c n1 c1:Nat} {e e1:Bool} {cs:List Nd} {s:List Nat} (r:Row h.length h a (n * 2) (Zdf eP cs)) (hn:n≤4611686018427387904) :
  Zag pg Zgp [.agg [.slice a n c e,.slice a1 n1 c1 e1],.str s] h fun v h'=>v=.int .i64 (Ycn cs s)∧Zbb h.length h h':=by
 have hl:cs.length=n:=by have:=r.1; rw [Zbl Zdg] at this; omega
 apply Zgr.call
 simp only [Zbh,Zge,Nat.add_zero,List.getElem?_cons_zero,Zae]
 have s1:Zbb h.length h (h ++ [.cells Zac [.slice a n c e,.slice a1 n1 c1 e1] false]):=Zan
 refine Zgr.L2ind _ _ _ _ _ _ _ (J:=fun (g:Nat) x10 h'=>x10=(g:Int)∧g≤n∧Zbb h.length h h'∧Zfs (cs.take g) s=false) (fun g=>n - g) ?_ 0 _ _ ⟨rfl,by omega,s1,rfl⟩
 rintro g x8 h' ⟨rfl,hg,hS,hk⟩ R hR
 unfold Zgr.L2t
 refine Zaq (fun hlt=>?_) (fun hge=>?_)
 ·obtain ⟨i,o,hgl,rfl,_,hr,_⟩:=(r.same hS).pr (k:=g) (by omega)
  simp only [Zbd,Int.toNat_natCast,hr,Zar,Zah,Zal,Zaj,Zbh]
  rw [Znm]
  simp only [Zam,Zge,Nat.add_zero,List.getElem?_cons_zero,Zaj]
  refine ⟨by omega,?_⟩
  have hS2:Zbb h.length h (h' ++ [.cells Zat [.str cs[g].1,.str cs[g].2] false]):=hS.trans (Zbb.app hS.le _)
  refine Zaq (fun he=>?_) (fun he=>?_)
  ·refine ⟨?_,hS2⟩
   have hkn:Zfs cs s=true:=by unfold Zfs; rw [List.any_eq_true]; exact ⟨_,List.getElem_mem hgl,by simpa using he⟩
   unfold Ycn
   rw [hkn,if_pos rfl]
   congr 2
   symm
   rw [List.findIdx_eq hgl]
   refine ⟨by simpa using he,fun j hj=>?_⟩
   unfold Zfs at hk
   rw [List.any_eq_false] at hk
   have:=hk cs[j] (List.mem_take_iff_getElem.2 ⟨j,by omega,rfl⟩)
   simpa using this
  ·rw [Zcp (by omega)]
   exact hR (g + 1) _ _ (by omega) ⟨rfl,by omega,hS2,by rw [Zqy hgl,hk]; simp [he]⟩
 ·apply Zgr.A2x0i
  have:g=n:=by omega
  subst this
  rw [List.take_of_length_le (by omega)] at hk
  exact ⟨by unfold Ycn; rw [hk]; rfl,hS⟩

theorem Yce {s:List Nat} {g:Nat} {z:Int} (hg:g < s.length) (hz:z=((g + 1:Nat):Int)):sub s (g:Int) z=[s[g]]:=by
 subst hz
 simp only [sub,Int.toNat_natCast]
 rw [List.take_succ_eq_append_getElem hg,List.drop_append_of_le_length (by simp; omega),List.drop_of_length_le (by rw [List.length_take]; exact Nat.min_le_left _ _),List.nil_append]
theorem Zom {g:Nat} (hg:0 < g) (hn:g≤9223372036854775807):IntKind.wrap .i64 ((g:Int) - 1)=((g - 1:Nat):Int):=by rw [IntWalk.i64_in _ (by omega)]; omega
theorem Zyg {cs:List Nd} {s:List Nat} {g:Nat} (hg:g < s.length):Zry cs s g=(Zfs cs [s[g]] && (g == 0 || decide (s.getD (g - 1) 0 < s[g]))):=by unfold Zry; rw [Zho hg]
theorem Zyl {cs:List Nd} {g:Nat} (hg:g < cs.length):Zqk cs g=(Zoz cs[g].1 && (g == 0 || Zeg (cs.getD (g - 1) ([],[])).1 cs[g].1) && Zvc (cs.take g) cs[g].2):=by unfold Zqk; rw [Zho hg]
theorem Zic {cs:List Nd} {g:Nat} (hg:g < cs.length) (h:Zqk cs g=false):Zhl cs=false:=by unfold Zhl; rw [Zlb hg h]; rfl
theorem Zmh {h:Zab} {a a1:Pt} {n c n1 c1:Nat} {e e1:Bool} {cs:List Nd} (r:Row h.length h a (n * 2) (Zdf eP cs)) (hc:n≤c) (hn:n≤1048576) (hs:∀ p∈cs,p.2.length≤1048576) :
  Zag pg Zhc [.agg [.slice a n c e,.slice a1 n1 c1 e1]] h fun v h'=>v=.bool (Zhl cs)∧Zbb h.length h h':=by
 have hl:cs.length=n:=by have:=r.1; rw [Zbl Zdg] at this; omega
 apply Zcn.call
 simp only [Zbh,Zge,Nat.add_zero,List.getElem?_cons_zero,Zae]
 have s1:Zbb h.length h (h ++ [.cells Zac [.slice a n c e,.slice a1 n1 c1 e1] false]):=Zan
 have hw:(h ++ [Zbv.cells Zac [.slice a n c e,.slice a1 n1 c1 e1] false])[h.length]?=some (.cells Zac [.slice a n c e,.slice a1 n1 c1 e1] false):=by simp
 refine Zcn.L2ind _ _ _ _ _ _ _ _ (J:=fun (g:Nat) x9 h'=>x9=(g:Int)∧g≤n∧Zbb h.length h h'∧h'[h.length]?=some (.cells Zac [.slice a n c e,.slice a1 n1 c1 e1] false)∧(List.range g).all (Zqk cs)=true) (fun g=>n - g) ?_ 0 _ _ ⟨rfl,by omega,s1,hw,rfl⟩
 rintro g x9 h' ⟨rfl,hg,hS,hW,hk⟩ R hR
 unfold Zcn.L2t
 refine Zaq (fun hlt=>?_) (fun hge=>?_)
 ·obtain ⟨i,o,hgl,rfl,hil,hr,_⟩:=(r.same hS).pr (k:=g) (by omega)
  simp only [Zbd,Int.toNat_natCast,hr,Zar,Zah,Zal,Zaj,Zbh]
  rw [Znm]
  simp only [Zam,Zge,Nat.add_zero,List.getElem?_cons_zero,Zaj]
  have hS2:Zbb h.length h (h' ++ [.cells Zat [.str cs[g].1,.str cs[g].2] false]):=hS.trans (Zbb.app hS.le _)
  refine ⟨by omega,(Zza _).mono ?_⟩
  rintro v h2 ⟨rfl,rfl⟩
  simp only [Zau,true_and]
  have hcl:=Zyl hgl
  have hle:=hS2.le
  have hWl:=Own.lt hW
  have hW2:(h' ++ [.cells Zat [.str cs[g].1,.str cs[g].2] false])[h.length]?=some (.cells Zac [.slice (some (i,o)) n c e,.slice a1 n1 c1 e1] false):=Zmf hW
  have hcell:∀ o',Zaf (h' ++ [.cells Zat [.str cs[g].1,.str cs[g].2] false]) (.ptr (some (h'.length,o')))=([.str cs[g].1,.str cs[g].2]:List Zai)[o']?:=fun o'=>Zge
  -- the classes above
  have key:(Zoz cs[g].1 && (g == 0 || Zeg (cs.getD (g - 1) ([],[])).1 cs[g].1))=true→Zcn.J6 (fun v h'=>v=.bool (Zhl cs)∧Zbb h.length h h') R h'.length 0 h.length 0 (g:Int) (some (i,o)) n c e (n:Int) (g:Int) (h' ++ [.cells Zat [.str cs[g].1,.str cs[g].2] false]):=by
   intro hpre
   rw [hpre,Bool.true_and] at hcl
   apply Zcn.J6i
   rw [hcell]
   simp only [Nat.zero_add,List.getElem?_cons_succ,List.getElem?_cons_zero,Zaj]
   have hsl:=hs cs[g] (List.getElem_mem hgl)
   refine Zcn.L7ind _ _ _ _ _ _ _ _ _ _ _ _ _ _ (J:=fun (q:Nat) x37 h3=>x37=(q:Int)∧q≤cs[g].2.length∧Zbb h.length h h3∧h3[h.length]?=some (.cells Zac [.slice (some (i,o)) n c e,.slice a1 n1 c1 e1] false)∧h3[h'.length]?=some (.cells Zat [.str cs[g].1,.str cs[g].2] false)∧(List.range q).all (Zry (cs.take g) cs[g].2)=true) (fun q=>cs[g].2.length - q) ?_ 0 _ _ ⟨rfl,by omega,hS2,hW2,by simp,rfl⟩
   rintro q x37 h3 ⟨rfl,hq,hS3,hW3,hI3,hk3⟩ R7 hR7
   unfold Zcn.L7t
   refine Zaq (fun hlt3=>?_) (fun hge3=>?_)
   ·have hq':q < cs[g].2.length:=by omega
    simp only [Nat.add_zero,Nat.zero_add,Zba hW3,Zba hI3,List.getElem?_cons_succ,List.getElem?_cons_zero,Zae,Zaj,true_and]
    refine Zyc (r.same hS3) hl (k:=g) (by omega) hc rfl (fun a' c' e' hrow hc'=>?_)
    simp only [Zae]
    rw [Zcp (by omega),Yce hq' rfl]
    refine ⟨⟨by omega,by omega,by omega⟩,(Zsz (hrow.mono hS3.le) (by omega)).mono ?_⟩
    rintro v h4 ⟨rfl,s4⟩
    have hS4:=hS3.trans (s4.mono hS3.le)
    have hW4:h4[h.length]?=some (.cells Zac [.slice (some (i,o)) n c e,.slice a1 n1 c1 e1] false):=by rw [s4.eq _ (Own.lt hW3)]; exact hW3
    have hI4:h4[h'.length]?=some (.cells Zat [.str cs[g].1,.str cs[g].2] false):=by rw [s4.eq _ (Own.lt hI3)]; exact hI3
    simp only [Zau,Zba hW3,Zba hW4,Zba hI4,Nat.add_zero,Nat.zero_add,List.getElem?_cons_succ,List.getElem?_cons_zero,Zaj,true_and]
    have hsa:=Zyg (cs:=cs.take g) hq'
    have fail:Zry (cs.take g) cs[g].2 q=false→(Zai.bool false=Zai.bool (Zhl cs)∧Zbb h.length h h4):=fun hf=>⟨by rw [Zic hgl (by rw [hcl]; unfold Zvc; exact Zlb hq' hf)],hS4⟩
    have next:Zry (cs.take g) cs[g].2 q=true→R7 h.length 0 (g:Int) h'.length 0 (some (i,o)) n c e (n:Int) (g:Int) (cs[g].2.length:Int) (IntKind.wrap .i64 ((q:Int) + 1)) h4:=fun ht=>by
     rw [Zcp (by omega)]
     exact hR7 (q + 1) _ _ (by omega) ⟨rfl,by omega,hS4,hW4,hI4,Zil hk3 ht⟩
    refine Zci (fun hb=>fail (by rw [hsa,hb]; rfl)) (fun hb=>?_)
    refine Zaq (fun h0=>?_) (fun h0=>?_)
    ·have h0':0 < q:=by omega
     rw [Zom h0' (by omega)]
     refine ⟨⟨by omega,by omega⟩,⟨by omega,by omega⟩,?_⟩
     simp only [Int.toNat_natCast]
     have hd1:cs[g].2.getD q 0=cs[g].2[q]:=Zho hq'
     have hq0:(q == 0)=false:=by simp; omega
     refine Zaq (fun h1=>fail ?_) (fun h1=>Zcn.J11i _ _ _ _ _ _ _ _ _ _ _ _ _ _ _ _ _ (next ?_))
     ·rw [hsa,hb,hq0,← hd1]; simp only [Bool.true_and,Bool.false_or,decide_eq_false_iff_not]; omega
     ·rw [hsa,hb,hq0,← hd1]; simp only [Bool.true_and,Bool.false_or,decide_eq_true_eq]; omega
    ·have:q=0:=by omega
     subst this
     exact Zcn.J11i _ _ _ _ _ _ _ _ _ _ _ _ _ _ _ _ _ (next (by rw [hsa,hb]; rfl))
   ·apply Zcn.A7x2i
    apply Zcn.J12i
    have:q=cs[g].2.length:=by omega
    subst this
    rw [Zcp (by omega)]
    exact hR (g + 1) _ _ (by omega) ⟨rfl,by omega,hS3,hW3,Zil hk (by rw [hcl]; exact hk3)⟩
  refine Zci (fun hb=>⟨by rw [Zic hgl (by rw [hcl,hb]; rfl)],hS2⟩) (fun hb=>?_)
  refine Zaq (fun h0=>?_) (fun h0=>?_)
  ·have h0':0 < g:=by omega
   rw [Zba hW2]
   simp only [List.getElem?_cons_zero,Zae]
   rw [Zom h0' (by omega)]
   obtain ⟨i',o',hgl',heq,_,_,hc0,_⟩:=(r.same hS2).pr (k:=g - 1) (by omega)
   cases heq
   simp only [Zbd,Int.toNat_natCast,hc0,Zaj,Nat.add_zero,Nat.zero_add,hcell,List.getElem?_cons_zero,true_and]
   refine ⟨by omega,?_⟩
   have hg0:(g == 0)=false:=by simp; omega
   have hgd:cs.getD (g - 1) ([],[])=cs[g - 1]:=Zho hgl'
   refine Zci (fun hb2=>⟨by rw [Zic hgl (by rw [hcl,hb,hg0,hgd,hb2]; rfl)],hS2⟩) (fun hb2=>key (by rw [hb,hg0,hgd,hb2]; rfl))
  ·have:g=0:=by omega
   subst this
   exact key (by rw [hb]; rfl)
 ·apply Zcn.A2x0i
  have:g=n:=by omega
  subst this
  have hok:Zhl cs=decide (1≤g∧g≤4):=by unfold Zhl; rw [hl,hk,Bool.true_and]
  simp only [Nat.add_zero,Zba hW,List.getElem?_cons_zero,Zae]
  refine Zaq (fun h1=>?_) (fun h1=>?_)
  ·refine ⟨?_,hS⟩
   rw [hok]; congr 1; rw [Bool.eq_iff_iff]; simp; omega
  ·refine ⟨?_,hS⟩
   rw [hok]; congr 1; symm; simp; omega
end Go.Sim

set_option linter.unusedVariables false
set_option linter.unusedSimpArgs false
set_option maxRecDepth 20000
namespace Go.Sim
open Go Go.RowKit
theorem Zmg {h:Zab} {a:Pt} {n c:Nat} {e:Bool} {cs:List Nd} (r:Row h.length h a (n * 2) (Zdf eP cs)) (hc:n≤c) (hn:n≤1048576) (hs:∀ p∈cs,p.2.length≤1048576) (hb256:∀ p∈cs,∀ b∈p.1,b < 256) :
  Zag pg Zgy [.slice a n c e] h fun v h'=>v=.bool (Zhl cs)∧Zbb h.length h h':=by
 have hl:cs.length=n:=by have:=r.1; rw [Zbl Zdg] at this; omega
 apply Zcm.call
 refine Zcm.L2ind _ _ _ _ _ _ _ _ _ _ (J:=fun (g:Nat) x9 h'=>x9=(g:Int)∧g≤n∧Zbb h.length h h'∧(List.range g).all (Zqk cs)=true) (fun g=>n - g) ?_ 0 _ _ ⟨rfl,by omega,Zbb.refl _ _,rfl⟩
 rintro g x9 h' ⟨rfl,hg,hS,hk⟩ R hR
 unfold Zcm.L2t
 refine Zaq (fun hlt=>?_) (fun hge=>?_)
 ·obtain ⟨i,o,hgl,rfl,hil,hr,_⟩:=(r.same hS).pr (k:=g) (by omega)
  simp only [Zbd,Int.toNat_natCast,hr,Zar,Zah,Zal,Zaj,Zbh]
  rw [Znm]
  simp only [Zam,Zge,Nat.add_zero,List.getElem?_cons_zero,Zaj]
  have hS2:Zbb h.length h (h' ++ [.cells Zat [.str cs[g].1,.str cs[g].2] false]):=hS.trans (Zbb.app hS.le _)
  refine ⟨by omega,(Zug _ (hb256 _ (List.getElem_mem hgl))).mono ?_⟩
  rintro v h2 ⟨rfl,rfl⟩
  simp only [Zau,true_and]
  have hcl:=Zyl hgl
  have hle:=hS2.le
  have hcell:∀ o',Zaf (h' ++ [.cells Zat [.str cs[g].1,.str cs[g].2] false]) (.ptr (some (h'.length,o')))=([.str cs[g].1,.str cs[g].2]:List Zai)[o']?:=fun o'=>Zge
  -- the classes above
  have key:(Zoz cs[g].1 && (g == 0 || Zeg (cs.getD (g - 1) ([],[])).1 cs[g].1))=true→Zcm.J6 (fun v h'=>v=.bool (Zhl cs)∧Zbb h.length h h') R h'.length 0 (some (i,o)) n c e (g:Int) (some (i,o)) n c e (n:Int) (g:Int) (h' ++ [.cells Zat [.str cs[g].1,.str cs[g].2] false]):=by
   intro hpre
   rw [hpre,Bool.true_and] at hcl
   apply Zcm.J6i
   rw [hcell]
   simp only [Nat.zero_add,List.getElem?_cons_succ,List.getElem?_cons_zero,Zaj]
   have hsl:=hs cs[g] (List.getElem_mem hgl)
   refine Zcm.L7ind _ _ _ _ _ _ _ _ _ _ _ _ _ _ _ _ (J:=fun (q:Nat) x37 h3=>x37=(q:Int)∧q≤cs[g].2.length∧Zbb h.length h h3∧h3[h'.length]?=some (.cells Zat [.str cs[g].1,.str cs[g].2] false)∧(List.range q).all (Zry (cs.take g) cs[g].2)=true) (fun q=>cs[g].2.length - q) ?_ 0 _ _ ⟨rfl,by omega,hS2,by simp,rfl⟩
   rintro q x37 h3 ⟨rfl,hq,hS3,hI3,hk3⟩ R7 hR7
   unfold Zcm.L7t
   refine Zaq (fun hlt3=>?_) (fun hge3=>?_)
   ·have hq':q < cs[g].2.length:=by omega
    simp only [Nat.add_zero,Nat.zero_add,Zba hI3,List.getElem?_cons_succ,List.getElem?_cons_zero,Zae,Zaj,true_and]
    refine Zyc (r.same hS3) hl (k:=g) (by omega) hc rfl (fun a' c' e' hrow hc'=>?_)
    simp only [Zae]
    rw [Zcp (by omega),Yce hq' rfl]
    refine ⟨⟨by omega,by omega,by omega⟩,(Zpj (hrow.mono hS3.le) (by omega)).mono ?_⟩
    rintro v h4 ⟨rfl,s4⟩
    have hS4:=hS3.trans (s4.mono hS3.le)
    have hI4:h4[h'.length]?=some (.cells Zat [.str cs[g].1,.str cs[g].2] false):=by rw [s4.eq _ (Own.lt hI3)]; exact hI3
    simp only [Zbg,Zqf,Zba hI4,Nat.add_zero,Nat.zero_add,List.getElem?_cons_succ,List.getElem?_cons_zero,Zaj,true_and]
    have hsa:=Zyg (cs:=cs.take g) hq'
    have fail:Zry (cs.take g) cs[g].2 q=false→(Zai.bool false=Zai.bool (Zhl cs)∧Zbb h.length h h4):=fun hf=>⟨by rw [Zic hgl (by rw [hcl]; unfold Zvc; exact Zlb hq' hf)],hS4⟩
    have next:Zry (cs.take g) cs[g].2 q=true→R7 (some (i,o)) n c e (g:Int) h'.length 0 (some (i,o)) n c e (n:Int) (g:Int) (cs[g].2.length:Int) (IntKind.wrap .i64 ((q:Int) + 1)) h4:=fun ht=>by
     rw [Zcp (by omega)]
     exact hR7 (q + 1) _ _ (by omega) ⟨rfl,by omega,hS4,hI4,Zil hk3 ht⟩
    refine Zci (fun hb=>fail (by rw [hsa,hb]; rfl)) (fun hb=>?_)
    refine Zaq (fun h0=>?_) (fun h0=>?_)
    ·have h0':0 < q:=by omega
     rw [Zom h0' (by omega)]
     refine ⟨⟨by omega,by omega⟩,⟨by omega,by omega⟩,?_⟩
     simp only [Int.toNat_natCast]
     have hd1:cs[g].2.getD q 0=cs[g].2[q]:=Zho hq'
     have hq0:(q == 0)=false:=by simp; omega
     refine Zaq (fun h1=>fail ?_) (fun h1=>Zcm.J11i _ _ _ _ _ _ _ _ _ _ _ _ _ _ _ _ _ _ _ (next ?_))
     ·rw [hsa,hb,hq0,← hd1]; simp only [Bool.true_and,Bool.false_or,decide_eq_false_iff_not]; omega
     ·rw [hsa,hb,hq0,← hd1]; simp only [Bool.true_and,Bool.false_or,decide_eq_true_eq]; omega
    ·have:q=0:=by omega
     subst this
     exact Zcm.J11i _ _ _ _ _ _ _ _ _ _ _ _ _ _ _ _ _ _ _ (next (by rw [hsa,hb]; rfl))
   ·apply Zcm.A7x2i
    apply Zcm.J12i
    have:q=cs[g].2.length:=by omega
    subst this
    rw [Zcp (by omega)]
    exact hR (g + 1) _ _ (by omega) ⟨rfl,by omega,hS3,Zil hk (by rw [hcl]; exact hk3)⟩
  refine Zci (fun hb=>⟨by rw [Zic hgl (by rw [hcl,hb]; rfl)],hS2⟩) (fun hb=>?_)
  refine Zaq (fun h0=>?_) (fun h0=>?_)
  ·have h0':0 < g:=by omega
   rw [Zom h0' (by omega)]
   obtain ⟨i',o',hgl',heq,_,_,hc0,_⟩:=(r.same hS2).pr (k:=g - 1) (by omega)
   cases heq
   simp only [Zbd,Int.toNat_natCast,hc0,Zaj,Nat.add_zero,Nat.zero_add,hcell,List.getElem?_cons_zero,true_and]
   refine ⟨by omega,?_⟩
   have hg0:(g == 0)=false:=by simp; omega
   have hgd:cs.getD (g - 1) ([],[])=cs[g - 1]:=Zho hgl'
   refine Zci (fun hb2=>⟨by rw [Zic hgl (by rw [hcl,hb,hg0,hgd,hb2]; rfl)],hS2⟩) (fun hb2=>key (by rw [hb,hg0,hgd,hb2]; rfl))
  ·have:g=0:=by omega
   subst this
   exact key (by rw [hb]; rfl)
 ·apply Zcm.A2x0i
  have:g=n:=by omega
  subst this
  have hok:Zhl cs=decide (1≤g∧g≤4):=by unfold Zhl; rw [hl,hk,Bool.true_and]
  refine Yau.mono ?_
  rintro v h2 ⟨rfl,rfl⟩
  simp only [Zau]
  refine ⟨?_,hS⟩
  rw [hok]; congr 1; rw [Bool.eq_iff_iff]; simp; omega
end Go.Sim

set_option linter.unusedVariables false
set_option linter.unusedSimpArgs false
set_option maxRecDepth 20000
namespace Go.Sim
open Go Go.RowKit

theorem Ygw (c:Nat):decide (c∈[120,121,122,88,89,90])=Zhj c:=by rw [Bool.eq_iff_iff]; simp [Zhj,or_assoc]
theorem Ydv {h:Zab} (s:List Nat):Zag pg Zms [.str s] h fun v h'=>v=.bool (Zoq s)∧h'=h:=by
 apply Zpo.call
 match s with
 | []=>exact Zgv (fun h1=>by simp at h1) (fun h1=>⟨rfl,rfl⟩)
 | [c]=>
  refine Zgv (fun h1=>?_) (fun h1=>by simp at h1)
  refine Zjx.mono ?_
  rintro v h' ⟨rfl,rfl⟩
  simp only [Zau]
  exact ⟨by rw [Ygw]; rfl,by trivial⟩
 | c :: d :: r=>exact Zgv (fun h1=>by simp at h1; omega) (fun h1=>⟨rfl,rfl⟩)
theorem Zok {h:Zab} (c:Nat):Zag pg Zgh [.int .u8 (c:Int)] h fun v h'=>v=.bool (Zhj c)∧h'=h:=by
 apply Zkl.call
 refine (Zxf _ c (by simp)).mono ?_
 rintro v h' ⟨rfl,rfl⟩
 simp only [Zbg]
 exact ⟨by rw [Yhh],by trivial⟩
noncomputable def Yfu (s v:List Nat):Int:=if Zpz s && Zoq v then (s.count (v.headD 0):Nat) else -1
theorem Zvd {h:Zab} (s v:List Nat) (hs:s.length≤1048576):Zag pg Zji [.str s,.str v] h fun x h'=>x=.int .i64 (Yfu s v)∧Zbb h.length h h':=by
 apply Zdx.call
 refine (Zlr s (by omega) h).mono ?_
 rintro x h1 ⟨rfl,s1⟩
 simp only [Zau]
 refine Zci (fun hb=>⟨by unfold Yfu; rw [hb]; rfl,s1⟩) (fun hb=>?_)
 match v with
 | []=>exact Zid (fun _=>⟨by unfold Yfu; rw [hb]; rfl,s1⟩) (fun h1=>by simp at h1)
 | c :: d :: r=>exact Zid (fun _=>⟨by unfold Yfu; rw [hb]; rfl,s1⟩) (fun h1=>by simp at h1; omega)
 | [c]=>
  refine Zid (fun h1=>by simp at h1) (fun _=>?_)
  refine ⟨⟨by omega,by simp⟩,?_⟩
  simp only [Int.toNat_zero,List.getD_cons_zero]
  refine (Zok c).mono ?_
  rintro x h2 ⟨rfl,rfl⟩
  simp only [Zau]
  refine Zci (fun hv=>⟨by unfold Yfu; rw [hb,show Zoq [c]=Zhj c from rfl,hv]; rfl,s1⟩) (fun hv=>?_)
  apply Zdx.J3i
  refine Zdx.L5ind _ _ _ _ (J:=fun (g:Nat) x5 x23 h'=>x23=(g:Int)∧g≤s.length∧x5=((s.take g).count c:Nat)∧h'=h2) (fun g=>s.length - g) ?_ 0 _ _ _ ⟨rfl,by omega,by simp,rfl⟩
  rintro g x5 x23 h' ⟨rfl,hg,rfl,rfl⟩ R hR
  unfold Zdx.L5t
  refine Zaq (fun hlt=>?_) (fun hge=>?_)
  ·have hg':g < s.length:=by omega
   refine ⟨⟨by omega,by omega⟩,⟨by omega,by simp⟩,?_⟩
   simp only [Int.toNat_zero,List.getD_cons_zero,Int.toNat_natCast,Zho hg']
   have hc:=List.count_le_length (a:=c) (l:=s.take g)
   rw [List.length_take] at hc
   have htk:(s.take (g + 1)).count c=(s.take g).count c + if s[g]=c then 1 else 0:=by
    rw [List.take_succ_eq_append_getElem hg',List.count_append]; simp [List.count_cons]
   refine Zgv (fun he=>?_) (fun he=>?_)
   ·apply Zdx.J9i
    rw [Zcp (by omega),Zcp (by omega)]
    exact hR (g + 1) _ _ _ (by omega) ⟨rfl,by omega,by rw [htk,if_pos (by omega)],rfl⟩
   ·apply Zdx.J9i
    rw [Zcp (by omega)]
    exact hR (g + 1) _ _ _ (by omega) ⟨rfl,by omega,by rw [htk,if_neg (by omega)]; rfl,rfl⟩
  ·apply Zdx.A5x0i
   have:g=s.length:=by omega
   subst this
   rw [List.take_length]
   refine ⟨?_,s1⟩
   unfold Yfu
   rw [hb,show Zoq [c]=Zhj c from rfl,hv]; rfl
theorem Zsw {h:Zab} (s:List Nat) (hs:s.length≤1048576):Zag pg Zja [.str s] h fun v h'=>v=.str (if Zpz s=true then Znv s else [])∧Zbb h.length h h':=by
 apply Zfe.call
 simp only [Zbh]
 have hlist:(h ++ [Zbv.cells Zdv [.str [88],.str [89],.str [90],.str [120],.str [121],.str [122]] false])[h.length]?=some (.cells Zdv [.str [88],.str [89],.str [90],.str [120],.str [121],.str [122]] false):=by simp
 refine Zfe.L3ind _ _ _ _ _ _ _ (J:=fun (g:Nat) x3 x8 h'=>x8=(g:Int)∧g≤6∧Zbb h.length h h'∧h'[h.length]?=some (.cells Zdv [.str [88],.str [89],.str [90],.str [120],.str [121],.str [122]] false)∧x3=if Zpz s=true then (Zng.take g).filter fun v=>decide (v∈s) else []) (fun g=>6 - g) ?_ 0 _ _ _
  ⟨rfl,by omega,Zan,hlist,by simp⟩
 rintro g x3 x8 h' ⟨rfl,hg,hS,hl,rfl⟩ R hR
 unfold Zfe.L3t
 refine Zaq (fun hlt=>?_) (fun hge=>?_)
 ·have hlt':g < 6:=by omega
  have hc:∃ c,Zng[g]?=some c∧Zhj c=true∧Zaf h' (.ptr (some (h.length,0 + (g:Int).toNat * 1)))=some (.str [c]):=by
   rw [Zba hl,Int.toNat_natCast]
   match g,hlt' with
   | 0,_ | 1,_ | 2,_ | 3,_ | 4,_ | 5,_=>exact ⟨_,rfl,rfl,rfl⟩
  obtain ⟨c,hc1,hcv,hc2⟩:=hc
  simp only [Zbd,hc2,Zaj]
  refine ⟨by omega,(Zvd s [c] hs).mono ?_⟩
  rintro v h2 ⟨rfl,s2⟩
  simp only [Zbg]
  have htk:Zng.take (g + 1)=Zng.take g ++ [c]:=by rw [List.take_succ,hc1]; rfl
  have hS2:=hS.trans (s2.mono hS.le)
  have hl2:h2[h.length]?=some (.cells Zdv [.str [88],.str [89],.str [90],.str [120],.str [121],.str [122]] false):=by rw [s2.eq _ (Own.lt hl)]; exact hl
  have hcn:decide (Yfu s [c] > 0)=(Zpz s && decide (c∈s)):=by
   unfold Yfu
   rw [show Zoq [c]=Zhj c from rfl,hcv]
   cases hb:Zpz s with
   | false=>rfl
   | true=>
    simp only [Bool.and_self,if_true,Bool.true_and,List.headD_cons]
    rw [Bool.eq_iff_iff]; simp [List.count_pos_iff]
  have hbd:(if Zpz s=true then (Zng.take g).filter fun v=>decide (v∈s) else []).length≤6:=by
   split
   ·exact Nat.le_trans (List.length_filter_le _ _) (by simp; omega)
   ·simp
  rw [hcn]
  refine Zfg (fun hb=>?_) (fun hb=>?_)
  ·simp only [Bool.and_eq_true] at hb
   refine ⟨by simp only [List.length_cons,List.length_nil]; omega,?_⟩
   apply Zfe.J7i
   rw [Zcp (by omega)]
   refine hR (g + 1) _ _ _ (by omega) ⟨rfl,by omega,hS2,hl2,?_⟩
   rw [if_pos hb.1,if_pos hb.1,htk,List.filter_append]; simp [hb.2]
  ·apply Zfe.J7i
   rw [Zcp (by omega)]
   refine hR (g + 1) _ _ _ (by omega) ⟨rfl,by omega,hS2,hl2,?_⟩
   cases ht:Zpz s with
   | false=>simp
   | true=>rw [ht,Bool.true_and] at hb; rw [htk,List.filter_append]; simp; simpa using hb
 ·apply Zfe.A3x0i
  have:g=6:=by omega
  subst this
  exact ⟨rfl,hS⟩
theorem Ycp {h:Zab} (x y:List Nat) (hx:x.length≤1048576) (hy:y.length≤1048576):Zag pg Zjl [.str x,.str y] h fun v h'=>v=.bool (x.all fun c=>decide (c∈y))∧h'=h:=by
 apply Zgc.call
 refine Zgc.L2ind _ _ _ _ (J:=fun (g:Nat) x8 h'=>x8=(g:Int)∧g≤x.length∧h'=h∧(x.take g).all (fun c=>decide (c∈y))=true) (fun g=>x.length - g) ?_ 0 _ _ ⟨rfl,by omega,rfl,by simp⟩
 rintro g x8 h' ⟨rfl,hg,rfl,hk⟩ R hR
 unfold Zgc.L2t
 refine Zaq (fun hlt=>?_) (fun hge=>?_)
 ·have hg':g < x.length:=by omega
  refine ⟨⟨by omega,by omega⟩,?_⟩
  simp only [Int.toNat_natCast,Zho hg']
  refine (Zxf y x[g] (by omega)).mono ?_
  rintro v h2 ⟨rfl,rfl⟩
  simp only [Zbg]
  have hix:decide (Zpu y x[g] < 0)=!decide (x[g]∈y):=by
   by_cases hm:x[g]∈y
   ·have:=(Ztq y x[g]).2 hm
    simp [hm]; omega
   ·rw [Ztt hm]; simp [hm]
  rw [hix]
  refine Zci (fun hb=>⟨by rw [Zmr hg' hb],by trivial⟩) (fun hb=>?_)
  rw [Zcp (by omega)]
  exact hR (g + 1) _ _ (by omega) ⟨rfl,by omega,rfl,Zeo hg' hk hb⟩
 ·apply Zgc.A2x0i
  have:g=x.length:=by omega
  subst this
  rw [List.take_length] at hk
  exact ⟨by rw [hk],by trivial⟩

theorem Zyi {cs:List Nd} {ct tt:List Nat} {ns:List Nd} (h1:Zhl cs=true) (h2:Zfs cs ct=true) (h3:Zpz tt=true) (h4:tt.length≤20) (h5:Zoq tt=false) (h6:ns.length≤3):Ziw cs ((ct,tt),ns)=ns.all (Zhz cs tt):=by
 unfold Ziw; simp [h1,h2,h3,h4,h5,h6]
theorem Zlw {h:Zab} {a a1 a2:Pt} {n c n1 c1 n2 c2:Nat} {e e1 e2:Bool} {cs ns:List Nd} {ct tt:List Nat} (r:Row h.length h a (n * 2) (Zdf eP cs)) (hc:n≤c) (hn:n≤1048576) (hs:∀ p∈cs,p.2.length≤1048576)
  (r2:Row h.length h a2 (n2 * 2) (Zdf eP ns)) (hn2:n2≤1048576) (hns:∀ p∈ns,p.2.length≤1048576) (htt:tt.length≤1048576) :
  Zag pg Zgk [.agg [.slice a n c e,.slice a1 n1 c1 e1],.agg [.str ct,.str tt,.slice a2 n2 c2 e2]] h fun v h'=>v=.bool (Ziw cs ((ct,tt),ns))∧Zbb h.length h h':=by
 have hl:cs.length=n:=by have:=r.1; rw [Zbl Zdg] at this; omega
 have hl2:ns.length=n2:=by have:=r2.1; rw [Zbl Zdg] at this; omega
 apply Zcf.call
 simp only [Zbh]
 generalize hh0:h ++ [Zbv.cells Zac [.slice a n c e,.slice a1 n1 c1 e1] false]=h0
 generalize hh1:h0 ++ [Zbv.cells Zaa [.str ct,.str tt,.slice a2 n2 c2 e2] false]=h1
 have s0:Zbb h.length h h0:=by rw [← hh0]; exact Zan
 have s01:Zbb h0.length h0 h1:=by rw [← hh1]; exact Zan
 have s1:Zbb h.length h h1:=s0.trans (s01.mono s0.le)
 have hl0:h0.length=h.length + 1:=by rw [← hh0]; simp
 have hl1:h1.length=h.length + 2:=by rw [← hh1]; simp [hl0]
 have w1:h1[h.length]?=some (.cells Zac [.slice a n c e,.slice a1 n1 c1 e1] false):=by rw [← hh1,Zvy (by omega),← hh0]; simp
 have i1:h1[h0.length]?=some (.cells Zaa [.str ct,.str tt,.slice a2 n2 c2 e2] false):=by rw [← hh1]; simp
 rw [Zhu w1 (by simp)]
 simp only [List.drop_zero,List.take_succ_cons,List.take_zero,Zar,Zah,Zae,Zal]
 refine (Zmh (r.same' s1) hc hn hs).mono ?_
 rintro v h2 ⟨rfl,s2⟩
 have S2:Zbb h.length h h2:=s1.trans (s2.mono (by omega))
 have w2:h2[h.length]?=some (.cells Zac [.slice a n c e,.slice a1 n1 c1 e1] false):=by rw [s2.eq _ (by omega)]; exact w1
 have i2:h2[h0.length]?=some (.cells Zaa [.str ct,.str tt,.slice a2 n2 c2 e2] false):=by rw [s2.eq _ (by omega)]; exact i1
 simp only [Zau]
 refine Zci (fun hb=>⟨by unfold Ziw; rw [hb]; rfl,S2⟩) (fun b1=>?_)
 simp only [Nat.add_zero,Nat.zero_add,Zba w2,Zba i2,List.getElem?_cons_succ,List.getElem?_cons_zero,Zae,Zaj]
 refine (Zsz (r.same' S2) (by omega)).mono ?_
 rintro v h3 ⟨rfl,s3⟩
 have hle2:=s2.le
 have S3:Zbb h.length h h3:=S2.trans (s3.mono S2.le)
 have i3:h3[h0.length]?=some (.cells Zaa [.str ct,.str tt,.slice a2 n2 c2 e2] false):=by rw [s3.eq _ (by omega)]; exact i2
 have w3:h3[h.length]?=some (.cells Zac [.slice a n c e,.slice a1 n1 c1 e1] false):=by rw [s3.eq _ (by omega)]; exact w2
 simp only [Zau]
 refine Zci (fun hb=>⟨by unfold Ziw; rw [b1,hb]; rfl,S3⟩) (fun b2=>?_)
 simp only [Zba i3,List.getElem?_cons_succ,List.getElem?_cons_zero,Zaj]
 refine (Zpm tt h3).mono ?_
 rintro v h4 ⟨rfl,s4⟩
 have hle3:=s3.le
 have S4:Zbb h.length h h4:=S3.trans (s4.mono S3.le)
 have i4:h4[h0.length]?=some (.cells Zaa [.str ct,.str tt,.slice a2 n2 c2 e2] false):=by rw [s4.eq _ (by omega)]; exact i3
 have w4:h4[h.length]?=some (.cells Zac [.slice a n c e,.slice a1 n1 c1 e1] false):=by rw [s4.eq _ (by omega)]; exact w3
 simp only [Zau]
 refine Zci (fun hb=>⟨by unfold Ziw; rw [b1,b2,hb]; rfl,S4⟩) (fun b3=>?_)
 simp only [Zba i4,List.getElem?_cons_succ,List.getElem?_cons_zero,Zaj]
 refine Zaq (fun hb=>⟨by unfold Ziw; rw [b1,b2,b3]; simp [show ¬ tt.length≤20 by omega],S4⟩) (fun b4=>?_)
 refine (Ydv tt).mono ?_
 rintro v h5 ⟨rfl,rfl⟩
 simp only [Zau]
 refine Zfg (fun hb=>⟨by unfold Ziw; rw [hb]; simp,S4⟩) (fun b5=>?_)
 simp only [Zba i4,List.getElem?_cons_succ,List.getElem?_cons_zero,Zae]
 refine Zaq (fun hb=>⟨by unfold Ziw; simp [show ¬ ns.length≤3 by omega],S4⟩) (fun b6=>?_)
 rw [Zyi b1 b2 b3 (by omega) b5 (by omega)]
 apply Zcf.J3i
 simp only [Nat.zero_add,Zba i4,List.getElem?_cons_succ,List.getElem?_cons_zero,Zae]
 have hle4:=s4.le
 refine Zcf.L4ind _ _ _ _ _ _ _ _ _ _ (J:=fun (g:Nat) x50 h'=>x50=(g:Int)∧g≤n2∧Zbb h5.length h5 h'∧(ns.take g).all (Zhz cs tt)=true) (fun g=>n2 - g) ?_ 0 _ _ ⟨rfl,by omega,Zbb.refl _ _,rfl⟩
 rintro g x50 h' ⟨rfl,hg,hS,hk⟩ R hR
 have SS:Zbb h.length h h':=S4.trans (hS.mono S4.le)
 unfold Zcf.L4t
 refine Zaq (fun hlt=>?_) (fun hge=>?_)
 ·obtain ⟨i,o,hgl,rfl,hil,hr,_⟩:=(r2.same SS).pr (k:=g) (by omega)
  simp only [Zbd,Int.toNat_natCast,hr,Zar,Zah,Zal,Zaj,Zbh]
  rw [Znm]
  have hlh:=hS.le
  generalize hq:h' ++ [Zbv.cells Zap [.str ns[g].1,.str ns[g].2] false]=hq'
  have sq:Zbb h'.length h' hq':=by rw [← hq]; exact Zan
  have hql:hq'.length=h'.length + 1:=by rw [← hq]; simp
  have nq:hq'[h'.length]?=some (.cells Zap [.str ns[g].1,.str ns[g].2] false):=by rw [← hq]; simp
  have wq:hq'[h.length]?=some (.cells Zac [.slice a n c e,.slice a1 n1 c1 e1] false):=by rw [sq.eq _ (by omega),hS.eq _ (by omega)]; exact w4
  have iq:hq'[h0.length]?=some (.cells Zaa [.str ct,.str tt,.slice (some (i,o)) n2 c2 e2] false):=by rw [sq.eq _ (by omega),hS.eq _ (by omega)]; exact i4
  simp only [Zam,Nat.add_zero,Nat.zero_add,Zba wq,Zba nq,List.getElem?_cons_succ,List.getElem?_cons_zero,Zae,Zaj]
  have Sq:Zbb h.length h hq':=SS.trans (sq.mono SS.le)
  refine ⟨by omega,(Zsz (r.same' Sq) (by omega)).mono ?_⟩
  rintro v k3 ⟨rfl,t3⟩
  have T3:=Sq.trans (t3.mono Sq.le)
  have n3:k3[h'.length]?=some (.cells Zap [.str ns[g].1,.str ns[g].2] false):=by rw [t3.eq _ (by omega)]; exact nq
  simp only [Zau]
  have fail:∀ hx,Zbb h.length h hx→Zhz cs tt ns[g]=false→(Zai.bool false=Zai.bool (ns.all (Zhz cs tt))∧Zbb h.length h hx):=fun hx hs hf=>⟨by rw [Zmr hgl hf],hs⟩
  refine Zci (fun hb=>fail _ T3 (by unfold Zhz; rw [hb]; rfl)) (fun m1=>?_)
  simp only [Zba n3,List.getElem?_cons_succ,List.getElem?_cons_zero,Zaj]
  refine (Zpm _ k3).mono ?_
  rintro v k4 ⟨rfl,t4⟩
  have ht3:=t3.le
  have T4:=T3.trans (t4.mono T3.le)
  have n4:k4[h'.length]?=some (.cells Zap [.str ns[g].1,.str ns[g].2] false):=by rw [t4.eq _ (by omega)]; exact n3
  simp only [Zau]
  refine Zci (fun hb=>fail _ T4 (by unfold Zhz; rw [m1,hb]; rfl)) (fun m2=>?_)
  simp only [Zba n4,List.getElem?_cons_succ,List.getElem?_cons_zero,Zaj]
  refine Zaq (fun hb=>fail _ T4 (by unfold Zhz; simp [show ¬ ns[g].2.length≤20 by omega])) (fun m3=>?_)
  apply Zcf.J8i
  simp only [Nat.zero_add,Zba n4,List.getElem?_cons_succ,List.getElem?_cons_zero,Zaj]
  refine (Ygh _ k4).mono ?_
  rintro v k5 ⟨t5,av,nv,cv,ev,rfl,hrow⟩
  simp only [Zae]
  have ht4:=t4.le
  have ht5:=t5.le
  have T5:=T4.trans (t5.mono T4.le)
  have hvl:(Znv ns[g].2).length=nv:=by have:=hrow.1; simpa using this
  have hv6:(Znv ns[g].2).length≤6:=List.length_filter_le _ _
  have hni:Zhz cs tt ns[g]=(Znv ns[g].2).all fun v=>decide (v∈tt):=by unfold Zhz; rw [m1,m2]; simp [show ns[g].2.length≤20 by omega]
  have i5:k5[h0.length]?=some (.cells Zaa [.str ct,.str tt,.slice (some (i,o)) n2 c2 e2] false):=by rw [t5.eq _ (by omega),t4.eq _ (by omega),t3.eq _ (by omega)]; exact iq
  refine Zcf.L9ind _ _ _ _ _ _ _ _ _ _ _ _ _ _ _ _ _ (J:=fun (q:Nat) x76 h6=>x76=(q:Int)∧q≤nv∧h6=k5∧((Znv ns[g].2).take q).all (fun v=>decide (v∈tt))=true) (fun q=>nv - q) ?_ 0 _ _ ⟨rfl,by omega,rfl,rfl⟩
  rintro q x76 h6 ⟨rfl,hq6,rfl,hk6⟩ R9 hR9
  unfold Zcf.L9t
  refine Zaq (fun hlt6=>?_) (fun hge6=>?_)
  ·obtain ⟨iv,ov,rfl,_,hcv⟩:=hrow.at (k:=q) (by omega)
   rw [Zyk,List.getElem?_map,List.getElem?_eq_getElem (show q < (Znv ns[g].2).length by omega)] at hcv
   simp only [Option.map_some] at hcv
   simp only [Zbd,Int.toNat_natCast,Nat.mul_one,hcv,Zaj,Nat.add_zero,Nat.zero_add,Zba i5,List.getElem?_cons_succ,List.getElem?_cons_zero,one]
   refine ⟨by omega,Zjx.mono ?_⟩
   rintro v k7 ⟨rfl,rfl⟩
   simp only [Zau]
   refine Zci (fun hb=>fail _ T5 (by rw [hni]; exact Zmr (by omega) hb)) (fun d1=>?_)
   rw [Zcp (by omega)]
   exact hR9 (q + 1) _ _ (by omega) ⟨rfl,by omega,rfl,Zeo (by omega) hk6 d1⟩
  ·apply Zcf.A9x2i
   apply Zcf.J14i
   have:q=nv:=by omega
   subst this
   rw [List.take_of_length_le (by omega)] at hk6
   rw [Zcp (by omega)]
   refine hR (g + 1) _ _ (by omega) ⟨rfl,by omega,?_,Zeo hgl hk (by rw [hni]; exact hk6)⟩
   exact hS.trans ((sq.mono hS.le).trans ((t3.mono (by omega)).trans ((t4.mono (by omega)).trans (t5.mono (by omega)))))
 ·apply Zcf.A4x0i
  have:g=n2:=by omega
  subst this
  rw [List.take_of_length_le (by omega)] at hk
  exact ⟨by rw [hk],SS⟩
end Go.Sim

set_option linter.unusedVariables false
set_option linter.unusedSimpArgs false
set_option maxRecDepth 20000
namespace Go.Sim
open Go Go.RowKit

theorem Zwp (x t:List Nat):((Znv x).all fun c=>decide (c∈Znv t))=(Znv x).all fun c=>decide (c∈t):=by
 rw [Bool.eq_iff_iff,List.all_eq_true,List.all_eq_true]
 constructor
 ·intro h c hc
  have:=h c hc
  simp only [Znv,decide_eq_true_eq,List.mem_filter] at this ⊢
  exact this.2
 ·intro h c hc
  have h1:=h c hc
  have hv:c∈Zng:=(List.mem_filter.1 hc).1
  simp only [Znv,decide_eq_true_eq,List.mem_filter] at h1 ⊢
  exact ⟨hv,h1⟩
theorem Zkv {h:Zab} {a a1 a2:Pt} {n c n1 c1 n2 c2:Nat} {e e1 e2:Bool} {cs ns:List Nd} {ct tt:List Nat} (r:Row h.length h a (n * 2) (Zdf eP cs)) (hc:n≤c) (hn:n≤1048576) (hs:∀ p∈cs,p.2.length≤1048576) (hb256:∀ p∈cs,∀ b∈p.1,b < 256)
  (r2:Row h.length h a2 (n2 * 2) (Zdf eP ns)) (hn2:n2≤1048576) (hns:∀ p∈ns,p.2.length≤1048576) (htt:tt.length≤1048576) :
  Zag pg Zgm [.agg [.slice a n c e,.slice a1 n1 c1 e1],.agg [.str ct,.str tt,.slice a2 n2 c2 e2]] h fun v h'=>v=.bool (Ziw cs ((ct,tt),ns))∧Zbb h.length h h':=by
 have hl:cs.length=n:=by have:=r.1; rw [Zbl Zdg] at this; omega
 have hl2:ns.length=n2:=by have:=r2.1; rw [Zbl Zdg] at this; omega
 apply Zdj.call
 simp only [Zbh]
 generalize hh0:h ++ [Zbv.cells Zac [.slice a n c e,.slice a1 n1 c1 e1] false]=h0
 generalize hh1:h0 ++ [Zbv.cells Zaa [.str ct,.str tt,.slice a2 n2 c2 e2] false]=h1
 have s0:Zbb h.length h h0:=by rw [← hh0]; exact Zan
 have s01:Zbb h0.length h0 h1:=by rw [← hh1]; exact Zan
 have s1:Zbb h.length h h1:=s0.trans (s01.mono s0.le)
 have hl0:h0.length=h.length + 1:=by rw [← hh0]; simp
 have hl1:h1.length=h.length + 2:=by rw [← hh1]; simp [hl0]
 have w1:h1[h.length]?=some (.cells Zac [.slice a n c e,.slice a1 n1 c1 e1] false):=by rw [← hh1,Zvy (by omega),← hh0]; simp
 have i1:h1[h0.length]?=some (.cells Zaa [.str ct,.str tt,.slice a2 n2 c2 e2] false):=by rw [← hh1]; simp
 simp only [Nat.add_zero,Zba w1,List.getElem?_cons_zero,Zae]
 refine (Zmg (r.same' s1) hc hn hs hb256).mono ?_
 rintro v h2 ⟨rfl,s2⟩
 have S2:Zbb h.length h h2:=s1.trans (s2.mono (by omega))
 have w2:h2[h.length]?=some (.cells Zac [.slice a n c e,.slice a1 n1 c1 e1] false):=by rw [s2.eq _ (by omega)]; exact w1
 have i2:h2[h0.length]?=some (.cells Zaa [.str ct,.str tt,.slice a2 n2 c2 e2] false):=by rw [s2.eq _ (by omega)]; exact i1
 simp only [Zau]
 refine Zci (fun hb=>⟨by unfold Ziw; rw [hb]; rfl,S2⟩) (fun b1=>?_)
 rw [Zhu w2 (by simp)]
 simp only [List.drop_zero,List.take_succ_cons,List.take_zero,Zar,Zah,Zal,Nat.zero_add,Zba i2,List.getElem?_cons_succ,List.getElem?_cons_zero,Zae,Zaj]
 refine (Zpj (r.same' S2) (by omega)).mono ?_
 rintro v h3 ⟨rfl,s3⟩
 have hle2:=s2.le
 have S3:Zbb h.length h h3:=S2.trans (s3.mono S2.le)
 have i3:h3[h0.length]?=some (.cells Zaa [.str ct,.str tt,.slice a2 n2 c2 e2] false):=by rw [s3.eq _ (by omega)]; exact i2
 have w3:h3[h.length]?=some (.cells Zac [.slice a n c e,.slice a1 n1 c1 e1] false):=by rw [s3.eq _ (by omega)]; exact w2
 simp only [Zbg,Zqf]
 refine Zci (fun hb=>⟨by unfold Ziw; rw [b1,hb]; rfl,S3⟩) (fun b2=>?_)
 simp only [Zba i3,List.getElem?_cons_succ,List.getElem?_cons_zero,Zaj]
 refine (Zlr tt (by omega) h3).mono ?_
 rintro v h4 ⟨rfl,s4⟩
 have hle3:=s3.le
 have S4:Zbb h.length h h4:=S3.trans (s4.mono S3.le)
 have i4:h4[h0.length]?=some (.cells Zaa [.str ct,.str tt,.slice a2 n2 c2 e2] false):=by rw [s4.eq _ (by omega)]; exact i3
 have w4:h4[h.length]?=some (.cells Zac [.slice a n c e,.slice a1 n1 c1 e1] false):=by rw [s4.eq _ (by omega)]; exact w3
 simp only [Zau]
 refine Zci (fun hb=>⟨by unfold Ziw; rw [b1,b2,hb]; rfl,S4⟩) (fun b3=>?_)
 simp only [Zba i4,List.getElem?_cons_succ,List.getElem?_cons_zero,Zaj]
 refine Zaq (fun hb=>⟨by unfold Ziw; rw [b1,b2,b3]; simp [show ¬ tt.length≤20 by omega],S4⟩) (fun b4=>?_)
 have hvh:=Yjj b3
 have hne:=Yhb b3
 have htl:0 < tt.length:=by cases tt with | nil=>exact absurd rfl hne | cons=>simp
 refine ⟨⟨by omega,by omega⟩,?_⟩
 have hgd:tt.getD (Int.toNat 0) 0=tt.headD 0:=by cases tt <;> rfl
 rw [hgd]
 refine (Zok _).mono ?_
 rintro v h5 ⟨rfl,rfl⟩
 simp only [Zau,← hvh]
 refine Zfg (fun hb=>⟨by unfold Ziw; rw [hb]; simp,S4⟩) (fun b5=>?_)
 simp only [Zba i4,List.getElem?_cons_succ,List.getElem?_cons_zero,Zae]
 refine Zaq (fun hb=>⟨by unfold Ziw; simp [show ¬ ns.length≤3 by omega],S4⟩) (fun b6=>?_)
 rw [Zyi b1 b2 b3 (by omega) b5 (by omega)]
 apply Zdj.J3i
 simp only [Nat.zero_add,Zba i4,List.getElem?_cons_succ,List.getElem?_cons_zero,Zae]
 have hle4:=s4.le
 refine Zdj.L4ind _ _ _ _ _ _ _ _ _ _ (J:=fun (g:Nat) x50 h'=>x50=(g:Int)∧g≤n2∧Zbb h5.length h5 h'∧(ns.take g).all (Zhz cs tt)=true) (fun g=>n2 - g) ?_ 0 _ _ ⟨rfl,by omega,Zbb.refl _ _,rfl⟩
 rintro g x50 h' ⟨rfl,hg,hS,hk⟩ R hR
 have SS:Zbb h.length h h':=S4.trans (hS.mono S4.le)
 unfold Zdj.L4t
 refine Zaq (fun hlt=>?_) (fun hge=>?_)
 ·obtain ⟨i,o,hgl,rfl,hil,hr,_⟩:=(r2.same SS).pr (k:=g) (by omega)
  simp only [Zbd,Int.toNat_natCast,hr,Zar,Zah,Zal,Zaj,Zbh]
  rw [Znm]
  have hlh:=hS.le
  generalize hq:h' ++ [Zbv.cells Zap [.str ns[g].1,.str ns[g].2] false]=hq'
  have sq:Zbb h'.length h' hq':=by rw [← hq]; exact Zan
  have hql:hq'.length=h'.length + 1:=by rw [← hq]; simp
  have nq:hq'[h'.length]?=some (.cells Zap [.str ns[g].1,.str ns[g].2] false):=by rw [← hq]; simp
  have wq:hq'[h.length]?=some (.cells Zac [.slice a n c e,.slice a1 n1 c1 e1] false):=by rw [sq.eq _ (by omega),hS.eq _ (by omega)]; exact w4
  have iq:hq'[h0.length]?=some (.cells Zaa [.str ct,.str tt,.slice (some (i,o)) n2 c2 e2] false):=by rw [sq.eq _ (by omega),hS.eq _ (by omega)]; exact i4
  have row:∀ {hx:Zab},hx[h.length]?=some (.cells Zac [.slice a n c e,.slice a1 n1 c1 e1] false)→Zax hx (.ptr (some (h.length,0))) 2=some [.slice a n c e,.slice a1 n1 c1 e1]:=fun w=>by rw [Zhu w (by simp)]; rfl
  simp only [Zam,Nat.add_zero,Nat.zero_add,row wq,Zba nq,List.getElem?_cons_succ,List.getElem?_cons_zero,Zar,Zah,Zal,Zae,Zaj,true_and]
  have Sq:Zbb h.length h hq':=SS.trans (sq.mono SS.le)
  refine ⟨by omega,(Zpj (r.same' Sq) (by omega)).mono ?_⟩
  rintro v k3 ⟨rfl,t3⟩
  have T3:=Sq.trans (t3.mono Sq.le)
  have n3:k3[h'.length]?=some (.cells Zap [.str ns[g].1,.str ns[g].2] false):=by rw [t3.eq _ (by omega)]; exact nq
  have w3':k3[h.length]?=some (.cells Zac [.slice a n c e,.slice a1 n1 c1 e1] false):=by rw [t3.eq _ (by omega)]; exact wq
  have i3':k3[h0.length]?=some (.cells Zaa [.str ct,.str tt,.slice (some (i,o)) n2 c2 e2] false):=by rw [t3.eq _ (by omega)]; exact iq
  have ht3:=t3.le
  simp only [Zbg,Zqf,row w3',Zba n3,List.getElem?_cons_succ,List.getElem?_cons_zero,Zaj,true_and]
  have fail:∀ hx,Zbb h.length h hx→Zhz cs tt ns[g]=false→(Zai.bool false=Zai.bool (ns.all (Zhz cs tt))∧Zbb h.length h hx):=fun hx hs hf=>⟨by rw [Zmr hgl hf],hs⟩
  refine Zci (fun hb=>fail _ T3 (by unfold Zhz; rw [hb]; rfl)) (fun m1=>?_)
  have hnl:=hns ns[g] (List.getElem_mem hgl)
  refine (Zlr _ (by omega) k3).mono ?_
  rintro v k4 ⟨rfl,t4⟩
  have T4:=T3.trans (t4.mono T3.le)
  have ht4:=t4.le
  have n4:k4[h'.length]?=some (.cells Zap [.str ns[g].1,.str ns[g].2] false):=by rw [t4.eq _ (by omega)]; exact n3
  have w4':k4[h.length]?=some (.cells Zac [.slice a n c e,.slice a1 n1 c1 e1] false):=by rw [t4.eq _ (by omega)]; exact w3'
  have i4':k4[h0.length]?=some (.cells Zaa [.str ct,.str tt,.slice (some (i,o)) n2 c2 e2] false):=by rw [t4.eq _ (by omega)]; exact i3'
  simp only [Zau,row w4',Zba n4,Zba i4',List.getElem?_cons_succ,List.getElem?_cons_zero,Zaj,true_and]
  refine Zci (fun hb=>fail _ T4 (by unfold Zhz; rw [m1,hb]; rfl)) (fun m2=>?_)
  refine Zaq (fun hb=>fail _ T4 (by unfold Zhz; simp [show ¬ ns[g].2.length≤20 by omega])) (fun m3=>?_)
  refine (Zsw _ hnl).mono ?_
  rintro v k5 ⟨rfl,t5⟩
  have T5:=T4.trans (t5.mono T4.le)
  have ht5:=t5.le
  have n5:k5[h'.length]?=some (.cells Zap [.str ns[g].1,.str ns[g].2] false):=by rw [t5.eq _ (by omega)]; exact n4
  have w5':k5[h.length]?=some (.cells Zac [.slice a n c e,.slice a1 n1 c1 e1] false):=by rw [t5.eq _ (by omega)]; exact w4'
  have i5':k5[h0.length]?=some (.cells Zaa [.str ct,.str tt,.slice (some (i,o)) n2 c2 e2] false):=by rw [t5.eq _ (by omega)]; exact i4'
  simp only [row w5',Zba n5,Zba i5',List.getElem?_cons_succ,List.getElem?_cons_zero,Zaj,true_and]
  refine (Zsw _ htt).mono ?_
  rintro v k6 ⟨rfl,t6⟩
  have T6:=T5.trans (t6.mono T5.le)
  have ht6:=t6.le
  have n6:k6[h'.length]?=some (.cells Zap [.str ns[g].1,.str ns[g].2] false):=by rw [t6.eq _ (by omega)]; exact n5
  have w6':k6[h.length]?=some (.cells Zac [.slice a n c e,.slice a1 n1 c1 e1] false):=by rw [t6.eq _ (by omega)]; exact w5'
  have i6':k6[h0.length]?=some (.cells Zaa [.str ct,.str tt,.slice (some (i,o)) n2 c2 e2] false):=by rw [t6.eq _ (by omega)]; exact i5'
  simp only [row w6',Zba n6,Zba i6',List.getElem?_cons_succ,List.getElem?_cons_zero,Zaj,true_and]
  rw [if_pos m2,if_pos b3]
  have hvb:∀ s,(Znv s).length≤6:=fun s=>List.length_filter_le _ _
  have hv1:=hvb ns[g].2
  have hv2:=hvb tt
  refine (Ycp _ _ (by omega) (by omega)).mono ?_
  rintro v k7 ⟨rfl,rfl⟩
  have hni:Zhz cs tt ns[g]=(Znv ns[g].2).all fun v=>decide (v∈tt):=by unfold Zhz; rw [m1,m2]; simp [show ns[g].2.length≤20 by omega]
  simp only [Zau,row w6',Zba n6,Zba i6',List.getElem?_cons_succ,List.getElem?_cons_zero,Zaj,true_and,Zwp,← hni]
  refine Zci (fun hb=>fail _ T6 hb) (fun m4=>?_)
  apply Zdj.J8i
  rw [Zcp (by omega)]
  refine hR (g + 1) _ _ (by omega) ⟨rfl,by omega,?_,Zeo hgl hk m4⟩
  exact hS.trans ((sq.mono hS.le).trans ((t3.mono (by omega)).trans ((t4.mono (by omega)).trans ((t5.mono (by omega)).trans (t6.mono (by omega))))))
 ·apply Zdj.A4x0i
  have:g=n2:=by omega
  subst this
  rw [List.take_of_length_le (by omega)] at hk
  exact ⟨by rw [hk],SS⟩
end Go.Sim
