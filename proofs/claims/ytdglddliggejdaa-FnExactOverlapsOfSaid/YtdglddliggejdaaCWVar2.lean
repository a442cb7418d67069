/- A part of the proof of a statement of this seat: see the text that holds the theorem. No condition. -/
import Derived.Test.YtdglddliggejdaaPTCGrE
import Derived.Test.YtdglddliggejdaaCSplit
import Derived.Test.YtdglddliggejdaaSimX
import Derived.Test.YtdglddliggejdaaPTCMarkN
import Derived.Test.YtdglddliggejdaaNm
set_option linter.unusedVariables false
set_option linter.unusedSimpArgs false
set_option linter.all false
set_option linter.unusedVariables false
namespace Go.Sim
open Go Go.RowKit

theorem Zxv {h:Zaa} {c t:List Nat} {x:Int} (hc:c.length≤9223372036854775807) (ht:t.length≤9223372036854775807) (hx:0≤x∧x≤1048576) :
  Zad pg Zjv [.agg [.str c,.str t],.int .i64 x] h fun v h'=>∃ y,v=.int .i64 y∧Zbb h.length h h'∧(0≤y→(c.length:Int) + t.length + y=x):=by
 apply Zpy.call
 simp only [Zba]
 have s1:Zbb h.length h (h ++ [.cells Zpe [.str c,.str t] false]):=Zbb.app (Nat.le_refl _) _
 simp [Zaf]
 rw [IntWalk.i64_in _ (by omega)]
 refine Zaj (fun hlt=>s1) (fun hge=>?_)
 rw [IntWalk.i64_in _ (by omega)]
 exact Zaj (fun hlt=>s1) (fun hge=>⟨s1,by omega⟩)
theorem Zyx {h:Zaa} {c t c' t':List Nat} :
  Zad pg Zjs [.agg [.str c,.str t],.agg [.str c',.str t']] h fun v h'=>v=.bool (decide (c=c') && decide (t=t'))∧Zbb h.length h h':=by
 apply Zqh.call
 simp only [Zba]
 simp [Zaf]
 by_cases e1:c=c' <;> by_cases e2:t=t' <;> simp [e1,e2] <;> exact Zbb.app (Nat.le_refl _) _
theorem Zxy {h:Zaa} {c t:List Nat} :
  Zad pg Zjr [.agg [.str c,.str t]] h fun v h'=>v=.agg [.str c,.str t]∧Zbb h.length h h':=by
 apply Zqi.call
 simp only [Zba]
 simp [Zaf,Zbd,Zbo,Zbm,List.getElem?_append,List.getElem?_set]
 exact Zbb.app (Nat.le_refl _) _

def prs (l:List (List Nat × List Nat)):List Zag:=l.flatMap fun p=>[.str p.1,.str p.2]
@[simp] theorem Ypr:prs []=[]:=rfl
@[simp] theorem Yjd (p:List Nat × List Nat) (l:List (List Nat × List Nat)):prs (p :: l)=.str p.1 :: .str p.2 :: prs l:=rfl
@[simp] theorem Ymx (a b:List (List Nat × List Nat)):prs (a ++ b)=prs a ++ prs b:=by simp [prs]
theorem Zfr (l:List (List Nat × List Nat)):(prs l).length=l.length * 2:=by
 induction l with
 | nil=>rfl
 | cons p l ih=>simp [ih]; omega
theorem Zwn:∀ (l:List (List Nat × List Nat)) (k:Nat),(prs l).drop (k * 2)=prs (l.drop k)
 | l,0=>by simp
 | [],k + 1=>by simp
 | p :: l,k + 1=>by rw [Nat.succ_mul]; simpa using Zwn l k
theorem Row.pair {b:Nat} {h:Zaa} {a:Pt} {n:Nat} {l:List (List Nat × List Nat)} (r:Row b h a (n * 2) (prs l)) {k:Nat} (hk:k < n) :
  ∃ i o,∃ hk':k < l.length,a=some (i,o)∧i < b∧Zbo h (.ptr (some (i,o + k * 2))) 2=some [.str l[k].1,.str l[k].2]:=by
 have hl:l.length=n:=by have:=r.1; rw [Zfr] at this; omega
 obtain ⟨_,r⟩:=r
 rcases r with h0 | ⟨i,o,t,all,ro,ha,hb,hi,hle,hcs⟩
 ·omega
 ·refine ⟨i,o,by omega,ha,hb,?_⟩
  have hd:(all.drop (o + k * 2)).take 2=[.str l[k].1,.str l[k].2]:=by
   have h1:((all.drop o).take (n * 2)).drop (k * 2)=prs (l.drop k):=by rw [← hcs,Zwn]
   rw [List.drop_take,List.drop_drop] at h1
   have h2:(all.drop (o + k * 2)).take 2=((all.drop (o + k * 2)).take (n * 2 - k * 2)).take 2:=by rw [List.take_take,Nat.min_eq_left (by omega)]
   rw [h2,h1,List.drop_eq_getElem_cons (by omega)]
   simp only [Yjd,List.take_succ_cons,List.take_zero]
  simp only [Zbo,hi]
  rw [if_pos (by omega),hd]

def Zyb (l:List (List Nat × List Nat)):Nat:=(l.map fun p=>p.1.length + p.2.length).sum
theorem Ztu {l:List (List Nat × List Nat)} {g:Nat} (h:g < l.length):Zyb (l.take (g + 1))=Zyb (l.take g) + (l[g].1.length + l[g].2.length):=by
 unfold Zyb; rw [List.take_succ_eq_append_getElem h,List.map_append,List.sum_append]; simp
theorem Zzl (l:List (List Nat × List Nat)) (g:Nat):Zyb (l.take g)≤Zyb l:=by
 conv=>rhs; rw [← List.take_append_drop g l]
 unfold Zyb; rw [List.map_append,List.sum_append]; omega
theorem Ycq {l:List (List Nat × List Nat)} {g:Nat} (h:g < l.length):l[g].1.length + l[g].2.length≤Zyb l:=by
 have:=Ztu h; have:=Zzl l (g + 1); omega
theorem Yeh {h:Zaa} {a:Pt} {n c:Nat} {e:Bool} {l:List (List Nat × List Nat)} (r:Row h.length h a (n * 2) (prs l)) (hs:∀ p∈l,p.1.length≤9223372036854775807∧p.2.length≤9223372036854775807) (hn:n≤9223372036854775807) {left:Int} (hl:0≤left∧left≤1048576) :
  Zad pg Zlh [.slice a n c e,.int .i64 left] h fun v h'=>∃ x,v=.int .i64 x∧Zbb h.length h h'∧(0≤x→(n:Int) + Zyb l + x=left):=by
 have hll:l.length=n:=by have:=r.1; rw [Zfr] at this; omega
 apply Zhb.call
 rw [IntWalk.i64_in _ (by omega)]
 refine Zaj (fun hlt=>?_) (fun hge=>?_)
 ·exact ⟨_,rfl,Zbb.refl _ _,by omega⟩
 ·refine Zhb.L5ind _ _ _ _ _ (J:=fun (g:Nat) x1 x5 h'=>x5=(g:Int)∧Zbb h.length h h'∧g≤n∧0≤x1∧x1 + n + Zyb (l.take g)=left) (fun g=>n - g) ?_ 0 _ 0 h ⟨rfl,Zbb.refl _ _,by omega,by omega,by simp [Zyb]⟩
  rintro g x1 x5 h' ⟨rfl,hS,hg,h0,ht⟩ R hR
  unfold Zhb.L5t
  refine Zaj (fun hlt=>?_) (fun hge=>?_)
  ·have hlt':g < n:=by omega
   obtain ⟨i,o,hgl,rfl,hi,hc⟩:=(r.same hS).pair hlt'
   have hsl:=hs _ (List.getElem_mem hgl)
   simp only [Zau,Int.toNat_natCast,hc,Zas,Zak,Zar,Zap]
   refine ⟨by omega,(Zxv hsl.1 hsl.2 (by omega)).mono fun v h1 ⟨y,hv,hs1,hy⟩=>?_⟩
   subst hv
   simp only [Zal]
   have hS1:=hS.trans (hs1.mono hS.le)
   refine Zaj (fun hneg=>⟨_,rfl,hS1,by omega⟩) (fun hneg=>?_)
   rw [Zls hlt' (by omega)]
   have hyy:=hy (by omega)
   refine hR (g + 1) _ _ _ (by omega) ⟨rfl,hS1,by omega,by omega,?_⟩
   rw [Ztu hgl]; omega
  ·have:g=n:=by omega
   subst this
   rw [List.take_of_length_le (by omega)] at ht
   exact Zhb.A5x0i _ _ _ ⟨_,rfl,hS,by omega⟩
end Go.Sim

set_option linter.unusedVariables false
namespace Go.Sim
open Go Go.RowKit
theorem Ybp:∀ (l:List (List Nat × List Nat)) (k:Nat),(prs l).take (k * 2)=prs (l.take k)
 | l,0=>by simp
 | [],k + 1=>by simp
 | p :: l,k + 1=>by rw [Nat.succ_mul]; simpa using Ybp l k
theorem Zxu {h:Zaa} {i k:Nat} {t:TypeId} {L:List (List Nat × List Nat)} {a b:List Nat} (hi:h[i]?=some (.cells t (prs L) false)) (hk:k < L.length) :
  Zbd h (.ptr (some (i,k * 2))) [.str a,.str b]=some (h.set i (.cells t (prs (L.take k ++ [(a,b)] ++ L.drop (k + 1))) false)):=by
 have hle:k * 2 + 2≤(prs L).length:=by rw [Zfr]; omega
 simp only [Zbd,hi,List.length_cons,List.length_nil,Nat.zero_add,hle,if_true,Zbm]
 rw [Ybp,show k * 2 + (1 + 1)=(k + 1) * 2 by omega,Zwn]
 simp
theorem Yca (n:Nat):reps n [.str [],.str []]=prs (List.replicate n ([],[])):=by
 unfold reps
 induction n with
 | zero=>rfl
 | succ n ih=>rw [List.replicate_succ,List.flatten_cons,ih,List.replicate_succ]; rfl
theorem Ydk {h:Zaa} {a0 a1:Pt} {n0 n1 c0 c1:Nat} {e0 e1:Bool} {l0 l1:List (List Nat × List Nat)} (r0:Row h.length h a0 (n0 * 2) (prs l0)) (r1:Row h.length h a1 (n1 * 2) (prs l1)) (hn:n0≤4611686018427387904) (heq:l0=l1) :
  Zad pg Zld [.slice a0 n0 c0 e0,.slice a1 n1 c1 e1] h fun v h'=>v=.bool true∧Zbb h.length h h':=by
 subst heq
 have hl0:l0.length=n0:=by have:=r0.1; rw [Zfr] at this; omega
 have hl1:l0.length=n1:=by have:=r1.1; rw [Zfr] at this; omega
 have:n1=n0:=by omega
 subst this
 apply Zgy.call
 simp only [beq_self_eq_true,Bool.not_true,Zay]
 refine Zgy.L4ind _ _ _ _ _ _ _ _ _ (J:=fun (k:Nat) x5 h'=>Zbb h.length h h'∧x5=(k:Int)∧k≤n1) (fun k=>n1 - k) ?_ 0 0 h ⟨Zbb.refl _ _,rfl,by omega⟩
 rintro k x5 h' ⟨hs,rfl,hk⟩ R hR
 unfold Zgy.L4t
 refine Zaj (fun hlt=>?_) (fun hge=>Zgy.A4x0i _ _ ⟨rfl,hs⟩)
 have hlt':k < n1:=by omega
 obtain ⟨i,o,hgl,rfl,_,hc0⟩:=(r0.same hs).pair hlt'
 obtain ⟨i',o',_,rfl,_,hc1⟩:=(r1.same hs).pair hlt'
 simp only [Zau,Int.toNat_natCast,hc0,hc1,Zas,Zak,Zar,Zap,true_and]
 refine ⟨⟨by omega,by omega⟩,⟨by omega,by omega⟩,Zyx.mono fun v h1 ⟨hv,hs1⟩=>?_⟩
 subst hv
 simp only [Zah,decide_true,Bool.and_self,Bool.not_true,Zay]
 rw [Zls hlt' (by omega)]
 exact hR (k + 1) _ _ (by omega) ⟨hs.trans (hs1.mono hs.le),rfl,by omega⟩

def need (p:List Nat × List Nat):List Nat:=p.1 ++ [32] ++ p.2
end Go.Sim

set_option linter.unusedSimpArgs false
namespace Go.Sim

def Zgw:List Nat:=[88,89,90,120,121,122]
def Zpc (s:List Nat):List Nat:=Zgw.filter fun v=>decide (v∈s)
theorem Yhv (c:Nat):c∈Zgw ↔ Zbc c=true:=by simp [Zgw,Zbc]; omega
theorem Zxh {s:List Nat} (h:Zos s=true):∃ t,Zjb s=some t:=Option.isSome_iff_exists.1 h
theorem Zwz {s:List Nat} {t:Ty} (h:Zjb s=some t):Zos s=true:=by simp [Zos,h]
end Go.Sim

set_option linter.unusedSimpArgs false
namespace Go.Sim

abbrev Nd:=List Nat × List Nat
abbrev Ins:=Nd × List Nd
structure Wd where
 cs:List Nd
 is:List Ins

def Zry (s:List Nat):Bool:=match s with | [c]=>decide (65≤c∧c≤84) | _=>false
def Zhe (cs:List Nd) (c:List Nat):Bool:=cs.any fun x=>decide (x.1=c)
def Zul (cs:List Nd) (s:List Nat) (k:Nat):Bool:=Zhe cs [s.getD k 0] && (k == 0 || decide (s.getD (k - 1) 0 < s.getD k 0))
def Zyo (cs:List Nd) (s:List Nat):Bool:=(List.range s.length).all (Zul cs s)
def Zue (cs:List Nd) (i:Nat):Bool:=Zry (cs.getD i ([],[])).1 && (i == 0 || Zdy (cs.getD (i - 1) ([],[])).1 (cs.getD i ([],[])).1) && Zyo (cs.take i) (cs.getD i ([],[])).2
def Zic (cs:List Nd):Bool:=(List.range cs.length).all (Zue cs) && decide (1≤cs.length∧cs.length≤4)
def Zoo (s:List Nat):Bool:=match s with | [c]=>Zbc c | _=>false
noncomputable def Zie (cs:List Nd) (t:List Nat) (n:Nd):Bool:=Zhe cs n.1 && Zos n.2 && decide (n.2.length≤20) && (Zpc n.2).all fun v=>decide (v∈t)
noncomputable def Zlc (cs:List Nd) (i:Ins):Bool:=Zic cs && Zhe cs i.1.1 && Zos i.1.2 && decide (i.1.2.length≤20) && !Zoo i.1.2 && decide (i.2.length≤3) && i.2.all (Zie cs i.1.2)
noncomputable def Zhl (w:Wd):Bool:=Zic w.cs && decide (w.is.length≤10) && w.is.all (Zlc w.cs)
theorem Zja {f:Nat→Bool} {g:Nat} (h:(List.range g).all f=true) (k:f g=true):(List.range (g + 1)).all f=true:=by
 rw [List.range_succ,List.all_append,h]; simp [k]
theorem Zmv {f:Nat→Bool} {g n:Nat} (h:g < n) (k:f g=false):(List.range n).all f=false:=by
 rw [List.all_eq_false]; exact ⟨g,List.mem_range.2 h,by simp [k]⟩
theorem Zgq {α:Type} {f:α→Bool} {l:List α} {g:Nat} (hg:g < l.length) (h:(l.take g).all f=true) (k:f l[g]=true):(l.take (g + 1)).all f=true:=by
 rw [List.take_succ_eq_append_getElem hg,List.all_append,h]; simp [k]
theorem Zqt {α:Type} {f:α→Bool} {l:List α} {g:Nat} (hg:g < l.length) (k:f l[g]=false):l.all f=false:=by
 rw [List.all_eq_false]; exact ⟨_,List.getElem_mem hg,by simp [k]⟩
theorem Zio {α:Type} {l:List α} {g:Nat} {d:α} (h:g < l.length):l.getD g d=l[g]:=by simp [List.getD,h]
theorem Ztb {cs:List Nd} {c:List Nat} {g:Nat} (hg:g < cs.length):Zhe (cs.take (g + 1)) c=(Zhe (cs.take g) c || decide (cs[g].1=c)):=by
 unfold Zhe; rw [List.take_succ_eq_append_getElem hg,List.any_append]; simp
def Ygl (cs:List Nd) (c:List Nat):Int:=if Zhe cs c then (cs.findIdx fun x=>decide (x.1=c):Nat) else -1
theorem Ztd (cs:List Nd) (c:List Nat):decide (Ygl cs c < 0)=!Zhe cs c:=by
 unfold Ygl; cases h:Zhe cs c <;> simp
theorem Ynz {t:List Nat} (h:Zos t=true):Zoo t=Zbc (t.headD 0):=by
 obtain ⟨u,hu,rfl,_⟩:=Ybo.1 h
 cases u with
 | k c=>rfl
 | u c a=>
  have h1:=hu
  simp only [Ty.ok,Bool.and_eq_true,Bool.or_eq_true,beq_iff_eq] at h1
  rcases h1.1 with rfl | rfl <;> rfl
 | w c a b=>
  have h1:=hu
  simp only [Ty.ok,Bool.and_eq_true,beq_iff_eq] at h1
  rcases h1.1.1 with rfl; rfl
end Go.Sim

set_option linter.unusedVariables false
set_option linter.unusedSimpArgs false
set_option maxRecDepth 20000
namespace Go.Sim
open Go Go.RowKit

theorem Ygk {h:Zaa} {x a b:Int}:Zad pg Zmu [.int .i64 x,.int .i64 a,.int .i64 b] h fun v h'=>v=.bool (decide (a≤x∧x≤b))∧h'=h:=by
 apply Zst.call
 refine Zaj (fun h1=>?_) (fun h1=>?_)
 ·have:a≤x:=h1
  simp [this]
 ·have:¬ a≤x:=h1
  simp [this]
theorem Yeq {h:Zaa} (s:List Nat):Zad pg Zlj [.str s] h fun v h'=>v=.bool (Zry s)∧h'=h:=by
 apply Zot.call
 match s with
 | []=>simp [Zry]
 | [c]=>
  simp only [List.length_cons,List.length_nil,show ((0 + 1:Nat):Int)=1 from rfl,beq_self_eq_true,Zcs]
  have e1:Zdy [c] [65]=decide (c < 65):=by simp [Zdy]
  have e2:Zdy [c] [84]=decide (c < 84):=by simp [Zdy]
  rw [e1,e2]
  refine Zrd (fun h1=>?_) (fun h1=>?_)
  ·refine ⟨?_,by trivial⟩
   congr 1
   simp [Zry]
   rw [Bool.eq_iff_iff]; simp; omega
  ·refine ⟨?_,by trivial⟩
   simp [Zry]; omega
 | c :: d :: r=>
  refine Zek (fun h1=>?_) (fun h1=>⟨rfl,rfl⟩)
  simp at h1; omega
theorem Zxe {h:Zaa} (s:List Nat) (hb:∀ b∈s,b < 256):Zad pg Zjg [.str s] h fun v h'=>v=.bool (Zry s)∧h'=h:=by
 apply Znj.call
 match s,hb with
 | [],_=>simp [Zry]
 | [c],hb=>
  have hc:=hb c (by simp)
  simp only [List.length_cons,List.length_nil,show ((0 + 1:Nat):Int)=1 from rfl,beq_self_eq_true,Zcs]
  refine ⟨⟨by omega,by simp⟩,?_⟩
  simp only [Int.toNat_zero,List.getD_cons_zero]
  rw [IntWalk.i64_in _ (by omega)]
  refine Ygk.mono ?_
  rintro v h' ⟨rfl,rfl⟩
  simp only [Zah]
  refine ⟨?_,by trivial⟩
  congr 1
  simp [Zry]; rw [Bool.eq_iff_iff]; simp; omega
 | c :: d :: r,_=>
  refine Zek (fun h1=>?_) (fun h1=>⟨rfl,rfl⟩)
  simp at h1; omega
def Zdc {α:Type} (ty:TypeId) (enc:α→List Zag) (b:Nat) (h:Zaa) (a:Pt) (n:Nat) (l:List α):Prop:=l.length=n∧(n=0 ∨ ∃ i,a=some (i,0)∧b≤i∧h[i]?=some (.cells ty (Zdo enc l) false))
theorem Zdc.row {α:Type} {ty:TypeId} {enc:α→List Zag} {w b:Nat} {h:Zaa} {a:Pt} {n:Nat} {l:List α} (hw:∀ x,(enc x).length=w) (f:Zdc ty enc b h a n l):Row h.length h a (n * w) (Zdo enc l):=by
 obtain ⟨hl,h0 | ⟨i,ha,hb,hi⟩⟩:=f
 ·subst h0
  have:l=[]:=List.eq_nil_of_length_eq_zero hl
  subst this; simp; exact Row.nil
 ·rw [ha]; exact (Vec.mk1 (n:=0) (c:=0) hi).row (by rw [Zbg hw,hl])
theorem Zdc.same {α:Type} {ty:TypeId} {enc:α→List Zag} {b:Nat} {h h':Zaa} {a:Pt} {n:Nat} {l:List α} (f:Zdc ty enc b h a n l) (s:Zbb h.length h h'):Zdc ty enc b h' a n l:=
 ⟨f.1,f.2.imp id fun ⟨i,ha,hb,hi⟩=>⟨i,ha,hb,by rw [s.eq i (Own.lt hi)]; exact hi⟩⟩
end Go.Sim

set_option linter.unusedVariables false
set_option linter.unusedSimpArgs false
set_option maxRecDepth 20000
namespace Go.Sim
open Go Go.RowKit

def Zuf (a:Pt) (n:Nat) (h h':Zaa):Prop:=h.length≤h'.length∧∀ j,j < h.length→(∀ i,a=some (i,0)→n≠0→j≠i)→h'[j]?=h[j]?
theorem Zuf.refl (a:Pt) (n:Nat) (h:Zaa):Zuf a n h h:=⟨Nat.le_refl _,fun _ _ _=>rfl⟩
theorem Zuf.same {a:Pt} {n:Nat} {h h1 h2:Zaa} (o:Zuf a n h h1) (s:Zbb h1.length h1 h2):Zuf a n h h2:=⟨Nat.le_trans o.1 s.le,fun j hj hn=>by rw [s.eq j (by have:=o.1; omega)]; exact o.2 j hj hn⟩
theorem Zuf.set {n i:Nat} {h h1:Zaa} {x:Zcp} (o:Zuf (some (i,0)) n h h1) (hn:n≠0):Zuf (some (i,0)) n h (h1.set i x):=⟨by simp; exact o.1,fun j hj hne=>by rw [Zbv (fun e=>hne i rfl hn e.symm)]; exact o.2 j hj hne⟩
theorem Row.only {b:Nat} {h h':Zaa} {a a':Pt} {n m:Nat} {cs:List Zag} (r:Row b h a m cs) (o:Zuf a' n h h') (hb:∀ i,a'=some (i,0)→n≠0→b≤i):Row b h' a m cs:=by
 obtain ⟨hl,r⟩:=r
 refine ⟨hl,r.imp id ?_⟩
 rintro ⟨i,o',t,all,ro,ha,hi,hg,x⟩
 exact ⟨i,o',t,all,ro,ha,hi,by rw [o.2 i (Own.lt hg) fun j hj hn=>by have:=hb j hj hn; omega]; exact hg,x⟩
theorem Zpv {cs vs:List Zag} {o:Nat} (h:o + vs.length≤cs.length):(Zbm cs o vs).length=cs.length:=by unfold Zbm; simp; omega
theorem Yey {L:List Nd} {g:Nat} {x y:List Nat} (hg:g < L.length):Zbm (Zbm (Zdo eP L) (g * 2) [.str x]) (g * 2 + 1) [.str y]=Zdo eP (L.take g ++ (x,y) :: L.drop (g + 1)):=by
 have h1:Zdo eP L=Zdo eP (L.take g) ++ .str L[g].1 :: .str L[g].2 :: Zdo eP (L.drop (g + 1)):=by
  have e0:L=L.take g ++ L[g] :: L.drop (g + 1):=by rw [← List.drop_eq_getElem_cons hg,List.take_append_drop]
  have:=congrArg (Zdo eP) e0
  rw [Zij,Zew] at this
  exact this
 have hA:(Zdo eP (L.take g)).length=g * 2:=by rw [Zbg Zha,List.length_take]; omega
 generalize hAe:Zdo eP (L.take g)=A at *
 generalize hB:Zdo eP (L.drop (g + 1))=B at *
 rw [h1]
 have e1:Zbm (A ++ Zag.str L[g].1 :: Zag.str L[g].2 :: B) (g * 2) [.str x]=A ++ .str x :: .str L[g].2 :: B:=by
  unfold Zbm
  rw [← hA,List.take_left,show A.length + [Zag.str x].length=A.length + 1 from rfl,← List.drop_drop,List.drop_left]
  simp
 rw [e1]
 unfold Zbm
 have e2:(A ++ .str x :: .str L[g].2 :: B).take (g * 2 + 1)=A ++ [.str x]:=by rw [← hA,List.take_length_add_append]; rfl
 have e3:(A ++ .str x :: .str L[g].2 :: B).drop (g * 2 + 1 + [Zag.str y].length)=B:=by
  rw [show g * 2 + 1 + [Zag.str y].length=A.length + 2 by rw [hA]; rfl,← List.drop_drop,List.drop_left]; rfl
 rw [e2,e3]
 rw [Zij,Zew,hB,hAe]
 simp [eP]
def Zkm (k:Int) (n:Nat):List Nd:=(List.range n).map fun (j:Nat)=>(Zkq (k + 2 * j),Zkq (k + 2 * j + 1))
theorem Zgx (k:Int) (n:Nat):(Zkm k n).length=n:=by simp [Zkm]
theorem Zvj (k:Int) (n:Nat):Zkm k (n + 1)=Zkm k n ++ [(Zkq (k + 2 * n),Zkq (k + 2 * n + 1))]:=by simp [Zkm,List.range_succ]
theorem Zxt {h:Zaa} {b:Nat} {a:Pt} {n c:Nat} {e:Bool} {l:List Nd} {k:Int} (f:Zdc Zbl eP b h a n l) (hk:0≤k∧k + 2 * n≤4611686018427387000) :
  Zad pg Zji [.slice a n c e,.int .i64 k] h fun v h'=>v=.int .i64 (k + 2 * n)∧Zuf a n h h'∧Zdc Zbl eP b h' a n (Zkm k n):=by
 apply Zfl.call
 obtain ⟨hl,hf⟩:=f
 refine Zfl.L2ind _ _ _ _ _ (J:=fun (g:Nat) x1 x5 h'=>x5=(g:Int)∧g≤n∧x1=k + 2 * g∧Zuf a n h h'∧(n=0 ∨ ∃ i,a=some (i,0)∧b≤i∧h'[i]?=some (.cells Zbl (Zdo eP (Zkm k g ++ l.drop g)) false))) (fun g=>n - g) ?_ 0 _ _ _
  ⟨rfl,by omega,by simp,Zuf.refl _ _ _,by simpa [Zkm] using hf⟩
 rintro g x1 x5 h' ⟨rfl,hg,rfl,hO,hst⟩ R hR
 unfold Zfl.L2t
 refine Zaj (fun hlt=>?_) (fun hge=>?_)
 ·rcases hst with h0 | ⟨i,rfl,hbi,ho⟩
  ·omega
  have hn0:n≠0:=by omega
  have hgl:g < (Zkm k g ++ l.drop g).length:=by simp [Zgx]; omega
  have hlen:(Zdo eP (Zkm k g ++ l.drop g)).length=n * 2:=by rw [Zbg Zha]; simp [Zgx]; omega
  refine (Zir (by omega)).mono ?_
  rintro v h1 ⟨rfl,s1⟩
  simp only [Zap,Zau,Int.toNat_natCast,Nat.zero_add,Nat.add_zero]
  have ho1:h1[i]?=some (.cells Zbl (Zdo eP (Zkm k g ++ l.drop g)) false):=by rw [s1.eq i (Own.lt ho)]; exact ho
  rw [Zbk ho1 (by rw [hlen]; simp; omega)]
  simp only [Zaq]
  refine ⟨by omega,(Zir (by rw [IntWalk.i64_in _ (by omega)]; omega)).mono ?_⟩
  rintro v h2 ⟨rfl,s2⟩
  simp only [Zap]
  rw [IntWalk.i64_in (k + 2 * (g:Int) + 1) (by omega)]
  have ho2:h2[i]?=some (.cells Zbl (Zbm (Zdo eP (Zkm k g ++ l.drop g)) (g * 2) [.str (Zkq (k + 2 * g))]) false):=by rw [s2.eq i (by simp; exact Own.lt ho1)]; exact Zcc ho1
  have hlen2:(Zbm (Zdo eP (Zkm k g ++ l.drop g)) (g * 2) [.str (Zkq (k + 2 * g))]).length=n * 2:=by rw [Zpv (by rw [hlen]; simp; omega),hlen]
  rw [Zbk ho2 (by rw [hlen2]; simp; omega)]
  simp only [Zaq]
  rw [IntWalk.i64_in _ (by omega),Zbp (by omega)]
  refine ⟨by omega,hR (g + 1) _ _ _ (by omega) ⟨rfl,by omega,by omega,((hO.same s1).set hn0 |>.same s2).set hn0,.inr ⟨i,rfl,hbi,?_⟩⟩⟩
  rw [Zcc ho2,Yey hgl]
  congr 3
  rw [List.take_left' (Zgx k g),Zvj]
  have:(Zkm k g ++ l.drop g).drop (g + 1)=l.drop (g + 1):=by
   rw [← List.drop_drop,List.drop_left' (Zgx k g),List.drop_drop]
  rw [this]; simp
 ·have:g=n:=by omega
  subst this
  apply Zfl.A2x0i
  refine ⟨rfl,hO,Zgx _ _,?_⟩
  rw [List.drop_of_length_le (by omega),List.append_nil] at hst
  exact hst
theorem Zdc.only {α:Type} {ty:TypeId} {enc:α→List Zag} {b:Nat} {h h':Zaa} {a a':Pt} {n m:Nat} {l:List α} (f:Zdc ty enc b h a n l) (o:Zuf a' m h h') (hb:∀ i,a'=some (i,0)→m≠0→∀ j,a=some (j,0)→j≠i):Zdc ty enc b h' a n l:=
 ⟨f.1,f.2.imp id fun ⟨i,ha,hbi,hi⟩=>⟨i,ha,hbi,by rw [o.2 i (Own.lt hi) fun j hj hn=>hb j hj hn i ha]; exact hi⟩⟩
end Go.Sim

set_option linter.unusedVariables false
set_option linter.unusedSimpArgs false
set_option maxRecDepth 20000
namespace Go.Sim
open Go Go.RowKit

structure EI where
 c:List Nat
 t:List Nat
 a:Pt
 n:Nat
 cp:Nat
 e:Bool
 deriving Inhabited
def eN (x:EI):List Zag:=[.str x.c,.str x.t,.slice x.a x.n x.cp x.e]
theorem Ztx (x:EI):(eN x).length=3:=rfl
def Ylh (h:Zaa) (x:EI) (i:Ins):Prop:=x.c=i.1.1∧x.t=i.1.2∧Row h.length h x.a (x.n * 2) (Zdo eP i.2)
def Yfm (h:Zaa) (xs:List EI) (is:List Ins):Prop:=xs.length=is.length∧∀ (k:Nat) (x:EI) (i:Ins),xs[k]?=some x→is[k]?=some i→Ylh h x i
structure Zqk (h:Zaa) (a0:Pt) (n0 c0:Nat) (a1:Pt) (n1 c1:Nat) (w:Wd):Prop where
 cls:Row h.length h a0 (n0 * 2) (Zdo eP w.cs)
 ins:∃ xs,Row h.length h a1 (n1 * 3) (Zdo eN xs)∧Yfm h xs w.is
 le0:n0≤c0
 le1:n1≤c1
theorem Row.same' {h h':Zaa} {a:Pt} {n:Nat} {cs:List Zag} (r:Row h.length h a n cs) (s:Zbb h.length h h'):Row h'.length h' a n cs:=(r.same s).mono s.le
theorem Ylh.same {h h':Zaa} {x:EI} {i:Ins} (r:Ylh h x i) (s:Zbb h.length h h'):Ylh h' x i:=⟨r.1,r.2.1,r.2.2.same' s⟩
theorem Yfm.same {h h':Zaa} {xs:List EI} {is:List Ins} (r:Yfm h xs is) (s:Zbb h.length h h'):Yfm h' xs is:=⟨r.1,fun k x i hx hi=>(r.2 k x i hx hi).same s⟩
theorem Zqk.same {h h':Zaa} {a0 a1:Pt} {n0 c0 n1 c1:Nat} {w:Wd} (r:Zqk h a0 n0 c0 a1 n1 c1 w) (s:Zbb h.length h h'):Zqk h' a0 n0 c0 a1 n1 c1 w:=
 ⟨r.cls.same' s,r.ins.imp fun xs ⟨r1,r2⟩=>⟨r1.same' s,r2.same s⟩,r.le0,r.le1⟩
theorem Ylh.len {h:Zaa} {x:EI} {i:Ins} (r:Ylh h x i):i.2.length=x.n:=by have:=r.2.2.1; rw [Zbg Zha] at this; omega
theorem Zqk.len0 {h:Zaa} {a0 a1:Pt} {n0 c0 n1 c1:Nat} {w:Wd} (r:Zqk h a0 n0 c0 a1 n1 c1 w):w.cs.length=n0:=by have:=r.cls.1; rw [Zbg Zha] at this; omega
theorem Zqk.len1 {h:Zaa} {a0 a1:Pt} {n0 c0 n1 c1:Nat} {w:Wd} (r:Zqk h a0 n0 c0 a1 n1 c1 w):w.is.length=n1:=by
 obtain ⟨xs,r1,r2,_⟩:=r.ins
 have:=r1.1; rw [Zbg Ztx] at this; omega
theorem Zqk.inst {h:Zaa} {a0 a1:Pt} {n0 c0 n1 c1:Nat} {w:Wd} (r:Zqk h a0 n0 c0 a1 n1 c1 w) {k:Nat} (hk:k < n1) :
  ∃ i o,∃ hk':k < w.is.length,∃ a n cp e,a1=some (i,o)∧i < h.length∧Zbo h (.ptr (some (i,o + k * 3))) 3=some [.str w.is[k].1.1,.str w.is[k].1.2,.slice a n cp e]∧Zaf h (.ptr (some (i,o + k * 3)))=some (.str w.is[k].1.1)∧Zaf h (.ptr (some (i,o + k * 3 + 1)))=some (.str w.is[k].1.2)∧Zaf h (.ptr (some (i,o + k * 3 + 2)))=some (.slice a n cp e) ∧
   Row h.length h a (n * 2) (Zdo eP w.is[k].2)∧w.is[k].2.length=n:=by
 have hl:=r.len1
 obtain ⟨xs,r1,r2,r3⟩:=r.ins
 obtain ⟨i,o,hk',ha,hi,hr,hc⟩:=Row.el Ztx r1 (by omega) hk (by omega)
 have hI:=r3 k xs[k] w.is[k] (List.getElem?_eq_getElem hk') (List.getElem?_eq_getElem (by omega))
 obtain ⟨e1,e2,e3⟩:=id hI
 refine ⟨i,o,by omega,xs[k].a,xs[k].n,xs[k].cp,xs[k].e,ha,hi,?_,?_,?_,?_,e3,hI.len⟩
 ·rw [hr,eN,e1,e2]
 ·have:=hc 0 (by omega); rw [← e1]; simpa [eN] using this
 ·have:=hc 1 (by omega); rw [← e2]; simpa [eN] using this
 ·have:=hc 2 (by omega); simpa [eN] using this
theorem Row.pr {b:Nat} {h:Zaa} {a:Pt} {n:Nat} {l:List Nd} (r:Row b h a (n * 2) (Zdo eP l)) {k:Nat} (hk:k < n) :
  ∃ i o,∃ hk':k < l.length,a=some (i,o)∧i < b∧Zbo h (.ptr (some (i,o + k * 2))) 2=some [.str l[k].1,.str l[k].2]∧Zaf h (.ptr (some (i,o + k * 2)))=some (.str l[k].1)∧Zaf h (.ptr (some (i,o + k * 2 + 1)))=some (.str l[k].2):=by
 have hl:l.length=n:=by have:=r.1; rw [Zbg Zha] at this; omega
 obtain ⟨i,o,hk',ha,hi,hr,hc⟩:=Row.el Zha r hl hk (by omega)
 exact ⟨i,o,hk',ha,hi,hr,by simpa [eP] using hc 0 (by omega),by simpa [eP] using hc 1 (by omega)⟩

def Mid (lo hi:Nat) (h h':Zaa):Prop:=h.length≤h'.length∧∀ j,j < h.length→(j < lo ∨ hi≤j)→h'[j]?=h[j]?
theorem Mid.refl (lo hi:Nat) (h:Zaa):Mid lo hi h h:=⟨Nat.le_refl _,fun _ _ _=>rfl⟩
theorem Mid.trans {lo hi:Nat} {h h1 h2:Zaa} (a:Mid lo hi h h1) (b:Mid lo hi h1 h2):Mid lo hi h h2:=⟨Nat.le_trans a.1 b.1,fun j hj hn=>by rw [b.2 j (by have:=a.1; omega) hn]; exact a.2 j hj hn⟩
theorem Mid.of_same {lo hi:Nat} {h h':Zaa} (s:Zbb h.length h h'):Mid lo hi h h':=⟨s.le,fun j hj _=>s.eq j hj⟩
theorem Mid.same {lo hi:Nat} {h h1 h2:Zaa} (a:Mid lo hi h h1) (s:Zbb h1.length h1 h2):Mid lo hi h h2:=a.trans (Mid.of_same s)
theorem Mid.set {lo hi i:Nat} {h h1:Zaa} {x:Zcp} (o:Mid lo hi h h1) (h0:lo≤i) (h2:i < hi):Mid lo hi h (h1.set i x):=⟨by simp; exact o.1,fun j hj hne=>by rw [Zbv (by omega)]; exact o.2 j hj hne⟩
theorem Zuf.mid {lo hi:Nat} {a:Pt} {n:Nat} {h h':Zaa} (o:Zuf a n h h') (hb:∀ i,a=some (i,0)→n≠0→lo≤i∧i < hi):Mid lo hi h h':=⟨o.1,fun j hj hn=>o.2 j hj fun i hi h0=>by have:=hb i hi h0; omega⟩
theorem Zdc.in {α:Type} {ty:TypeId} {enc:α→List Zag} {b:Nat} {h:Zaa} {a:Pt} {n:Nat} {l:List α} (f:Zdc ty enc b h a n l):∀ i,a=some (i,0)→n≠0→b≤i∧i < h.length:=by
 intro i hi hn
 rcases f.2 with h0 | ⟨j,ha,hb,hj⟩
 ·exact absurd h0 hn
 ·rw [hi] at ha; cases ha; exact ⟨hb,Own.lt hj⟩
theorem Row.mid {lo hi b:Nat} {h h':Zaa} {a:Pt} {m:Nat} {cs:List Zag} (r:Row b h a m cs) (o:Mid lo hi h h') (hb:b≤lo):Row b h' a m cs:=by
 obtain ⟨hl,r⟩:=r
 refine ⟨hl,r.imp id ?_⟩
 rintro ⟨i,o',t,all,ro,ha,hi,hg,x⟩
 exact ⟨i,o',t,all,ro,ha,hi,by rw [o.2 i (Own.lt hg) (.inl (by omega))]; exact hg,x⟩
theorem Zdc.mid {α:Type} {ty:TypeId} {enc:α→List Zag} {lo hi b:Nat} {h h':Zaa} {a:Pt} {n:Nat} {l:List α} (f:Zdc ty enc b h a n l) (o:Mid lo hi h h') (hb:hi≤b):Zdc ty enc b h' a n l:=
 ⟨f.1,f.2.imp id fun ⟨i,ha,hbi,hi⟩=>⟨i,ha,hbi,by rw [o.2 i (Own.lt hi) (.inr (by omega))]; exact hi⟩⟩

structure Znf (b:Nat) (h:Zaa) (a0:Pt) (n0:Nat) (a1:Pt) (n1:Nat) (xs:List EI) (w:Wd):Prop where
 cls:Zdc Zbh eP b h a0 n0 w.cs
 ins:Zdc Zac eN b h a1 n1 xs
 len:xs.length=w.is.length
 need:∀ (k:Nat) (x:EI) (i:Ins),xs[k]?=some x→w.is[k]?=some i→x.c=i.1.1∧x.t=i.1.2∧Zdc Zbl eP b h x.a x.n i.2
 sep:∀ (j k:Nat) (x y:EI),j≠k→xs[j]?=some x→xs[k]?=some y→x.n≠0→y.n≠0→x.a≠y.a
 nn:∀ x∈xs,x.a≠none
 nc:a0≠none
theorem Znf.same {b:Nat} {h h':Zaa} {a0 a1:Pt} {n0 n1:Nat} {xs:List EI} {w:Wd} (f:Znf b h a0 n0 a1 n1 xs w) (s:Zbb h.length h h'):Znf b h' a0 n0 a1 n1 xs w:=
 ⟨f.cls.same s,f.ins.same s,f.len,fun k x i hx hi=>⟨(f.need k x i hx hi).1,(f.need k x i hx hi).2.1,(f.need k x i hx hi).2.2.same s⟩,f.sep,f.nn,f.nc⟩
theorem Znf.mid {lo hi b:Nat} {h h':Zaa} {a0 a1:Pt} {n0 n1:Nat} {xs:List EI} {w:Wd} (f:Znf b h a0 n0 a1 n1 xs w) (s:Mid lo hi h h') (hb:hi≤b):Znf b h' a0 n0 a1 n1 xs w:=
 ⟨f.cls.mid s hb,f.ins.mid s hb,f.len,fun k x i hx hi=>⟨(f.need k x i hx hi).1,(f.need k x i hx hi).2.1,(f.need k x i hx hi).2.2.mid s hb⟩,f.sep,f.nn,f.nc⟩
theorem Znf.rep {b:Nat} {h:Zaa} {a0 a1:Pt} {n0 c0 n1 c1:Nat} {xs:List EI} {w:Wd} (f:Znf b h a0 n0 a1 n1 xs w) (h0:n0≤c0) (h1:n1≤c1):Zqk h a0 n0 c0 a1 n1 c1 w:=
 ⟨f.cls.row Zha,⟨xs,f.ins.row Ztx,f.len,fun k x i hx hi=>⟨(f.need k x i hx hi).1,(f.need k x i hx hi).2.1,(f.need k x i hx hi).2.2.row Zha⟩⟩,h0,h1⟩
end Go.Sim

set_option linter.unusedVariables false
set_option linter.unusedSimpArgs false
set_option maxRecDepth 20000
namespace Go.Sim
open Go Go.RowKit

def one (c:Nat):List Nat:=[c]
theorem Yac:pg.underlying Zva=some (.slice Zdx):=by kernel_rfl
theorem Yfv:pg.cellsOf Zdx=1:=by kernel_rfl
theorem Yhx:pg.okElem Zdx=true:=by kernel_rfl
theorem Yib:pg.bytesOf Zdx≤127:=Nat.le_of_ble_eq_true (by kernel_rfl)
theorem Yms (s:List Nat) (h:Zaa):Zad pg Zpi [.str s] h fun v h'=>Zbb h.length h h'∧∃ a n c e,v=.slice a n c e∧Row h'.length h' a n (strs ((Zpc s).map one)):=by
 apply Zho.call
 simp only [Zba]
 have hlist:(h ++ [Zcp.cells Zdx [] false] ++ [Zcp.cells Zdx [.str [88],.str [89],.str [90],.str [120],.str [121],.str [122]] false])[h.length + 1]?=some (.cells Zdx [.str [88],.str [89],.str [90],.str [120],.str [121],.str [122]] false):=by simp
 have hlen:List.length (h ++ [Zcp.cells Zdx [] false])=h.length + 1:=by simp
 rw [hlen]
 refine Zho.L3ind _ _ _ _ _ _ _ (J:=fun (g:Nat) a3 n3 c3 e3 x9 h'=>x9=(g:Int)∧g≤6∧Zbb h.length h h'∧h'[h.length + 1]?=some (.cells Zdx [.str [88],.str [89],.str [90],.str [120],.str [121],.str [122]] false)∧n3=(((Zgw.take g).filter fun v=>decide (v∈s)).map one).length∧Vec Zdx h' a3 n3 c3 (strs (((Zgw.take g).filter fun v=>decide (v∈s)).map one))∧∀ i,a3=some (i,0)→h.length≤i∧i≠h.length + 1) (fun g=>6 - g) ?_ 0 _ _ _ _ _ _
  ⟨rfl,by omega,(Zbb.app (Nat.le_refl _) _).trans (Zbb.app (by simp) _),hlist,by simp,Vec.mk1 (by simp),fun i hi=>by cases hi; omega⟩
 rintro g a3 n3 c3 e3 x9 h' ⟨rfl,hg,hS,hl,rfl,hv,ha⟩ R hR
 unfold Zho.L3t
 refine Zaj (fun hlt=>?_) (fun hge=>?_)
 ·have hlt':g < 6:=by omega
  have hc:∃ c,Zgw[g]?=some c∧Zaf h' (.ptr (some (h.length + 1,0 + (g:Int).toNat * 1)))=some (.str [c]):=by
   rw [Zan hl,Int.toNat_natCast]
   match g,hlt' with
   | 0,_ | 1,_ | 2,_ | 3,_ | 4,_ | 5,_=>exact ⟨_,rfl,rfl⟩
  obtain ⟨c,hc1,hc2⟩:=hc
  simp only [Zau,hc2,Zap]
  refine ⟨by omega,Zkx.mono ?_⟩
  rintro v h2 ⟨rfl,rfl⟩
  simp only [Zah]
  have htk:Zgw.take (g + 1)=Zgw.take g ++ [c]:=by
   rw [List.take_succ,hc1]; rfl
  have hbd:(((Zgw.take g).filter fun v=>decide (v∈s)).map one).length≤6:=by
   rw [List.length_map]
   exact Nat.le_trans (List.length_filter_le _ _) (by simp; omega)
  refine Zaj (fun hin=>?_) (fun hout=>?_)
  ·simp only [Zba]
   refine hv.push Yac Yfv Yhx Yib (by simp) rfl (by omega) (fun h4 hl4 hi4 hk4=>?_)
   simp only [Zai]
   apply Zho.J7i
   rw [Zbp (by omega)]
   have hle:=hS.le
   refine hR (g + 1) _ _ _ _ _ _ (by omega) ⟨rfl,by omega,⟨by omega,fun j hj=>?_⟩,?_,?_,Vec.mk1 ?_,fun i hi=>by cases hi; have:=Own.lt hl; omega⟩
   ·rw [hk4 j (by omega) fun i hi=>by have:=(ha i hi).1; omega]; exact hS.eq j hj
   ·rw [hk4 _ (Own.lt hl) fun i hi=>(ha i hi).2.symm]; exact hl
   ·rw [htk,List.filter_append]; simp [hin]
   ·rw [hi4,htk,List.filter_append]; simp [hin,strs,one]
  ·apply Zho.J7i
   rw [Zbp (by omega)]
   have hf:(Zgw.take (g + 1)).filter (fun v=>decide (v∈s))=(Zgw.take g).filter fun v=>decide (v∈s):=by rw [htk,List.filter_append]; simp [hout]
   refine hR (g + 1) _ _ _ _ _ _ (by omega) ⟨rfl,by omega,hS,hl,by rw [hf],by rw [hf]; exact hv,ha⟩
 ·have:g=6:=by omega
  subst this
  apply Zho.A3x0i
  refine ⟨hS,_,_,_,_,rfl,hv.row (by simp)⟩
end Go.Sim

set_option linter.unusedVariables false
set_option linter.unusedSimpArgs false
set_option maxRecDepth 20000
namespace Go.Sim
open Go Go.RowKit

theorem Zgp {h:Zaa} {t:TypeId} {cs:List Zag} {o:Nat}:Zaf (h ++ [.cells t cs false]) (.ptr (some (h.length,o)))=cs[o]?:=Zan (t:=t) (cs:=cs) (ro:=false) (by simp)
theorem Zyr {h:Zaa} {t:TypeId} {cs:List Zag} {n:Nat} (hn:cs.length=n):Zbo (h ++ [.cells t cs false]) (.ptr (some (h.length,0))) n=some cs:=by
 rw [Zfv (show (h ++ [Zcp.cells t cs false])[h.length]?=some (.cells t cs false) by simp) (by omega)]; simp [← hn]
theorem Zav {h:Zaa} {x:Zcp}:Zbb h.length h (h ++ [x]):=Zbb.app (Nat.le_refl _) _
theorem Zrb {h:Zaa} {t:TypeId} {cs vs:List Zag} (hl:cs.length=vs.length):Zbd (h ++ [.cells t cs false]) (.ptr (some (h.length,0))) vs=some (h ++ [.cells t vs false]):=by
 rw [Zbk (show (h ++ [Zcp.cells t cs false])[h.length]?=some (.cells t cs false) by simp) (by omega)]
 simp [Zbm,hl]
theorem Zlv {h:Zaa} {t:TypeId} {x y a b:Zag}:Zbd (h ++ [.cells t [x,y] false]) (.ptr (some (h.length,0))) [a,b]=some (h ++ [.cells t [a,b] false]):=Zrb rfl
theorem Ynj {h:Zaa} {t:TypeId} {x y z a b c:Zag}:Zbd (h ++ [.cells t [x,y,z] false]) (.ptr (some (h.length,0))) [a,b,c]=some (h ++ [.cells t [a,b,c] false]):=Zrb rfl
theorem Row.sl {b:Nat} {h:Zaa} {a:Pt} {n k:Nat} {l:List Nd} (r:Row b h a (n * 2) (Zdo eP l)) (hk:k≤n) (hl:l.length=n):Row b h a (k * 2) (Zdo eP (l.take k)):=by
 obtain ⟨h1,h2⟩:=r
 have e:(Zdo eP (l.take k)).length=k * 2:=by rw [Zbg Zha,List.length_take,Nat.min_eq_left (by omega)]
 refine ⟨e,?_⟩
 rcases h2 with h0 | ⟨i,o,t,all,ro,ha,hb,hi,hle,hcs⟩
 ·exact .inl (by omega)
 ·refine .inr ⟨i,o,t,all,ro,ha,hb,hi,by omega,?_⟩
  rw [← Yff Zha,hcs,List.take_take,Nat.min_eq_left (by omega)]
theorem Ycw {b:Nat} {h:Zaa} {a:Pt} {n c k:Nat} {e:Bool} {l:List Nd} {K:Zag→Prop} (r:Row b h a (n * 2) (Zdo eP l)) (hl:l.length=n) (hk:k≤n) (hc:n≤c) {z:Int} (hz:z=k)
  (hK:∀ a' c' e',Row b h a' (k * 2) (Zdo eP (l.take k))→k≤c'→K (.slice a' k c' e')):Zms a n c e 2 none (some (.int .i64 z)) none K:=by
 subst hz
 simp only [Zms,Zjm]
 refine ⟨by omega,?_⟩
 split
 ·have h0:n=0:=by
   obtain ⟨h1,h2⟩:=r
   rcases h2 with h2 | ⟨i,o,t,all,ro,ha,_⟩
   ·omega
   ·cases ha
  have hk0:k=0:=by omega
  subst hk0
  exact ⟨⟨by trivial,by simp,.inl (by trivial)⟩,hK _ _ _ (by simpa using Row.nil) (by omega)⟩
 ·rename_i i o
  refine ⟨fun hlt=>?_,fun hlt=>?_⟩
  ·have e2:((k:Int) - 0).toNat=k:=by omega
   have e3:o + Int.toNat 0 * 2=o:=by simp
   have e4:((c:Int) - 0).toNat=c:=by omega
   rw [e2,e3,e4]
   exact hK _ _ _ (r.sl hk hl) (by omega)
  ·have hk0:k=0:=by omega
   subst hk0
   exact hK _ _ _ (by simpa using Row.nil) (by omega)

theorem Zzu {h:Zaa} {x:Nd} {j:Nat} {c:List Nat} (hj:Zaf h (.ptr (some (j,0)))=some (.str c)) (hjl:j < h.length) :
  Zad pg Zcj [.agg [.str x.1,.str x.2],.ptr (some (j,0))] h fun v h'=>v=.bool (decide (x.1=c))∧Zbb h.length h h':=by
 apply Zlr.call
 simp only [Zba,Zgp,List.getElem?_cons_zero,Zap]
 have:=(Zav (h:=h) (x:=.cells Zbh [.str x.1,.str x.2] false)).cell hjl hj
 rw [this]
 exact ⟨rfl,Zav⟩
theorem Yat {h:Zaa} {a:Pt} {n c:Nat} {e:Bool} {cs:List Nd} {j:Nat} {s:List Nat} (r:Row h.length h a (n * 2) (Zdo eP cs)) (hn:n≤4611686018427387904) (hj:Zaf h (.ptr (some (j,0)))=some (.str s)) (hjl:j < h.length) :
  Zad pg Zcu [.slice a n c e,.fn Zcj [.ptr (some (j,0))]] h fun v h'=>(∃ z:Int,v=.int .i64 z∧decide (z ≥ 0)=Zhe cs s)∧Zbb h.length h h':=by
 have hl:cs.length=n:=by have:=r.1; rw [Zbg Zha] at this; omega
 apply Zbe.call
 refine Zbe.L2ind _ _ _ _ _ _ _ (J:=fun (g:Nat) x8 h'=>x8=(g:Int)∧g≤n∧Zbb h.length h h'∧Zhe (cs.take g) s=false) (fun g=>n - g) ?_ 0 _ _ ⟨rfl,by omega,Zbb.refl _ _,rfl⟩
 rintro g x8 h' ⟨rfl,hg,hS,hk⟩ R hR
 unfold Zbe.L2t
 refine Zaj (fun hlt=>?_) (fun hge=>?_)
 ·obtain ⟨i,o,hgl,rfl,_,hr,_⟩:=(r.same hS).pr (k:=g) (by omega)
  simp only [Zau,Int.toNat_natCast,hr,Zas,Zak,Zar,Zap]
  refine ⟨by omega,(Zzu (x:=cs[g]) (hS.cell hjl hj) (by have:=hS.le; omega)).mono ?_⟩
  rintro v h2 ⟨rfl,s2⟩
  simp only [Zah]
  have hS2:=hS.trans (s2.mono hS.le)
  refine Zaj (fun he=>?_) (fun he=>?_)
  ·refine ⟨⟨_,rfl,?_⟩,hS2⟩
   have:Zhe cs s=true:=by unfold Zhe; rw [List.any_eq_true]; exact ⟨_,List.getElem_mem hgl,by simpa using he⟩
   rw [this]; simp
  ·rw [Zbp (by omega)]
   exact hR (g + 1) _ _ (by omega) ⟨rfl,by omega,hS2,by rw [Ztb hgl,hk]; simp [he]⟩
 ·apply Zbe.A2x0i
  have:g=n:=by omega
  subst this
  rw [List.take_of_length_le (by omega)] at hk
  exact ⟨⟨_,rfl,by rw [hk]; rfl⟩,hS⟩
theorem Zww {h:Zaa} {a:Pt} {n c:Nat} {e:Bool} {cs:List Nd} {s:List Nat} (r:Row h.length h a (n * 2) (Zdo eP cs)) (hn:n≤4611686018427387904) :
  Zad pg Zjf [.slice a n c e,.str s] h fun v h'=>v=.bool (Zhe cs s)∧Zbb h.length h h':=by
 apply Zrp.call
 simp only [Zba]
 apply Zcm.call
 have s1:Zbb h.length h (h ++ [.cells Zdx [.str s] false]):=Zav
 refine (Yat (r.same' s1) hn (s:=s) (by rw [Zgp]; rfl) (by simp)).mono ?_
 rintro v h2 ⟨⟨z,rfl,hz⟩,s2⟩
 simp only [Zal,Zah]
 exact ⟨by rw [hz],s1.trans (s2.mono s1.le)⟩
theorem Zqm {h:Zaa} {a a1:Pt} {n c n1 c1:Nat} {e e1:Bool} {cs:List Nd} {s:List Nat} (r:Row h.length h a (n * 2) (Zdo eP cs)) (hn:n≤4611686018427387904) :
  Zad pg Zhf [.agg [.slice a n c e,.slice a1 n1 c1 e1],.str s] h fun v h'=>v=.int .i64 (Ygl cs s)∧Zbb h.length h h':=by
 have hl:cs.length=n:=by have:=r.1; rw [Zbg Zha] at this; omega
 apply Zhd.call
 simp only [Zba,Zgp,Nat.add_zero,List.getElem?_cons_zero,Zai]
 have s1:Zbb h.length h (h ++ [.cells Zao [.slice a n c e,.slice a1 n1 c1 e1] false]):=Zav
 refine Zhd.L2ind _ _ _ _ _ _ _ (J:=fun (g:Nat) x10 h'=>x10=(g:Int)∧g≤n∧Zbb h.length h h'∧Zhe (cs.take g) s=false) (fun g=>n - g) ?_ 0 _ _ ⟨rfl,by omega,s1,rfl⟩
 rintro g x8 h' ⟨rfl,hg,hS,hk⟩ R hR
 unfold Zhd.L2t
 refine Zaj (fun hlt=>?_) (fun hge=>?_)
 ·obtain ⟨i,o,hgl,rfl,_,hr,_⟩:=(r.same hS).pr (k:=g) (by omega)
  simp only [Zau,Int.toNat_natCast,hr,Zas,Zak,Zar,Zap,Zba]
  rw [Zlv]
  simp only [Zaq,Zgp,Nat.add_zero,List.getElem?_cons_zero,Zap]
  refine ⟨by omega,?_⟩
  have hS2:Zbb h.length h (h' ++ [.cells Zbh [.str cs[g].1,.str cs[g].2] false]):=hS.trans (Zbb.app hS.le _)
  refine Zaj (fun he=>?_) (fun he=>?_)
  ·refine ⟨?_,hS2⟩
   have hkn:Zhe cs s=true:=by unfold Zhe; rw [List.any_eq_true]; exact ⟨_,List.getElem_mem hgl,by simpa using he⟩
   unfold Ygl
   rw [hkn,if_pos rfl]
   congr 2
   symm
   rw [List.findIdx_eq hgl]
   refine ⟨by simpa using he,fun j hj=>?_⟩
   unfold Zhe at hk
   rw [List.any_eq_false] at hk
   have:=hk cs[j] (List.mem_take_iff_getElem.2 ⟨j,by omega,rfl⟩)
   simpa using this
  ·rw [Zbp (by omega)]
   exact hR (g + 1) _ _ (by omega) ⟨rfl,by omega,hS2,by rw [Ztb hgl,hk]; simp [he]⟩
 ·apply Zhd.A2x0i
  have:g=n:=by omega
  subst this
  rw [List.take_of_length_le (by omega)] at hk
  exact ⟨by unfold Ygl; rw [hk]; rfl,hS⟩

theorem Yhn {s:List Nat} {g:Nat} {z:Int} (hg:g < s.length) (hz:z=((g + 1:Nat):Int)):sub s (g:Int) z=[s[g]]:=by
 subst hz
 simp only [sub,Int.toNat_natCast]
 rw [List.take_succ_eq_append_getElem hg,List.drop_append_of_le_length (by simp; omega),List.drop_of_length_le (by rw [List.length_take]; exact Nat.min_le_left _ _),List.nil_append]
theorem Zqe {g:Nat} (hg:0 < g) (hn:g≤9223372036854775807):IntKind.wrap .i64 ((g:Int) - 1)=((g - 1:Nat):Int):=by rw [IntWalk.i64_in _ (by omega)]; omega
theorem Ycb {cs:List Nd} {s:List Nat} {g:Nat} (hg:g < s.length):Zul cs s g=(Zhe cs [s[g]] && (g == 0 || decide (s.getD (g - 1) 0 < s[g]))):=by unfold Zul; rw [Zio hg]
theorem Ycc {cs:List Nd} {g:Nat} (hg:g < cs.length):Zue cs g=(Zry cs[g].1 && (g == 0 || Zdy (cs.getD (g - 1) ([],[])).1 cs[g].1) && Zyo (cs.take g) cs[g].2):=by unfold Zue; rw [Zio hg]
theorem Zip {cs:List Nd} {g:Nat} (hg:g < cs.length) (h:Zue cs g=false):Zic cs=false:=by unfold Zic; rw [Zmv hg h]; rfl
theorem Zro {h:Zaa} {a a1:Pt} {n c n1 c1:Nat} {e e1:Bool} {cs:List Nd} (r:Row h.length h a (n * 2) (Zdo eP cs)) (hc:n≤c) (hn:n≤1048576) (hs:∀ p∈cs,p.2.length≤1048576) :
  Zad pg Zhj [.agg [.slice a n c e,.slice a1 n1 c1 e1]] h fun v h'=>v=.bool (Zic cs)∧Zbb h.length h h':=by
 have hl:cs.length=n:=by have:=r.1; rw [Zbg Zha] at this; omega
 apply Zci.call
 simp only [Zba,Zgp,Nat.add_zero,List.getElem?_cons_zero,Zai]
 have s1:Zbb h.length h (h ++ [.cells Zao [.slice a n c e,.slice a1 n1 c1 e1] false]):=Zav
 have hw:(h ++ [Zcp.cells Zao [.slice a n c e,.slice a1 n1 c1 e1] false])[h.length]?=some (.cells Zao [.slice a n c e,.slice a1 n1 c1 e1] false):=by simp
 refine Zci.L2ind _ _ _ _ _ _ _ _ (J:=fun (g:Nat) x9 h'=>x9=(g:Int)∧g≤n∧Zbb h.length h h'∧h'[h.length]?=some (.cells Zao [.slice a n c e,.slice a1 n1 c1 e1] false)∧(List.range g).all (Zue cs)=true) (fun g=>n - g) ?_ 0 _ _ ⟨rfl,by omega,s1,hw,rfl⟩
 rintro g x9 h' ⟨rfl,hg,hS,hW,hk⟩ R hR
 unfold Zci.L2t
 refine Zaj (fun hlt=>?_) (fun hge=>?_)
 ·obtain ⟨i,o,hgl,rfl,hil,hr,_⟩:=(r.same hS).pr (k:=g) (by omega)
  simp only [Zau,Int.toNat_natCast,hr,Zas,Zak,Zar,Zap,Zba]
  rw [Zlv]
  simp only [Zaq,Zgp,Nat.add_zero,List.getElem?_cons_zero,Zap]
  have hS2:Zbb h.length h (h' ++ [.cells Zbh [.str cs[g].1,.str cs[g].2] false]):=hS.trans (Zbb.app hS.le _)
  refine ⟨by omega,(Yeq _).mono ?_⟩
  rintro v h2 ⟨rfl,rfl⟩
  simp only [Zah,true_and]
  have hcl:=Ycc hgl
  have hle:=hS2.le
  have hWl:=Own.lt hW
  have hW2:(h' ++ [.cells Zbh [.str cs[g].1,.str cs[g].2] false])[h.length]?=some (.cells Zao [.slice (some (i,o)) n c e,.slice a1 n1 c1 e1] false):=Zkz hW
  have hcell:∀ o',Zaf (h' ++ [.cells Zbh [.str cs[g].1,.str cs[g].2] false]) (.ptr (some (h'.length,o')))=([.str cs[g].1,.str cs[g].2]:List Zag)[o']?:=fun o'=>Zgp
  -- the classes above
  have key:(Zry cs[g].1 && (g == 0 || Zdy (cs.getD (g - 1) ([],[])).1 cs[g].1))=true→Zci.J6 (fun v h'=>v=.bool (Zic cs)∧Zbb h.length h h') R h'.length 0 h.length 0 (g:Int) (some (i,o)) n c e (n:Int) (g:Int) (h' ++ [.cells Zbh [.str cs[g].1,.str cs[g].2] false]):=by
   intro hpre
   rw [hpre,Bool.true_and] at hcl
   apply Zci.J6i
   rw [hcell]
   simp only [Nat.zero_add,List.getElem?_cons_succ,List.getElem?_cons_zero,Zap]
   have hsl:=hs cs[g] (List.getElem_mem hgl)
   refine Zci.L7ind _ _ _ _ _ _ _ _ _ _ _ _ _ _ (J:=fun (q:Nat) x37 h3=>x37=(q:Int)∧q≤cs[g].2.length∧Zbb h.length h h3∧h3[h.length]?=some (.cells Zao [.slice (some (i,o)) n c e,.slice a1 n1 c1 e1] false)∧h3[h'.length]?=some (.cells Zbh [.str cs[g].1,.str cs[g].2] false)∧(List.range q).all (Zul (cs.take g) cs[g].2)=true) (fun q=>cs[g].2.length - q) ?_ 0 _ _ ⟨rfl,by omega,hS2,hW2,by simp,rfl⟩
   rintro q x37 h3 ⟨rfl,hq,hS3,hW3,hI3,hk3⟩ R7 hR7
   unfold Zci.L7t
   refine Zaj (fun hlt3=>?_) (fun hge3=>?_)
   ·have hq':q < cs[g].2.length:=by omega
    simp only [Nat.add_zero,Nat.zero_add,Zan hW3,Zan hI3,List.getElem?_cons_succ,List.getElem?_cons_zero,Zai,Zap,true_and]
    refine Ycw (r.same hS3) hl (k:=g) (by omega) hc rfl (fun a' c' e' hrow hc'=>?_)
    simp only [Zai]
    rw [Zbp (by omega),Yhn hq' rfl]
    refine ⟨⟨by omega,by omega,by omega⟩,(Zww (hrow.mono hS3.le) (by omega)).mono ?_⟩
    rintro v h4 ⟨rfl,s4⟩
    have hS4:=hS3.trans (s4.mono hS3.le)
    have hW4:h4[h.length]?=some (.cells Zao [.slice (some (i,o)) n c e,.slice a1 n1 c1 e1] false):=by rw [s4.eq _ (Own.lt hW3)]; exact hW3
    have hI4:h4[h'.length]?=some (.cells Zbh [.str cs[g].1,.str cs[g].2] false):=by rw [s4.eq _ (Own.lt hI3)]; exact hI3
    simp only [Zah,Zan hW3,Zan hW4,Zan hI4,Nat.add_zero,Nat.zero_add,List.getElem?_cons_succ,List.getElem?_cons_zero,Zap,true_and]
    have hsa:=Ycb (cs:=cs.take g) hq'
    have fail:Zul (cs.take g) cs[g].2 q=false→(Zag.bool false=Zag.bool (Zic cs)∧Zbb h.length h h4):=fun hf=>⟨by rw [Zip hgl (by rw [hcl]; unfold Zyo; exact Zmv hq' hf)],hS4⟩
    have next:Zul (cs.take g) cs[g].2 q=true→R7 h.length 0 (g:Int) h'.length 0 (some (i,o)) n c e (n:Int) (g:Int) (cs[g].2.length:Int) (IntKind.wrap .i64 ((q:Int) + 1)) h4:=fun ht=>by
     rw [Zbp (by omega)]
     exact hR7 (q + 1) _ _ (by omega) ⟨rfl,by omega,hS4,hW4,hI4,Zja hk3 ht⟩
    refine Zck (fun hb=>fail (by rw [hsa,hb]; rfl)) (fun hb=>?_)
    refine Zaj (fun h0=>?_) (fun h0=>?_)
    ·have h0':0 < q:=by omega
     rw [Zqe h0' (by omega)]
     refine ⟨⟨by omega,by omega⟩,⟨by omega,by omega⟩,?_⟩
     simp only [Int.toNat_natCast]
     have hd1:cs[g].2.getD q 0=cs[g].2[q]:=Zio hq'
     have hq0:(q == 0)=false:=by simp; omega
     refine Zaj (fun h1=>fail ?_) (fun h1=>Zci.J11i _ _ _ _ _ _ _ _ _ _ _ _ _ _ _ _ _ (next ?_))
     ·rw [hsa,hb,hq0,← hd1]; simp only [Bool.true_and,Bool.false_or,decide_eq_false_iff_not]; omega
     ·rw [hsa,hb,hq0,← hd1]; simp only [Bool.true_and,Bool.false_or,decide_eq_true_eq]; omega
    ·have:q=0:=by omega
     subst this
     exact Zci.J11i _ _ _ _ _ _ _ _ _ _ _ _ _ _ _ _ _ (next (by rw [hsa,hb]; rfl))
   ·apply Zci.A7x2i
    apply Zci.J12i
    have:q=cs[g].2.length:=by omega
    subst this
    rw [Zbp (by omega)]
    exact hR (g + 1) _ _ (by omega) ⟨rfl,by omega,hS3,hW3,Zja hk (by rw [hcl]; exact hk3)⟩
  refine Zck (fun hb=>⟨by rw [Zip hgl (by rw [hcl,hb]; rfl)],hS2⟩) (fun hb=>?_)
  refine Zaj (fun h0=>?_) (fun h0=>?_)
  ·have h0':0 < g:=by omega
   rw [Zan hW2]
   simp only [List.getElem?_cons_zero,Zai]
   rw [Zqe h0' (by omega)]
   obtain ⟨i',o',hgl',heq,_,_,hc0,_⟩:=(r.same hS2).pr (k:=g - 1) (by omega)
   cases heq
   simp only [Zau,Int.toNat_natCast,hc0,Zap,Nat.add_zero,Nat.zero_add,hcell,List.getElem?_cons_zero,true_and]
   refine ⟨by omega,?_⟩
   have hg0:(g == 0)=false:=by simp; omega
   have hgd:cs.getD (g - 1) ([],[])=cs[g - 1]:=Zio hgl'
   refine Zck (fun hb2=>⟨by rw [Zip hgl (by rw [hcl,hb,hg0,hgd,hb2]; rfl)],hS2⟩) (fun hb2=>key (by rw [hb,hg0,hgd,hb2]; rfl))
  ·have:g=0:=by omega
   subst this
   exact key (by rw [hb]; rfl)
 ·apply Zci.A2x0i
  have:g=n:=by omega
  subst this
  have hok:Zic cs=decide (1≤g∧g≤4):=by unfold Zic; rw [hl,hk,Bool.true_and]
  simp only [Nat.add_zero,Zan hW,List.getElem?_cons_zero,Zai]
  refine Zaj (fun h1=>?_) (fun h1=>?_)
  ·refine ⟨?_,hS⟩
   rw [hok]; congr 1; rw [Bool.eq_iff_iff]; simp; omega
  ·refine ⟨?_,hS⟩
   rw [hok]; congr 1; symm; simp; omega
end Go.Sim

set_option linter.unusedVariables false
set_option linter.unusedSimpArgs false
set_option maxRecDepth 20000
namespace Go.Sim
open Go Go.RowKit
theorem Zrt {h:Zaa} {a:Pt} {n c:Nat} {e:Bool} {cs:List Nd} (r:Row h.length h a (n * 2) (Zdo eP cs)) (hc:n≤c) (hn:n≤1048576) (hs:∀ p∈cs,p.2.length≤1048576) (hb256:∀ p∈cs,∀ b∈p.1,b < 256) :
  Zad pg Zhi [.slice a n c e] h fun v h'=>v=.bool (Zic cs)∧Zbb h.length h h':=by
 have hl:cs.length=n:=by have:=r.1; rw [Zbg Zha] at this; omega
 apply Zch.call
 refine Zch.L2ind _ _ _ _ _ _ _ _ _ _ (J:=fun (g:Nat) x9 h'=>x9=(g:Int)∧g≤n∧Zbb h.length h h'∧(List.range g).all (Zue cs)=true) (fun g=>n - g) ?_ 0 _ _ ⟨rfl,by omega,Zbb.refl _ _,rfl⟩
 rintro g x9 h' ⟨rfl,hg,hS,hk⟩ R hR
 unfold Zch.L2t
 refine Zaj (fun hlt=>?_) (fun hge=>?_)
 ·obtain ⟨i,o,hgl,rfl,hil,hr,_⟩:=(r.same hS).pr (k:=g) (by omega)
  simp only [Zau,Int.toNat_natCast,hr,Zas,Zak,Zar,Zap,Zba]
  rw [Zlv]
  simp only [Zaq,Zgp,Nat.add_zero,List.getElem?_cons_zero,Zap]
  have hS2:Zbb h.length h (h' ++ [.cells Zbh [.str cs[g].1,.str cs[g].2] false]):=hS.trans (Zbb.app hS.le _)
  refine ⟨by omega,(Zxe _ (hb256 _ (List.getElem_mem hgl))).mono ?_⟩
  rintro v h2 ⟨rfl,rfl⟩
  simp only [Zah,true_and]
  have hcl:=Ycc hgl
  have hle:=hS2.le
  have hcell:∀ o',Zaf (h' ++ [.cells Zbh [.str cs[g].1,.str cs[g].2] false]) (.ptr (some (h'.length,o')))=([.str cs[g].1,.str cs[g].2]:List Zag)[o']?:=fun o'=>Zgp
  -- the classes above
  have key:(Zry cs[g].1 && (g == 0 || Zdy (cs.getD (g - 1) ([],[])).1 cs[g].1))=true→Zch.J6 (fun v h'=>v=.bool (Zic cs)∧Zbb h.length h h') R h'.length 0 (some (i,o)) n c e (g:Int) (some (i,o)) n c e (n:Int) (g:Int) (h' ++ [.cells Zbh [.str cs[g].1,.str cs[g].2] false]):=by
   intro hpre
   rw [hpre,Bool.true_and] at hcl
   apply Zch.J6i
   rw [hcell]
   simp only [Nat.zero_add,List.getElem?_cons_succ,List.getElem?_cons_zero,Zap]
   have hsl:=hs cs[g] (List.getElem_mem hgl)
   refine Zch.L7ind _ _ _ _ _ _ _ _ _ _ _ _ _ _ _ _ (J:=fun (q:Nat) x37 h3=>x37=(q:Int)∧q≤cs[g].2.length∧Zbb h.length h h3∧h3[h'.length]?=some (.cells Zbh [.str cs[g].1,.str cs[g].2] false)∧(List.range q).all (Zul (cs.take g) cs[g].2)=true) (fun q=>cs[g].2.length - q) ?_ 0 _ _ ⟨rfl,by omega,hS2,by simp,rfl⟩
   rintro q x37 h3 ⟨rfl,hq,hS3,hI3,hk3⟩ R7 hR7
   unfold Zch.L7t
   refine Zaj (fun hlt3=>?_) (fun hge3=>?_)
   ·have hq':q < cs[g].2.length:=by omega
    simp only [Nat.add_zero,Nat.zero_add,Zan hI3,List.getElem?_cons_succ,List.getElem?_cons_zero,Zai,Zap,true_and]
    refine Ycw (r.same hS3) hl (k:=g) (by omega) hc rfl (fun a' c' e' hrow hc'=>?_)
    simp only [Zai]
    rw [Zbp (by omega),Yhn hq' rfl]
    refine ⟨⟨by omega,by omega,by omega⟩,(Zqm (hrow.mono hS3.le) (by omega)).mono ?_⟩
    rintro v h4 ⟨rfl,s4⟩
    have hS4:=hS3.trans (s4.mono hS3.le)
    have hI4:h4[h'.length]?=some (.cells Zbh [.str cs[g].1,.str cs[g].2] false):=by rw [s4.eq _ (Own.lt hI3)]; exact hI3
    simp only [Zal,Ztd,Zan hI4,Nat.add_zero,Nat.zero_add,List.getElem?_cons_succ,List.getElem?_cons_zero,Zap,true_and]
    have hsa:=Ycb (cs:=cs.take g) hq'
    have fail:Zul (cs.take g) cs[g].2 q=false→(Zag.bool false=Zag.bool (Zic cs)∧Zbb h.length h h4):=fun hf=>⟨by rw [Zip hgl (by rw [hcl]; unfold Zyo; exact Zmv hq' hf)],hS4⟩
    have next:Zul (cs.take g) cs[g].2 q=true→R7 (some (i,o)) n c e (g:Int) h'.length 0 (some (i,o)) n c e (n:Int) (g:Int) (cs[g].2.length:Int) (IntKind.wrap .i64 ((q:Int) + 1)) h4:=fun ht=>by
     rw [Zbp (by omega)]
     exact hR7 (q + 1) _ _ (by omega) ⟨rfl,by omega,hS4,hI4,Zja hk3 ht⟩
    refine Zck (fun hb=>fail (by rw [hsa,hb]; rfl)) (fun hb=>?_)
    refine Zaj (fun h0=>?_) (fun h0=>?_)
    ·have h0':0 < q:=by omega
     rw [Zqe h0' (by omega)]
     refine ⟨⟨by omega,by omega⟩,⟨by omega,by omega⟩,?_⟩
     simp only [Int.toNat_natCast]
     have hd1:cs[g].2.getD q 0=cs[g].2[q]:=Zio hq'
     have hq0:(q == 0)=false:=by simp; omega
     refine Zaj (fun h1=>fail ?_) (fun h1=>Zch.J11i _ _ _ _ _ _ _ _ _ _ _ _ _ _ _ _ _ _ _ (next ?_))
     ·rw [hsa,hb,hq0,← hd1]; simp only [Bool.true_and,Bool.false_or,decide_eq_false_iff_not]; omega
     ·rw [hsa,hb,hq0,← hd1]; simp only [Bool.true_and,Bool.false_or,decide_eq_true_eq]; omega
    ·have:q=0:=by omega
     subst this
     exact Zch.J11i _ _ _ _ _ _ _ _ _ _ _ _ _ _ _ _ _ _ _ (next (by rw [hsa,hb]; rfl))
   ·apply Zch.A7x2i
    apply Zch.J12i
    have:q=cs[g].2.length:=by omega
    subst this
    rw [Zbp (by omega)]
    exact hR (g + 1) _ _ (by omega) ⟨rfl,by omega,hS3,Zja hk (by rw [hcl]; exact hk3)⟩
  refine Zck (fun hb=>⟨by rw [Zip hgl (by rw [hcl,hb]; rfl)],hS2⟩) (fun hb=>?_)
  refine Zaj (fun h0=>?_) (fun h0=>?_)
  ·have h0':0 < g:=by omega
   rw [Zqe h0' (by omega)]
   obtain ⟨i',o',hgl',heq,_,_,hc0,_⟩:=(r.same hS2).pr (k:=g - 1) (by omega)
   cases heq
   simp only [Zau,Int.toNat_natCast,hc0,Zap,Nat.add_zero,Nat.zero_add,hcell,List.getElem?_cons_zero,true_and]
   refine ⟨by omega,?_⟩
   have hg0:(g == 0)=false:=by simp; omega
   have hgd:cs.getD (g - 1) ([],[])=cs[g - 1]:=Zio hgl'
   refine Zck (fun hb2=>⟨by rw [Zip hgl (by rw [hcl,hb,hg0,hgd,hb2]; rfl)],hS2⟩) (fun hb2=>key (by rw [hb,hg0,hgd,hb2]; rfl))
  ·have:g=0:=by omega
   subst this
   exact key (by rw [hb]; rfl)
 ·apply Zch.A2x0i
  have:g=n:=by omega
  subst this
  have hok:Zic cs=decide (1≤g∧g≤4):=by unfold Zic; rw [hl,hk,Bool.true_and]
  refine Ygk.mono ?_
  rintro v h2 ⟨rfl,rfl⟩
  simp only [Zah]
  refine ⟨?_,hS⟩
  rw [hok]; congr 1; rw [Bool.eq_iff_iff]; simp; omega
end Go.Sim

set_option linter.unusedVariables false
set_option linter.unusedSimpArgs false
set_option maxRecDepth 20000
namespace Go.Sim
open Go Go.RowKit

theorem Ymk (c:Nat):decide (c∈[120,121,122,88,89,90])=Zbc c:=by rw [Bool.eq_iff_iff]; simp [Zbc,or_assoc]
theorem Zsb {h:Zaa} (s:List Nat):Zad pg Zde [.str s] h fun v h'=>v=.bool (Zoo s)∧h'=h:=by
 apply Zrg.call
 match s with
 | []=>exact Zek (fun h1=>by simp at h1) (fun h1=>⟨rfl,rfl⟩)
 | [c]=>
  refine Zek (fun h1=>?_) (fun h1=>by simp at h1)
  refine Zkx.mono ?_
  rintro v h' ⟨rfl,rfl⟩
  simp only [Zah]
  exact ⟨by rw [Ymk]; rfl,by trivial⟩
 | c :: d :: r=>exact Zek (fun h1=>by simp at h1; omega) (fun h1=>⟨rfl,rfl⟩)
theorem Zpw {h:Zaa} (c:Nat):Zad pg Zgo [.int .u8 (c:Int)] h fun v h'=>v=.bool (Zbc c)∧h'=h:=by
 apply Zlu.call
 refine (Zvu _ c (by simp)).mono ?_
 rintro v h' ⟨rfl,rfl⟩
 simp only [Zal]
 exact ⟨by rw [Ykv],by trivial⟩
noncomputable def Yjz (s v:List Nat):Int:=if Zos s && Zoo v then (s.count (v.headD 0):Nat) else -1
theorem Zxp {h:Zaa} (s v:List Nat) (hs:s.length≤1048576):Zad pg Zkl [.str s,.str v] h fun x h'=>x=.int .i64 (Yjz s v)∧Zbb h.length h h':=by
 apply Zeb.call
 refine (Zmj s (by omega) h).mono ?_
 rintro x h1 ⟨rfl,s1⟩
 simp only [Zah]
 refine Zck (fun hb=>⟨by unfold Yjz; rw [hb]; rfl,s1⟩) (fun hb=>?_)
 match v with
 | []=>exact Zfp (fun _=>⟨by unfold Yjz; rw [hb]; rfl,s1⟩) (fun h1=>by simp at h1)
 | c :: d :: r=>exact Zfp (fun _=>⟨by unfold Yjz; rw [hb]; rfl,s1⟩) (fun h1=>by simp at h1; omega)
 | [c]=>
  refine Zfp (fun h1=>by simp at h1) (fun _=>?_)
  refine ⟨⟨by omega,by simp⟩,?_⟩
  simp only [Int.toNat_zero,List.getD_cons_zero]
  refine (Zpw c).mono ?_
  rintro x h2 ⟨rfl,rfl⟩
  simp only [Zah]
  refine Zck (fun hv=>⟨by unfold Yjz; rw [hb,show Zoo [c]=Zbc c from rfl,hv]; rfl,s1⟩) (fun hv=>?_)
  apply Zeb.J3i
  refine Zeb.L5ind _ _ _ _ (J:=fun (g:Nat) x5 x23 h'=>x23=(g:Int)∧g≤s.length∧x5=((s.take g).count c:Nat)∧h'=h2) (fun g=>s.length - g) ?_ 0 _ _ _ ⟨rfl,by omega,by simp,rfl⟩
  rintro g x5 x23 h' ⟨rfl,hg,rfl,rfl⟩ R hR
  unfold Zeb.L5t
  refine Zaj (fun hlt=>?_) (fun hge=>?_)
  ·have hg':g < s.length:=by omega
   refine ⟨⟨by omega,by omega⟩,⟨by omega,by simp⟩,?_⟩
   simp only [Int.toNat_zero,List.getD_cons_zero,Int.toNat_natCast,Zio hg']
   have hc:=List.count_le_length (a:=c) (l:=s.take g)
   rw [List.length_take] at hc
   have htk:(s.take (g + 1)).count c=(s.take g).count c + if s[g]=c then 1 else 0:=by
    rw [List.take_succ_eq_append_getElem hg',List.count_append]; simp [List.count_cons]
   refine Zek (fun he=>?_) (fun he=>?_)
   ·apply Zeb.J9i
    rw [Zbp (by omega),Zbp (by omega)]
    exact hR (g + 1) _ _ _ (by omega) ⟨rfl,by omega,by rw [htk,if_pos (by omega)],rfl⟩
   ·apply Zeb.J9i
    rw [Zbp (by omega)]
    exact hR (g + 1) _ _ _ (by omega) ⟨rfl,by omega,by rw [htk,if_neg (by omega)]; rfl,rfl⟩
  ·apply Zeb.A5x0i
   have:g=s.length:=by omega
   subst this
   rw [List.take_length]
   refine ⟨?_,s1⟩
   unfold Yjz
   rw [hb,show Zoo [c]=Zbc c from rfl,hv]; rfl
theorem Zvl {h:Zaa} (s:List Nat) (hs:s.length≤1048576):Zad pg Zjq [.str s] h fun v h'=>v=.str (if Zos s=true then Zpc s else [])∧Zbb h.length h h':=by
 apply Zfe.call
 simp only [Zba]
 have hlist:(h ++ [Zcp.cells Zdx [.str [88],.str [89],.str [90],.str [120],.str [121],.str [122]] false])[h.length]?=some (.cells Zdx [.str [88],.str [89],.str [90],.str [120],.str [121],.str [122]] false):=by simp
 refine Zfe.L3ind _ _ _ _ _ _ _ (J:=fun (g:Nat) x3 x8 h'=>x8=(g:Int)∧g≤6∧Zbb h.length h h'∧h'[h.length]?=some (.cells Zdx [.str [88],.str [89],.str [90],.str [120],.str [121],.str [122]] false)∧x3=if Zos s=true then (Zgw.take g).filter fun v=>decide (v∈s) else []) (fun g=>6 - g) ?_ 0 _ _ _
  ⟨rfl,by omega,Zav,hlist,by simp⟩
 rintro g x3 x8 h' ⟨rfl,hg,hS,hl,rfl⟩ R hR
 unfold Zfe.L3t
 refine Zaj (fun hlt=>?_) (fun hge=>?_)
 ·have hlt':g < 6:=by omega
  have hc:∃ c,Zgw[g]?=some c∧Zbc c=true∧Zaf h' (.ptr (some (h.length,0 + (g:Int).toNat * 1)))=some (.str [c]):=by
   rw [Zan hl,Int.toNat_natCast]
   match g,hlt' with
   | 0,_ | 1,_ | 2,_ | 3,_ | 4,_ | 5,_=>exact ⟨_,rfl,rfl,rfl⟩
  obtain ⟨c,hc1,hcv,hc2⟩:=hc
  simp only [Zau,hc2,Zap]
  refine ⟨by omega,(Zxp s [c] hs).mono ?_⟩
  rintro v h2 ⟨rfl,s2⟩
  simp only [Zal]
  have htk:Zgw.take (g + 1)=Zgw.take g ++ [c]:=by rw [List.take_succ,hc1]; rfl
  have hS2:=hS.trans (s2.mono hS.le)
  have hl2:h2[h.length]?=some (.cells Zdx [.str [88],.str [89],.str [90],.str [120],.str [121],.str [122]] false):=by rw [s2.eq _ (Own.lt hl)]; exact hl
  have hcn:decide (Yjz s [c] > 0)=(Zos s && decide (c∈s)):=by
   unfold Yjz
   rw [show Zoo [c]=Zbc c from rfl,hcv]
   cases hb:Zos s with
   | false=>rfl
   | true=>
    simp only [Bool.and_self,if_true,Bool.true_and,List.headD_cons]
    rw [Bool.eq_iff_iff]; simp [List.count_pos_iff]
  have hbd:(if Zos s=true then (Zgw.take g).filter fun v=>decide (v∈s) else []).length≤6:=by
   split
   ·exact Nat.le_trans (List.length_filter_le _ _) (by simp; omega)
   ·simp
  rw [hcn]
  refine Zds (fun hb=>?_) (fun hb=>?_)
  ·simp only [Bool.and_eq_true] at hb
   refine ⟨by simp only [List.length_cons,List.length_nil]; omega,?_⟩
   apply Zfe.J7i
   rw [Zbp (by omega)]
   refine hR (g + 1) _ _ _ (by omega) ⟨rfl,by omega,hS2,hl2,?_⟩
   rw [if_pos hb.1,if_pos hb.1,htk,List.filter_append]; simp [hb.2]
  ·apply Zfe.J7i
   rw [Zbp (by omega)]
   refine hR (g + 1) _ _ _ (by omega) ⟨rfl,by omega,hS2,hl2,?_⟩
   cases ht:Zos s with
   | false=>simp
   | true=>rw [ht,Bool.true_and] at hb; rw [htk,List.filter_append]; simp; simpa using hb
 ·apply Zfe.A3x0i
  have:g=6:=by omega
  subst this
  exact ⟨rfl,hS⟩
theorem Yfs {h:Zaa} (x y:List Nat) (hx:x.length≤1048576) (hy:y.length≤1048576):Zad pg Zko [.str x,.str y] h fun v h'=>v=.bool (x.all fun c=>decide (c∈y))∧h'=h:=by
 apply Zgd.call
 refine Zgd.L2ind _ _ _ _ (J:=fun (g:Nat) x8 h'=>x8=(g:Int)∧g≤x.length∧h'=h∧(x.take g).all (fun c=>decide (c∈y))=true) (fun g=>x.length - g) ?_ 0 _ _ ⟨rfl,by omega,rfl,by simp⟩
 rintro g x8 h' ⟨rfl,hg,rfl,hk⟩ R hR
 unfold Zgd.L2t
 refine Zaj (fun hlt=>?_) (fun hge=>?_)
 ·have hg':g < x.length:=by omega
  refine ⟨⟨by omega,by omega⟩,?_⟩
  simp only [Int.toNat_natCast,Zio hg']
  refine (Zvu y x[g] (by omega)).mono ?_
  rintro v h2 ⟨rfl,rfl⟩
  simp only [Zal]
  have hix:decide (Zno y x[g] < 0)=!decide (x[g]∈y):=by
   by_cases hm:x[g]∈y
   ·have:=(Zvy y x[g]).2 hm
    simp [hm]; omega
   ·rw [Zqq hm]; simp [hm]
  rw [hix]
  refine Zck (fun hb=>⟨by rw [Zqt hg' hb],by trivial⟩) (fun hb=>?_)
  rw [Zbp (by omega)]
  exact hR (g + 1) _ _ (by omega) ⟨rfl,by omega,rfl,Zgq hg' hk hb⟩
 ·apply Zgd.A2x0i
  have:g=x.length:=by omega
  subst this
  rw [List.take_length] at hk
  exact ⟨by rw [hk],by trivial⟩

theorem Ycu {cs:List Nd} {ct tt:List Nat} {ns:List Nd} (h1:Zic cs=true) (h2:Zhe cs ct=true) (h3:Zos tt=true) (h4:tt.length≤20) (h5:Zoo tt=false) (h6:ns.length≤3):Zlc cs ((ct,tt),ns)=ns.all (Zie cs tt):=by
 unfold Zlc; simp [h1,h2,h3,h4,h5,h6]
theorem Zru {h:Zaa} {a a1 a2:Pt} {n c n1 c1 n2 c2:Nat} {e e1 e2:Bool} {cs ns:List Nd} {ct tt:List Nat} (r:Row h.length h a (n * 2) (Zdo eP cs)) (hc:n≤c) (hn:n≤1048576) (hs:∀ p∈cs,p.2.length≤1048576)
  (r2:Row h.length h a2 (n2 * 2) (Zdo eP ns)) (hn2:n2≤1048576) (hns:∀ p∈ns,p.2.length≤1048576) (htt:tt.length≤1048576) :
  Zad pg Zgu [.agg [.slice a n c e,.slice a1 n1 c1 e1],.agg [.str ct,.str tt,.slice a2 n2 c2 e2]] h fun v h'=>v=.bool (Zlc cs ((ct,tt),ns))∧Zbb h.length h h':=by
 have hl:cs.length=n:=by have:=r.1; rw [Zbg Zha] at this; omega
 have hl2:ns.length=n2:=by have:=r2.1; rw [Zbg Zha] at this; omega
 apply Zcd.call
 simp only [Zba]
 generalize hh0:h ++ [Zcp.cells Zao [.slice a n c e,.slice a1 n1 c1 e1] false]=h0
 generalize hh1:h0 ++ [Zcp.cells Zac [.str ct,.str tt,.slice a2 n2 c2 e2] false]=h1
 have s0:Zbb h.length h h0:=by rw [← hh0]; exact Zav
 have s01:Zbb h0.length h0 h1:=by rw [← hh1]; exact Zav
 have s1:Zbb h.length h h1:=s0.trans (s01.mono s0.le)
 have hl0:h0.length=h.length + 1:=by rw [← hh0]; simp
 have hl1:h1.length=h.length + 2:=by rw [← hh1]; simp [hl0]
 have w1:h1[h.length]?=some (.cells Zao [.slice a n c e,.slice a1 n1 c1 e1] false):=by rw [← hh1,Zyf (by omega),← hh0]; simp
 have i1:h1[h0.length]?=some (.cells Zac [.str ct,.str tt,.slice a2 n2 c2 e2] false):=by rw [← hh1]; simp
 rw [Zfv w1 (by simp)]
 simp only [List.drop_zero,List.take_succ_cons,List.take_zero,Zas,Zak,Zai,Zar]
 refine (Zro (r.same' s1) hc hn hs).mono ?_
 rintro v h2 ⟨rfl,s2⟩
 have S2:Zbb h.length h h2:=s1.trans (s2.mono (by omega))
 have w2:h2[h.length]?=some (.cells Zao [.slice a n c e,.slice a1 n1 c1 e1] false):=by rw [s2.eq _ (by omega)]; exact w1
 have i2:h2[h0.length]?=some (.cells Zac [.str ct,.str tt,.slice a2 n2 c2 e2] false):=by rw [s2.eq _ (by omega)]; exact i1
 simp only [Zah]
 refine Zck (fun hb=>⟨by unfold Zlc; rw [hb]; rfl,S2⟩) (fun b1=>?_)
 simp only [Nat.add_zero,Nat.zero_add,Zan w2,Zan i2,List.getElem?_cons_succ,List.getElem?_cons_zero,Zai,Zap]
 refine (Zww (r.same' S2) (by omega)).mono ?_
 rintro v h3 ⟨rfl,s3⟩
 have hle2:=s2.le
 have S3:Zbb h.length h h3:=S2.trans (s3.mono S2.le)
 have i3:h3[h0.length]?=some (.cells Zac [.str ct,.str tt,.slice a2 n2 c2 e2] false):=by rw [s3.eq _ (by omega)]; exact i2
 have w3:h3[h.length]?=some (.cells Zao [.slice a n c e,.slice a1 n1 c1 e1] false):=by rw [s3.eq _ (by omega)]; exact w2
 simp only [Zah]
 refine Zck (fun hb=>⟨by unfold Zlc; rw [b1,hb]; rfl,S3⟩) (fun b2=>?_)
 simp only [Zan i3,List.getElem?_cons_succ,List.getElem?_cons_zero,Zap]
 refine (Zky tt h3).mono ?_
 rintro v h4 ⟨rfl,s4⟩
 have hle3:=s3.le
 have S4:Zbb h.length h h4:=S3.trans (s4.mono S3.le)
 have i4:h4[h0.length]?=some (.cells Zac [.str ct,.str tt,.slice a2 n2 c2 e2] false):=by rw [s4.eq _ (by omega)]; exact i3
 have w4:h4[h.length]?=some (.cells Zao [.slice a n c e,.slice a1 n1 c1 e1] false):=by rw [s4.eq _ (by omega)]; exact w3
 simp only [Zah]
 refine Zck (fun hb=>⟨by unfold Zlc; rw [b1,b2,hb]; rfl,S4⟩) (fun b3=>?_)
 simp only [Zan i4,List.getElem?_cons_succ,List.getElem?_cons_zero,Zap]
 refine Zaj (fun hb=>⟨by unfold Zlc; rw [b1,b2,b3]; simp [show ¬ tt.length≤20 by omega],S4⟩) (fun b4=>?_)
 refine (Zsb tt).mono ?_
 rintro v h5 ⟨rfl,rfl⟩
 simp only [Zah]
 refine Zds (fun hb=>⟨by unfold Zlc; rw [hb]; simp,S4⟩) (fun b5=>?_)
 simp only [Zan i4,List.getElem?_cons_succ,List.getElem?_cons_zero,Zai]
 refine Zaj (fun hb=>⟨by unfold Zlc; simp [show ¬ ns.length≤3 by omega],S4⟩) (fun b6=>?_)
 rw [Ycu b1 b2 b3 (by omega) b5 (by omega)]
 apply Zcd.J3i
 simp only [Nat.zero_add,Zan i4,List.getElem?_cons_succ,List.getElem?_cons_zero,Zai]
 have hle4:=s4.le
 refine Zcd.L4ind _ _ _ _ _ _ _ _ _ _ (J:=fun (g:Nat) x50 h'=>x50=(g:Int)∧g≤n2∧Zbb h5.length h5 h'∧(ns.take g).all (Zie cs tt)=true) (fun g=>n2 - g) ?_ 0 _ _ ⟨rfl,by omega,Zbb.refl _ _,rfl⟩
 rintro g x50 h' ⟨rfl,hg,hS,hk⟩ R hR
 have SS:Zbb h.length h h':=S4.trans (hS.mono S4.le)
 unfold Zcd.L4t
 refine Zaj (fun hlt=>?_) (fun hge=>?_)
 ·obtain ⟨i,o,hgl,rfl,hil,hr,_⟩:=(r2.same SS).pr (k:=g) (by omega)
  simp only [Zau,Int.toNat_natCast,hr,Zas,Zak,Zar,Zap,Zba]
  rw [Zlv]
  have hlh:=hS.le
  generalize hq:h' ++ [Zcp.cells Zbl [.str ns[g].1,.str ns[g].2] false]=hq'
  have sq:Zbb h'.length h' hq':=by rw [← hq]; exact Zav
  have hql:hq'.length=h'.length + 1:=by rw [← hq]; simp
  have nq:hq'[h'.length]?=some (.cells Zbl [.str ns[g].1,.str ns[g].2] false):=by rw [← hq]; simp
  have wq:hq'[h.length]?=some (.cells Zao [.slice a n c e,.slice a1 n1 c1 e1] false):=by rw [sq.eq _ (by omega),hS.eq _ (by omega)]; exact w4
  have iq:hq'[h0.length]?=some (.cells Zac [.str ct,.str tt,.slice (some (i,o)) n2 c2 e2] false):=by rw [sq.eq _ (by omega),hS.eq _ (by omega)]; exact i4
  simp only [Zaq,Nat.add_zero,Nat.zero_add,Zan wq,Zan nq,List.getElem?_cons_succ,List.getElem?_cons_zero,Zai,Zap]
  have Sq:Zbb h.length h hq':=SS.trans (sq.mono SS.le)
  refine ⟨by omega,(Zww (r.same' Sq) (by omega)).mono ?_⟩
  rintro v k3 ⟨rfl,t3⟩
  have T3:=Sq.trans (t3.mono Sq.le)
  have n3:k3[h'.length]?=some (.cells Zbl [.str ns[g].1,.str ns[g].2] false):=by rw [t3.eq _ (by omega)]; exact nq
  simp only [Zah]
  have fail:∀ hx,Zbb h.length h hx→Zie cs tt ns[g]=false→(Zag.bool false=Zag.bool (ns.all (Zie cs tt))∧Zbb h.length h hx):=fun hx hs hf=>⟨by rw [Zqt hgl hf],hs⟩
  refine Zck (fun hb=>fail _ T3 (by unfold Zie; rw [hb]; rfl)) (fun m1=>?_)
  simp only [Zan n3,List.getElem?_cons_succ,List.getElem?_cons_zero,Zap]
  refine (Zky _ k3).mono ?_
  rintro v k4 ⟨rfl,t4⟩
  have ht3:=t3.le
  have T4:=T3.trans (t4.mono T3.le)
  have n4:k4[h'.length]?=some (.cells Zbl [.str ns[g].1,.str ns[g].2] false):=by rw [t4.eq _ (by omega)]; exact n3
  simp only [Zah]
  refine Zck (fun hb=>fail _ T4 (by unfold Zie; rw [m1,hb]; rfl)) (fun m2=>?_)
  simp only [Zan n4,List.getElem?_cons_succ,List.getElem?_cons_zero,Zap]
  refine Zaj (fun hb=>fail _ T4 (by unfold Zie; simp [show ¬ ns[g].2.length≤20 by omega])) (fun m3=>?_)
  apply Zcd.J8i
  simp only [Nat.zero_add,Zan n4,List.getElem?_cons_succ,List.getElem?_cons_zero,Zap]
  refine (Yms _ k4).mono ?_
  rintro v k5 ⟨t5,av,nv,cv,ev,rfl,hrow⟩
  simp only [Zai]
  have ht4:=t4.le
  have ht5:=t5.le
  have T5:=T4.trans (t5.mono T4.le)
  have hvl:(Zpc ns[g].2).length=nv:=by have:=hrow.1; simpa using this
  have hv6:(Zpc ns[g].2).length≤6:=List.length_filter_le _ _
  have hni:Zie cs tt ns[g]=(Zpc ns[g].2).all fun v=>decide (v∈tt):=by unfold Zie; rw [m1,m2]; simp [show ns[g].2.length≤20 by omega]
  have i5:k5[h0.length]?=some (.cells Zac [.str ct,.str tt,.slice (some (i,o)) n2 c2 e2] false):=by rw [t5.eq _ (by omega),t4.eq _ (by omega),t3.eq _ (by omega)]; exact iq
  refine Zcd.L9ind _ _ _ _ _ _ _ _ _ _ _ _ _ _ _ _ _ (J:=fun (q:Nat) x76 h6=>x76=(q:Int)∧q≤nv∧h6=k5∧((Zpc ns[g].2).take q).all (fun v=>decide (v∈tt))=true) (fun q=>nv - q) ?_ 0 _ _ ⟨rfl,by omega,rfl,rfl⟩
  rintro q x76 h6 ⟨rfl,hq6,rfl,hk6⟩ R9 hR9
  unfold Zcd.L9t
  refine Zaj (fun hlt6=>?_) (fun hge6=>?_)
  ·obtain ⟨iv,ov,rfl,_,hcv⟩:=hrow.at (k:=q) (by omega)
   rw [Ych,List.getElem?_map,List.getElem?_eq_getElem (show q < (Zpc ns[g].2).length by omega)] at hcv
   simp only [Option.map_some] at hcv
   simp only [Zau,Int.toNat_natCast,Nat.mul_one,hcv,Zap,Nat.add_zero,Nat.zero_add,Zan i5,List.getElem?_cons_succ,List.getElem?_cons_zero,one]
   refine ⟨by omega,Zkx.mono ?_⟩
   rintro v k7 ⟨rfl,rfl⟩
   simp only [Zah]
   refine Zck (fun hb=>fail _ T5 (by rw [hni]; exact Zqt (by omega) hb)) (fun d1=>?_)
   rw [Zbp (by omega)]
   exact hR9 (q + 1) _ _ (by omega) ⟨rfl,by omega,rfl,Zgq (by omega) hk6 d1⟩
  ·apply Zcd.A9x2i
   apply Zcd.J14i
   have:q=nv:=by omega
   subst this
   rw [List.take_of_length_le (by omega)] at hk6
   rw [Zbp (by omega)]
   refine hR (g + 1) _ _ (by omega) ⟨rfl,by omega,?_,Zgq hgl hk (by rw [hni]; exact hk6)⟩
   exact hS.trans ((sq.mono hS.le).trans ((t3.mono (by omega)).trans ((t4.mono (by omega)).trans (t5.mono (by omega)))))
 ·apply Zcd.A4x0i
  have:g=n2:=by omega
  subst this
  rw [List.take_of_length_le (by omega)] at hk
  exact ⟨by rw [hk],SS⟩
end Go.Sim

set_option linter.unusedVariables false
set_option linter.unusedSimpArgs false
set_option maxRecDepth 20000
namespace Go.Sim
open Go Go.RowKit

theorem Yas (x t:List Nat):((Zpc x).all fun c=>decide (c∈Zpc t))=(Zpc x).all fun c=>decide (c∈t):=by
 rw [Bool.eq_iff_iff,List.all_eq_true,List.all_eq_true]
 constructor
 ·intro h c hc
  have:=h c hc
  simp only [Zpc,decide_eq_true_eq,List.mem_filter] at this ⊢
  exact this.2
 ·intro h c hc
  have h1:=h c hc
  have hv:c∈Zgw:=(List.mem_filter.1 hc).1
  simp only [Zpc,decide_eq_true_eq,List.mem_filter] at h1 ⊢
  exact ⟨hv,h1⟩
theorem Zre {h:Zaa} {a a1 a2:Pt} {n c n1 c1 n2 c2:Nat} {e e1 e2:Bool} {cs ns:List Nd} {ct tt:List Nat} (r:Row h.length h a (n * 2) (Zdo eP cs)) (hc:n≤c) (hn:n≤1048576) (hs:∀ p∈cs,p.2.length≤1048576) (hb256:∀ p∈cs,∀ b∈p.1,b < 256)
  (r2:Row h.length h a2 (n2 * 2) (Zdo eP ns)) (hn2:n2≤1048576) (hns:∀ p∈ns,p.2.length≤1048576) (htt:tt.length≤1048576) :
  Zad pg Zgs [.agg [.slice a n c e,.slice a1 n1 c1 e1],.agg [.str ct,.str tt,.slice a2 n2 c2 e2]] h fun v h'=>v=.bool (Zlc cs ((ct,tt),ns))∧Zbb h.length h h':=by
 have hl:cs.length=n:=by have:=r.1; rw [Zbg Zha] at this; omega
 have hl2:ns.length=n2:=by have:=r2.1; rw [Zbg Zha] at this; omega
 apply Zdd.call
 simp only [Zba]
 generalize hh0:h ++ [Zcp.cells Zao [.slice a n c e,.slice a1 n1 c1 e1] false]=h0
 generalize hh1:h0 ++ [Zcp.cells Zac [.str ct,.str tt,.slice a2 n2 c2 e2] false]=h1
 have s0:Zbb h.length h h0:=by rw [← hh0]; exact Zav
 have s01:Zbb h0.length h0 h1:=by rw [← hh1]; exact Zav
 have s1:Zbb h.length h h1:=s0.trans (s01.mono s0.le)
 have hl0:h0.length=h.length + 1:=by rw [← hh0]; simp
 have hl1:h1.length=h.length + 2:=by rw [← hh1]; simp [hl0]
 have w1:h1[h.length]?=some (.cells Zao [.slice a n c e,.slice a1 n1 c1 e1] false):=by rw [← hh1,Zyf (by omega),← hh0]; simp
 have i1:h1[h0.length]?=some (.cells Zac [.str ct,.str tt,.slice a2 n2 c2 e2] false):=by rw [← hh1]; simp
 simp only [Nat.add_zero,Zan w1,List.getElem?_cons_zero,Zai]
 refine (Zrt (r.same' s1) hc hn hs hb256).mono ?_
 rintro v h2 ⟨rfl,s2⟩
 have S2:Zbb h.length h h2:=s1.trans (s2.mono (by omega))
 have w2:h2[h.length]?=some (.cells Zao [.slice a n c e,.slice a1 n1 c1 e1] false):=by rw [s2.eq _ (by omega)]; exact w1
 have i2:h2[h0.length]?=some (.cells Zac [.str ct,.str tt,.slice a2 n2 c2 e2] false):=by rw [s2.eq _ (by omega)]; exact i1
 simp only [Zah]
 refine Zck (fun hb=>⟨by unfold Zlc; rw [hb]; rfl,S2⟩) (fun b1=>?_)
 rw [Zfv w2 (by simp)]
 simp only [List.drop_zero,List.take_succ_cons,List.take_zero,Zas,Zak,Zar,Nat.zero_add,Zan i2,List.getElem?_cons_succ,List.getElem?_cons_zero,Zai,Zap]
 refine (Zqm (r.same' S2) (by omega)).mono ?_
 rintro v h3 ⟨rfl,s3⟩
 have hle2:=s2.le
 have S3:Zbb h.length h h3:=S2.trans (s3.mono S2.le)
 have i3:h3[h0.length]?=some (.cells Zac [.str ct,.str tt,.slice a2 n2 c2 e2] false):=by rw [s3.eq _ (by omega)]; exact i2
 have w3:h3[h.length]?=some (.cells Zao [.slice a n c e,.slice a1 n1 c1 e1] false):=by rw [s3.eq _ (by omega)]; exact w2
 simp only [Zal,Ztd]
 refine Zck (fun hb=>⟨by unfold Zlc; rw [b1,hb]; rfl,S3⟩) (fun b2=>?_)
 simp only [Zan i3,List.getElem?_cons_succ,List.getElem?_cons_zero,Zap]
 refine (Zmj tt (by omega) h3).mono ?_
 rintro v h4 ⟨rfl,s4⟩
 have hle3:=s3.le
 have S4:Zbb h.length h h4:=S3.trans (s4.mono S3.le)
 have i4:h4[h0.length]?=some (.cells Zac [.str ct,.str tt,.slice a2 n2 c2 e2] false):=by rw [s4.eq _ (by omega)]; exact i3
 have w4:h4[h.length]?=some (.cells Zao [.slice a n c e,.slice a1 n1 c1 e1] false):=by rw [s4.eq _ (by omega)]; exact w3
 simp only [Zah]
 refine Zck (fun hb=>⟨by unfold Zlc; rw [b1,b2,hb]; rfl,S4⟩) (fun b3=>?_)
 simp only [Zan i4,List.getElem?_cons_succ,List.getElem?_cons_zero,Zap]
 refine Zaj (fun hb=>⟨by unfold Zlc; rw [b1,b2,b3]; simp [show ¬ tt.length≤20 by omega],S4⟩) (fun b4=>?_)
 have hvh:=Ynz b3
 have hne:=Ymg b3
 have htl:0 < tt.length:=by cases tt with | nil=>exact absurd rfl hne | cons=>simp
 refine ⟨⟨by omega,by omega⟩,?_⟩
 have hgd:tt.getD (Int.toNat 0) 0=tt.headD 0:=by cases tt <;> rfl
 rw [hgd]
 refine (Zpw _).mono ?_
 rintro v h5 ⟨rfl,rfl⟩
 simp only [Zah,← hvh]
 refine Zds (fun hb=>⟨by unfold Zlc; rw [hb]; simp,S4⟩) (fun b5=>?_)
 simp only [Zan i4,List.getElem?_cons_succ,List.getElem?_cons_zero,Zai]
 refine Zaj (fun hb=>⟨by unfold Zlc; simp [show ¬ ns.length≤3 by omega],S4⟩) (fun b6=>?_)
 rw [Ycu b1 b2 b3 (by omega) b5 (by omega)]
 apply Zdd.J3i
 simp only [Nat.zero_add,Zan i4,List.getElem?_cons_succ,List.getElem?_cons_zero,Zai]
 have hle4:=s4.le
 refine Zdd.L4ind _ _ _ _ _ _ _ _ _ _ (J:=fun (g:Nat) x50 h'=>x50=(g:Int)∧g≤n2∧Zbb h5.length h5 h'∧(ns.take g).all (Zie cs tt)=true) (fun g=>n2 - g) ?_ 0 _ _ ⟨rfl,by omega,Zbb.refl _ _,rfl⟩
 rintro g x50 h' ⟨rfl,hg,hS,hk⟩ R hR
 have SS:Zbb h.length h h':=S4.trans (hS.mono S4.le)
 unfold Zdd.L4t
 refine Zaj (fun hlt=>?_) (fun hge=>?_)
 ·obtain ⟨i,o,hgl,rfl,hil,hr,_⟩:=(r2.same SS).pr (k:=g) (by omega)
  simp only [Zau,Int.toNat_natCast,hr,Zas,Zak,Zar,Zap,Zba]
  rw [Zlv]
  have hlh:=hS.le
  generalize hq:h' ++ [Zcp.cells Zbl [.str ns[g].1,.str ns[g].2] false]=hq'
  have sq:Zbb h'.length h' hq':=by rw [← hq]; exact Zav
  have hql:hq'.length=h'.length + 1:=by rw [← hq]; simp
  have nq:hq'[h'.length]?=some (.cells Zbl [.str ns[g].1,.str ns[g].2] false):=by rw [← hq]; simp
  have wq:hq'[h.length]?=some (.cells Zao [.slice a n c e,.slice a1 n1 c1 e1] false):=by rw [sq.eq _ (by omega),hS.eq _ (by omega)]; exact w4
  have iq:hq'[h0.length]?=some (.cells Zac [.str ct,.str tt,.slice (some (i,o)) n2 c2 e2] false):=by rw [sq.eq _ (by omega),hS.eq _ (by omega)]; exact i4
  have row:∀ {hx:Zaa},hx[h.length]?=some (.cells Zao [.slice a n c e,.slice a1 n1 c1 e1] false)→Zbo hx (.ptr (some (h.length,0))) 2=some [.slice a n c e,.slice a1 n1 c1 e1]:=fun w=>by rw [Zfv w (by simp)]; rfl
  simp only [Zaq,Nat.add_zero,Nat.zero_add,row wq,Zan nq,List.getElem?_cons_succ,List.getElem?_cons_zero,Zas,Zak,Zar,Zai,Zap,true_and]
  have Sq:Zbb h.length h hq':=SS.trans (sq.mono SS.le)
  refine ⟨by omega,(Zqm (r.same' Sq) (by omega)).mono ?_⟩
  rintro v k3 ⟨rfl,t3⟩
  have T3:=Sq.trans (t3.mono Sq.le)
  have n3:k3[h'.length]?=some (.cells Zbl [.str ns[g].1,.str ns[g].2] false):=by rw [t3.eq _ (by omega)]; exact nq
  have w3':k3[h.length]?=some (.cells Zao [.slice a n c e,.slice a1 n1 c1 e1] false):=by rw [t3.eq _ (by omega)]; exact wq
  have i3':k3[h0.length]?=some (.cells Zac [.str ct,.str tt,.slice (some (i,o)) n2 c2 e2] false):=by rw [t3.eq _ (by omega)]; exact iq
  have ht3:=t3.le
  simp only [Zal,Ztd,row w3',Zan n3,List.getElem?_cons_succ,List.getElem?_cons_zero,Zap,true_and]
  have fail:∀ hx,Zbb h.length h hx→Zie cs tt ns[g]=false→(Zag.bool false=Zag.bool (ns.all (Zie cs tt))∧Zbb h.length h hx):=fun hx hs hf=>⟨by rw [Zqt hgl hf],hs⟩
  refine Zck (fun hb=>fail _ T3 (by unfold Zie; rw [hb]; rfl)) (fun m1=>?_)
  have hnl:=hns ns[g] (List.getElem_mem hgl)
  refine (Zmj _ (by omega) k3).mono ?_
  rintro v k4 ⟨rfl,t4⟩
  have T4:=T3.trans (t4.mono T3.le)
  have ht4:=t4.le
  have n4:k4[h'.length]?=some (.cells Zbl [.str ns[g].1,.str ns[g].2] false):=by rw [t4.eq _ (by omega)]; exact n3
  have w4':k4[h.length]?=some (.cells Zao [.slice a n c e,.slice a1 n1 c1 e1] false):=by rw [t4.eq _ (by omega)]; exact w3'
  have i4':k4[h0.length]?=some (.cells Zac [.str ct,.str tt,.slice (some (i,o)) n2 c2 e2] false):=by rw [t4.eq _ (by omega)]; exact i3'
  simp only [Zah,row w4',Zan n4,Zan i4',List.getElem?_cons_succ,List.getElem?_cons_zero,Zap,true_and]
  refine Zck (fun hb=>fail _ T4 (by unfold Zie; rw [m1,hb]; rfl)) (fun m2=>?_)
  refine Zaj (fun hb=>fail _ T4 (by unfold Zie; simp [show ¬ ns[g].2.length≤20 by omega])) (fun m3=>?_)
  refine (Zvl _ hnl).mono ?_
  rintro v k5 ⟨rfl,t5⟩
  have T5:=T4.trans (t5.mono T4.le)
  have ht5:=t5.le
  have n5:k5[h'.length]?=some (.cells Zbl [.str ns[g].1,.str ns[g].2] false):=by rw [t5.eq _ (by omega)]; exact n4
  have w5':k5[h.length]?=some (.cells Zao [.slice a n c e,.slice a1 n1 c1 e1] false):=by rw [t5.eq _ (by omega)]; exact w4'
  have i5':k5[h0.length]?=some (.cells Zac [.str ct,.str tt,.slice (some (i,o)) n2 c2 e2] false):=by rw [t5.eq _ (by omega)]; exact i4'
  simp only [row w5',Zan n5,Zan i5',List.getElem?_cons_succ,List.getElem?_cons_zero,Zap,true_and]
  refine (Zvl _ htt).mono ?_
  rintro v k6 ⟨rfl,t6⟩
  have T6:=T5.trans (t6.mono T5.le)
  have ht6:=t6.le
  have n6:k6[h'.length]?=some (.cells Zbl [.str ns[g].1,.str ns[g].2] false):=by rw [t6.eq _ (by omega)]; exact n5
  have w6':k6[h.length]?=some (.cells Zao [.slice a n c e,.slice a1 n1 c1 e1] false):=by rw [t6.eq _ (by omega)]; exact w5'
  have i6':k6[h0.length]?=some (.cells Zac [.str ct,.str tt,.slice (some (i,o)) n2 c2 e2] false):=by rw [t6.eq _ (by omega)]; exact i5'
  simp only [row w6',Zan n6,Zan i6',List.getElem?_cons_succ,List.getElem?_cons_zero,Zap,true_and]
  rw [if_pos m2,if_pos b3]
  have hvb:∀ s,(Zpc s).length≤6:=fun s=>List.length_filter_le _ _
  have hv1:=hvb ns[g].2
  have hv2:=hvb tt
  refine (Yfs _ _ (by omega) (by omega)).mono ?_
  rintro v k7 ⟨rfl,rfl⟩
  have hni:Zie cs tt ns[g]=(Zpc ns[g].2).all fun v=>decide (v∈tt):=by unfold Zie; rw [m1,m2]; simp [show ns[g].2.length≤20 by omega]
  simp only [Zah,row w6',Zan n6,Zan i6',List.getElem?_cons_succ,List.getElem?_cons_zero,Zap,true_and,Yas,← hni]
  refine Zck (fun hb=>fail _ T6 hb) (fun m4=>?_)
  apply Zdd.J8i
  rw [Zbp (by omega)]
  refine hR (g + 1) _ _ (by omega) ⟨rfl,by omega,?_,Zgq hgl hk m4⟩
  exact hS.trans ((sq.mono hS.le).trans ((t3.mono (by omega)).trans ((t4.mono (by omega)).trans ((t5.mono (by omega)).trans (t6.mono (by omega))))))
 ·apply Zdd.A4x0i
  have:g=n2:=by omega
  subst this
  rw [List.take_of_length_le (by omega)] at hk
  exact ⟨by rw [hk],SS⟩
end Go.Sim
