/- A part of the proof of a statement of this seat: see the text that holds the theorem. No condition. -/
import Derived.Test.YtdglddliggejdaaPTCGr
import Derived.Test.YtdglddliggejdaaCSplit
import Derived.Test.YtdglddliggejdaaSimX
import Derived.Test.YtdglddliggejdaaPTCParse
import Derived.Test.YtdglddliggejdaaNm
import Derived.Test.YtdglddliggejdaaPTCWVar2
set_option linter.unusedVariables false
set_option linter.unusedSimpArgs false
set_option linter.all false
set_option linter.unusedVariables false
namespace Go.Sim
open Go Go.RowKit

theorem Zxd {h:Zaa} {c t:List Nat} {x:Int} (hc:c.length≤9223372036854775807) (ht:t.length≤9223372036854775807) (hx:0≤x∧x≤1048576) :
  Zad pg Zir [.agg [.str c,.str t],.int .i64 x] h fun v h'=>∃ y,v=.int .i64 y∧Zbb h.length h h'∧(0≤y→(c.length:Int) + t.length + y=x):=by
 apply Zoe.call
 simp only [Zba]
 have s1:Zbb h.length h (h ++ [.cells Znt [.str c,.str t] false]):=Zbb.app (Nat.le_refl _) _
 simp [Zae]
 rw [IntWalk.i64_in _ (by omega)]
 refine Zam (fun hlt=>s1) (fun hge=>?_)
 rw [IntWalk.i64_in _ (by omega)]
 exact Zam (fun hlt=>s1) (fun hge=>⟨s1,by omega⟩)
theorem Zxh {h:Zaa} {c t c' t':List Nat} :
  Zad pg Zin [.agg [.str c,.str t],.agg [.str c',.str t']] h fun v h'=>v=.bool (decide (c=c') && decide (t=t'))∧Zbb h.length h h':=by
 apply Zoq.call
 simp only [Zba]
 simp [Zae]
 by_cases e1:c=c' <;> by_cases e2:t=t' <;> simp [e1,e2] <;> exact Zbb.app (Nat.le_refl _) _
theorem Zwu {h:Zaa} {c t:List Nat} :
  Zad pg Zio [.agg [.str c,.str t]] h fun v h'=>v=.agg [.str c,.str t]∧Zbb h.length h h':=by
 apply Zoc.call
 simp only [Zba]
 simp [Zae,Zbc,Zbk,Zbs,List.getElem?_append,List.getElem?_set]
 exact Zbb.app (Nat.le_refl _) _

def prs (l:List (List Nat × List Nat)):List Zag:=l.flatMap fun p=>[.str p.1,.str p.2]
@[simp] theorem Ymy:prs []=[]:=rfl
@[simp] theorem Yhd (p:List Nat × List Nat) (l:List (List Nat × List Nat)):prs (p :: l)=.str p.1 :: .str p.2 :: prs l:=rfl
@[simp] theorem Ykn (a b:List (List Nat × List Nat)):prs (a ++ b)=prs a ++ prs b:=by simp [prs]
theorem Zfd (l:List (List Nat × List Nat)):(prs l).length=l.length * 2:=by
 induction l with
 | nil=>rfl
 | cons p l ih=>simp [ih]; omega
theorem Zve:∀ (l:List (List Nat × List Nat)) (k:Nat),(prs l).drop (k * 2)=prs (l.drop k)
 | l,0=>by simp
 | [],k + 1=>by simp
 | p :: l,k + 1=>by rw [Nat.succ_mul]; simpa using Zve l k
theorem Row.pair {b:Nat} {h:Zaa} {a:Pt} {n:Nat} {l:List (List Nat × List Nat)} (r:Row b h a (n * 2) (prs l)) {k:Nat} (hk:k < n) :
  ∃ i o,∃ hk':k < l.length,a=some (i,o)∧i < b∧Zbk h (.ptr (some (i,o + k * 2))) 2=some [.str l[k].1,.str l[k].2]:=by
 have hl:l.length=n:=by have:=r.1; rw [Zfd] at this; omega
 obtain ⟨_,r⟩:=r
 rcases r with h0 | ⟨i,o,t,all,ro,ha,hb,hi,hle,hcs⟩
 ·omega
 ·refine ⟨i,o,by omega,ha,hb,?_⟩
  have hd:(all.drop (o + k * 2)).take 2=[.str l[k].1,.str l[k].2]:=by
   have h1:((all.drop o).take (n * 2)).drop (k * 2)=prs (l.drop k):=by rw [← hcs,Zve]
   rw [List.drop_take,List.drop_drop] at h1
   have h2:(all.drop (o + k * 2)).take 2=((all.drop (o + k * 2)).take (n * 2 - k * 2)).take 2:=by rw [List.take_take,Nat.min_eq_left (by omega)]
   rw [h2,h1,List.drop_eq_getElem_cons (by omega)]
   simp only [Yhd,List.take_succ_cons,List.take_zero]
  simp only [Zbk,hi]
  rw [if_pos (by omega),hd]

def Zwj (l:List (List Nat × List Nat)):Nat:=(l.map fun p=>p.1.length + p.2.length).sum
theorem Zrn {l:List (List Nat × List Nat)} {g:Nat} (h:g < l.length):Zwj (l.take (g + 1))=Zwj (l.take g) + (l[g].1.length + l[g].2.length):=by
 unfold Zwj; rw [List.take_succ_eq_append_getElem h,List.map_append,List.sum_append]; simp
theorem Zxq (l:List (List Nat × List Nat)) (g:Nat):Zwj (l.take g)≤Zwj l:=by
 conv=>rhs; rw [← List.take_append_drop g l]
 unfold Zwj; rw [List.map_append,List.sum_append]; omega
theorem Yaq {l:List (List Nat × List Nat)} {g:Nat} (h:g < l.length):l[g].1.length + l[g].2.length≤Zwj l:=by
 have:=Zrn h; have:=Zxq l (g + 1); omega
theorem Yby {h:Zaa} {a:Pt} {n c:Nat} {e:Bool} {l:List (List Nat × List Nat)} (r:Row h.length h a (n * 2) (prs l)) (hs:∀ p∈l,p.1.length≤9223372036854775807∧p.2.length≤9223372036854775807) (hn:n≤9223372036854775807) {left:Int} (hl:0≤left∧left≤1048576) :
  Zad pg Zkd [.slice a n c e,.int .i64 left] h fun v h'=>∃ x,v=.int .i64 x∧Zbb h.length h h'∧(0≤x→(n:Int) + Zwj l + x=left):=by
 have hll:l.length=n:=by have:=r.1; rw [Zfd] at this; omega
 apply Zgl.call
 rw [IntWalk.i64_in _ (by omega)]
 refine Zam (fun hlt=>?_) (fun hge=>?_)
 ·exact ⟨_,rfl,Zbb.refl _ _,by omega⟩
 ·refine Zgl.L5ind _ _ _ _ _ (J:=fun (g:Nat) x1 x5 h'=>x5=(g:Int)∧Zbb h.length h h'∧g≤n∧0≤x1∧x1 + n + Zwj (l.take g)=left) (fun g=>n - g) ?_ 0 _ 0 h ⟨rfl,Zbb.refl _ _,by omega,by omega,by simp [Zwj]⟩
  rintro g x1 x5 h' ⟨rfl,hS,hg,h0,ht⟩ R hR
  unfold Zgl.L5t
  refine Zam (fun hlt=>?_) (fun hge=>?_)
  ·have hlt':g < n:=by omega
   obtain ⟨i,o,hgl,rfl,hi,hc⟩:=(r.same hS).pair hlt'
   have hsl:=hs _ (List.getElem_mem hgl)
   simp only [Zav,Int.toNat_natCast,hc,Zas,Zai,Zaq,Zap]
   refine ⟨by omega,(Zxd hsl.1 hsl.2 (by omega)).mono fun v h1 ⟨y,hv,hs1,hy⟩=>?_⟩
   subst hv
   simp only [Zao]
   have hS1:=hS.trans (hs1.mono hS.le)
   refine Zam (fun hneg=>⟨_,rfl,hS1,by omega⟩) (fun hneg=>?_)
   rw [Zkj hlt' (by omega)]
   have hyy:=hy (by omega)
   refine hR (g + 1) _ _ _ (by omega) ⟨rfl,hS1,by omega,by omega,?_⟩
   rw [Zrn hgl]; omega
  ·have:g=n:=by omega
   subst this
   rw [List.take_of_length_le (by omega)] at ht
   exact Zgl.A5x0i _ _ _ ⟨_,rfl,hS,by omega⟩
end Go.Sim

set_option linter.unusedVariables false
namespace Go.Sim
open Go Go.RowKit
theorem Zzp:∀ (l:List (List Nat × List Nat)) (k:Nat),(prs l).take (k * 2)=prs (l.take k)
 | l,0=>by simp
 | [],k + 1=>by simp
 | p :: l,k + 1=>by rw [Nat.succ_mul]; simpa using Zzp l k
theorem Zwf {h:Zaa} {i k:Nat} {t:TypeId} {L:List (List Nat × List Nat)} {a b:List Nat} (hi:h[i]?=some (.cells t (prs L) false)) (hk:k < L.length) :
  Zbc h (.ptr (some (i,k * 2))) [.str a,.str b]=some (h.set i (.cells t (prs (L.take k ++ [(a,b)] ++ L.drop (k + 1))) false)):=by
 have hle:k * 2 + 2≤(prs L).length:=by rw [Zfd]; omega
 simp only [Zbc,hi,List.length_cons,List.length_nil,Nat.zero_add,hle,if_true,Zbs]
 rw [Zzp,show k * 2 + (1 + 1)=(k + 1) * 2 by omega,Zve]
 simp
theorem Yas (n:Nat):reps n [.str [],.str []]=prs (List.replicate n ([],[])):=by
 unfold reps
 induction n with
 | zero=>rfl
 | succ n ih=>rw [List.replicate_succ,List.flatten_cons,ih,List.replicate_succ]; rfl
theorem Ycp {h:Zaa} {a0 a1:Pt} {n0 n1 c0 c1:Nat} {e0 e1:Bool} {l0 l1:List (List Nat × List Nat)} (r0:Row h.length h a0 (n0 * 2) (prs l0)) (r1:Row h.length h a1 (n1 * 2) (prs l1)) (hn:n0≤4611686018427387904) (heq:l0=l1) :
  Zad pg Zkb [.slice a0 n0 c0 e0,.slice a1 n1 c1 e1] h fun v h'=>v=.bool true∧Zbb h.length h h':=by
 subst heq
 have hl0:l0.length=n0:=by have:=r0.1; rw [Zfd] at this; omega
 have hl1:l0.length=n1:=by have:=r1.1; rw [Zfd] at this; omega
 have:n1=n0:=by omega
 subst this
 apply Zgh.call
 simp only [beq_self_eq_true,Bool.not_true,Zbg]
 refine Zgh.L4ind _ _ _ _ _ _ _ _ _ (J:=fun (k:Nat) x5 h'=>Zbb h.length h h'∧x5=(k:Int)∧k≤n1) (fun k=>n1 - k) ?_ 0 0 h ⟨Zbb.refl _ _,rfl,by omega⟩
 rintro k x5 h' ⟨hs,rfl,hk⟩ R hR
 unfold Zgh.L4t
 refine Zam (fun hlt=>?_) (fun hge=>Zgh.A4x0i _ _ ⟨rfl,hs⟩)
 have hlt':k < n1:=by omega
 obtain ⟨i,o,hgl,rfl,_,hc0⟩:=(r0.same hs).pair hlt'
 obtain ⟨i',o',_,rfl,_,hc1⟩:=(r1.same hs).pair hlt'
 simp only [Zav,Int.toNat_natCast,hc0,hc1,Zas,Zai,Zaq,Zap,true_and]
 refine ⟨⟨by omega,by omega⟩,⟨by omega,by omega⟩,Zxh.mono fun v h1 ⟨hv,hs1⟩=>?_⟩
 subst hv
 simp only [Zah,decide_true,Bool.and_self,Bool.not_true,Zbg]
 rw [Zkj hlt' (by omega)]
 exact hR (k + 1) _ _ (by omega) ⟨hs.trans (hs1.mono hs.le),rfl,by omega⟩

def need (p:List Nat × List Nat):List Nat:=p.1 ++ [32] ++ p.2
end Go.Sim

set_option linter.unusedSimpArgs false
namespace Go.Sim

def Zgk:List Nat:=[88,89,90,120,121,122]
def Znr (s:List Nat):List Nat:=Zgk.filter fun v=>decide (v∈s)
theorem Ydt (c:Nat):c∈Zgk ↔ Zay c=true:=by simp [Zgk,Zay]; omega
theorem Zwp {s:List Nat} (h:Zng s=true):∃ t,Zid s=some t:=Option.isSome_iff_exists.1 h
theorem Zus {s:List Nat} {t:Ty} (h:Zid s=some t):Zng s=true:=by simp [Zng,h]
end Go.Sim

set_option linter.unusedSimpArgs false
namespace Go.Sim

abbrev Nd:=List Nat × List Nat
abbrev Ins:=Nd × List Nd
structure Wd where
 cs:List Nd
 is:List Ins

def Zqh (s:List Nat):Bool:=match s with | [c]=>decide (65≤c∧c≤84) | _=>false
def Zgj (cs:List Nd) (c:List Nat):Bool:=cs.any fun x=>decide (x.1=c)
def Zsq (cs:List Nd) (s:List Nat) (k:Nat):Bool:=Zgj cs [s.getD k 0] && (k == 0 || decide (s.getD (k - 1) 0 < s.getD k 0))
def Zxj (cs:List Nd) (s:List Nat):Bool:=(List.range s.length).all (Zsq cs s)
def Zsr (cs:List Nd) (i:Nat):Bool:=Zqh (cs.getD i ([],[])).1 && (i == 0 || Zdr (cs.getD (i - 1) ([],[])).1 (cs.getD i ([],[])).1) && Zxj (cs.take i) (cs.getD i ([],[])).2
def Zgz (cs:List Nd):Bool:=(List.range cs.length).all (Zsr cs) && decide (1≤cs.length∧cs.length≤4)
def Znf (s:List Nat):Bool:=match s with | [c]=>Zay c | _=>false
noncomputable def Zhi (cs:List Nd) (t:List Nat) (n:Nd):Bool:=Zgj cs n.1 && Zng n.2 && decide (n.2.length≤20) && (Znr n.2).all fun v=>decide (v∈t)
noncomputable def Zkh (cs:List Nd) (i:Ins):Bool:=Zgz cs && Zgj cs i.1.1 && Zng i.1.2 && decide (i.1.2.length≤20) && !Znf i.1.2 && decide (i.2.length≤3) && i.2.all (Zhi cs i.1.2)
noncomputable def Zfy (w:Wd):Bool:=Zgz w.cs && decide (w.is.length≤10) && w.is.all (Zkh w.cs)
theorem Zhz {f:Nat→Bool} {g:Nat} (h:(List.range g).all f=true) (k:f g=true):(List.range (g + 1)).all f=true:=by
 rw [List.range_succ,List.all_append,h]; simp [k]
theorem Zlc {f:Nat→Bool} {g n:Nat} (h:g < n) (k:f g=false):(List.range n).all f=false:=by
 rw [List.all_eq_false]; exact ⟨g,List.mem_range.2 h,by simp [k]⟩
theorem Zft {α:Type} {f:α→Bool} {l:List α} {g:Nat} (hg:g < l.length) (h:(l.take g).all f=true) (k:f l[g]=true):(l.take (g + 1)).all f=true:=by
 rw [List.take_succ_eq_append_getElem hg,List.all_append,h]; simp [k]
theorem Zpp {α:Type} {f:α→Bool} {l:List α} {g:Nat} (hg:g < l.length) (k:f l[g]=false):l.all f=false:=by
 rw [List.all_eq_false]; exact ⟨_,List.getElem_mem hg,by simp [k]⟩
theorem Zhu {α:Type} {l:List α} {g:Nat} {d:α} (h:g < l.length):l.getD g d=l[g]:=by simp [List.getD,h]
theorem Zqz {cs:List Nd} {c:List Nat} {g:Nat} (hg:g < cs.length):Zgj (cs.take (g + 1)) c=(Zgj (cs.take g) c || decide (cs[g].1=c)):=by
 unfold Zgj; rw [List.take_succ_eq_append_getElem hg,List.any_append]; simp
def Ydp (cs:List Nd) (c:List Nat):Int:=if Zgj cs c then (cs.findIdx fun x=>decide (x.1=c):Nat) else -1
theorem Zsh (cs:List Nd) (c:List Nat):decide (Ydp cs c < 0)=!Zgj cs c:=by
 unfold Ydp; cases h:Zgj cs c <;> simp
theorem Yku {t:List Nat} (h:Zng t=true):Znf t=Zay (t.headD 0):=by
 obtain ⟨u,hu,rfl,_⟩:=Yak.1 h
 cases u with
 | k c=>rfl
 | u c a=>
  have h1:=hu
  simp only [Ty.ok,Bool.and_eq_true,Bool.or_eq_true,beq_iff_eq] at h1
  rcases h1.1 with rfl | rfl <;> rfl
 | w c a b=>
  have h1:=hu
  simp only [Ty.ok,Bool.and_eq_true,beq_iff_eq] at h1
  rcases h1.1.1 with rfl; rfl
end Go.Sim

set_option linter.unusedVariables false
set_option linter.unusedSimpArgs false
set_option maxRecDepth 20000
namespace Go.Sim
open Go Go.RowKit

theorem Ydk {h:Zaa} {x a b:Int}:Zad pg Zlg [.int .i64 x,.int .i64 a,.int .i64 b] h fun v h'=>v=.bool (decide (a≤x∧x≤b))∧h'=h:=by
 apply Zrt.call
 refine Zam (fun h1=>?_) (fun h1=>?_)
 ·have:a≤x:=h1
  simp [this]
 ·have:¬ a≤x:=h1
  simp [this]
theorem Ycb {h:Zaa} (s:List Nat):Zad pg Zju [.str s] h fun v h'=>v=.bool (Zqh s)∧h'=h:=by
 apply Zni.call
 match s with
 | []=>simp [Zqh]
 | [c]=>
  simp only [List.length_cons,List.length_nil,show ((0 + 1:Nat):Int)=1 from rfl,beq_self_eq_true,Zcl]
  have e1:Zdr [c] [65]=decide (c < 65):=by simp [Zdr]
  have e2:Zdr [c] [84]=decide (c < 84):=by simp [Zdr]
  rw [e1,e2]
  refine Zoy (fun h1=>?_) (fun h1=>?_)
  ·refine ⟨?_,by trivial⟩
   congr 1
   simp [Zqh]
   rw [Bool.eq_iff_iff]; simp; omega
  ·refine ⟨?_,by trivial⟩
   simp [Zqh]; omega
 | c :: d :: r=>
  refine Zea (fun h1=>?_) (fun h1=>⟨rfl,rfl⟩)
  simp at h1; omega
theorem Zwa {h:Zaa} (s:List Nat) (hb:∀ b∈s,b < 256):Zad pg Zig [.str s] h fun v h'=>v=.bool (Zqh s)∧h'=h:=by
 apply Zlx.call
 match s,hb with
 | [],_=>simp [Zqh]
 | [c],hb=>
  have hc:=hb c (by simp)
  simp only [List.length_cons,List.length_nil,show ((0 + 1:Nat):Int)=1 from rfl,beq_self_eq_true,Zcl]
  refine ⟨⟨by omega,by simp⟩,?_⟩
  simp only [Int.toNat_zero,List.getD_cons_zero]
  rw [IntWalk.i64_in _ (by omega)]
  refine Ydk.mono ?_
  rintro v h' ⟨rfl,rfl⟩
  simp only [Zah]
  refine ⟨?_,by trivial⟩
  congr 1
  simp [Zqh]; rw [Bool.eq_iff_iff]; simp; omega
 | c :: d :: r,_=>
  refine Zea (fun h1=>?_) (fun h1=>⟨rfl,rfl⟩)
  simp at h1; omega
def Zet {α:Type} (ty:TypeId) (enc:α→List Zag) (b:Nat) (h:Zaa) (a:Pt) (n:Nat) (l:List α):Prop:=l.length=n∧(n=0 ∨ ∃ i,a=some (i,0)∧b≤i∧h[i]?=some (.cells ty (Zen enc l) false))
theorem Zet.row {α:Type} {ty:TypeId} {enc:α→List Zag} {w b:Nat} {h:Zaa} {a:Pt} {n:Nat} {l:List α} (hw:∀ x,(enc x).length=w) (f:Zet ty enc b h a n l):Row h.length h a (n * w) (Zen enc l):=by
 obtain ⟨hl,h0 | ⟨i,ha,hb,hi⟩⟩:=f
 ·subst h0
  have:l=[]:=List.eq_nil_of_length_eq_zero hl
  subst this; simp; exact Row.nil
 ·rw [ha]; exact (Vec.mk1 (n:=0) (c:=0) hi).row (by rw [Zbj hw,hl])
theorem Zet.same {α:Type} {ty:TypeId} {enc:α→List Zag} {b:Nat} {h h':Zaa} {a:Pt} {n:Nat} {l:List α} (f:Zet ty enc b h a n l) (s:Zbb h.length h h'):Zet ty enc b h' a n l:=
 ⟨f.1,f.2.imp id fun ⟨i,ha,hb,hi⟩=>⟨i,ha,hb,by rw [s.eq i (Own.lt hi)]; exact hi⟩⟩
end Go.Sim

set_option linter.unusedVariables false
set_option linter.unusedSimpArgs false
set_option maxRecDepth 20000
namespace Go.Sim
open Go Go.RowKit

def Yga (a:Pt) (n:Nat) (h h':Zaa):Prop:=h.length≤h'.length∧∀ j,j < h.length→(∀ i,a=some (i,0)→n≠0→j≠i)→h'[j]?=h[j]?
theorem Yga.refl (a:Pt) (n:Nat) (h:Zaa):Yga a n h h:=⟨Nat.le_refl _,fun _ _ _=>rfl⟩
theorem Yga.same {a:Pt} {n:Nat} {h h1 h2:Zaa} (o:Yga a n h h1) (s:Zbb h1.length h1 h2):Yga a n h h2:=⟨Nat.le_trans o.1 s.le,fun j hj hn=>by rw [s.eq j (by have:=o.1; omega)]; exact o.2 j hj hn⟩
theorem Yga.set {n i:Nat} {h h1:Zaa} {x:Zcp} (o:Yga (some (i,0)) n h h1) (hn:n≠0):Yga (some (i,0)) n h (h1.set i x):=⟨by simp; exact o.1,fun j hj hne=>by rw [Zbq (fun e=>hne i rfl hn e.symm)]; exact o.2 j hj hne⟩
theorem Row.only {b:Nat} {h h':Zaa} {a a':Pt} {n m:Nat} {cs:List Zag} (r:Row b h a m cs) (o:Yga a' n h h') (hb:∀ i,a'=some (i,0)→n≠0→b≤i):Row b h' a m cs:=by
 obtain ⟨hl,r⟩:=r
 refine ⟨hl,r.imp id ?_⟩
 rintro ⟨i,o',t,all,ro,ha,hi,hg,x⟩
 exact ⟨i,o',t,all,ro,ha,hi,by rw [o.2 i (Own.lt hg) fun j hj hn=>by have:=hb j hj hn; omega]; exact hg,x⟩
theorem Zet.only {α:Type} {ty:TypeId} {enc:α→List Zag} {b:Nat} {h h':Zaa} {a a':Pt} {n m:Nat} {l:List α} (f:Zet ty enc b h a n l) (o:Yga a' m h h') (hb:∀ i,a'=some (i,0)→m≠0→∀ j,a=some (j,0)→j≠i):Zet ty enc b h' a n l:=
 ⟨f.1,f.2.imp id fun ⟨i,ha,hbi,hi⟩=>⟨i,ha,hbi,by rw [o.2 i (Own.lt hi) fun j hj hn=>hb j hj hn i ha]; exact hi⟩⟩
end Go.Sim

set_option linter.unusedVariables false
set_option linter.unusedSimpArgs false
set_option maxRecDepth 20000
namespace Go.Sim
open Go Go.RowKit

structure EI where
 c:List Nat
 t:List Nat
 a:Pt
 n:Nat
 cp:Nat
 e:Bool
 deriving Inhabited
def eN (x:EI):List Zag:=[.str x.c,.str x.t,.slice x.a x.n x.cp x.e]
theorem Zxa (x:EI):(eN x).length=3:=rfl
def Yjw (h:Zaa) (x:EI) (i:Ins):Prop:=x.c=i.1.1∧x.t=i.1.2∧Row h.length h x.a (x.n * 2) (Zen eP i.2)
def Ydd (h:Zaa) (xs:List EI) (is:List Ins):Prop:=xs.length=is.length∧∀ (k:Nat) (x:EI) (i:Ins),xs[k]?=some x→is[k]?=some i→Yjw h x i
structure Zor (h:Zaa) (a0:Pt) (n0 c0:Nat) (a1:Pt) (n1 c1:Nat) (w:Wd):Prop where
 cls:Row h.length h a0 (n0 * 2) (Zen eP w.cs)
 ins:∃ xs,Row h.length h a1 (n1 * 3) (Zen eN xs)∧Ydd h xs w.is
 le0:n0≤c0
 le1:n1≤c1
theorem Row.same' {h h':Zaa} {a:Pt} {n:Nat} {cs:List Zag} (r:Row h.length h a n cs) (s:Zbb h.length h h'):Row h'.length h' a n cs:=(r.same s).mono s.le
theorem Yjw.same {h h':Zaa} {x:EI} {i:Ins} (r:Yjw h x i) (s:Zbb h.length h h'):Yjw h' x i:=⟨r.1,r.2.1,r.2.2.same' s⟩
theorem Ydd.same {h h':Zaa} {xs:List EI} {is:List Ins} (r:Ydd h xs is) (s:Zbb h.length h h'):Ydd h' xs is:=⟨r.1,fun k x i hx hi=>(r.2 k x i hx hi).same s⟩
theorem Zor.same {h h':Zaa} {a0 a1:Pt} {n0 c0 n1 c1:Nat} {w:Wd} (r:Zor h a0 n0 c0 a1 n1 c1 w) (s:Zbb h.length h h'):Zor h' a0 n0 c0 a1 n1 c1 w:=
 ⟨r.cls.same' s,r.ins.imp fun xs ⟨r1,r2⟩=>⟨r1.same' s,r2.same s⟩,r.le0,r.le1⟩
theorem Yjw.len {h:Zaa} {x:EI} {i:Ins} (r:Yjw h x i):i.2.length=x.n:=by have:=r.2.2.1; rw [Zbj Zhg] at this; omega
theorem Zor.len0 {h:Zaa} {a0 a1:Pt} {n0 c0 n1 c1:Nat} {w:Wd} (r:Zor h a0 n0 c0 a1 n1 c1 w):w.cs.length=n0:=by have:=r.cls.1; rw [Zbj Zhg] at this; omega
theorem Zor.len1 {h:Zaa} {a0 a1:Pt} {n0 c0 n1 c1:Nat} {w:Wd} (r:Zor h a0 n0 c0 a1 n1 c1 w):w.is.length=n1:=by
 obtain ⟨xs,r1,r2,_⟩:=r.ins
 have:=r1.1; rw [Zbj Zxa] at this; omega
theorem Zor.inst {h:Zaa} {a0 a1:Pt} {n0 c0 n1 c1:Nat} {w:Wd} (r:Zor h a0 n0 c0 a1 n1 c1 w) {k:Nat} (hk:k < n1) :
  ∃ i o,∃ hk':k < w.is.length,∃ a n cp e,a1=some (i,o)∧i < h.length∧Zbk h (.ptr (some (i,o + k * 3))) 3=some [.str w.is[k].1.1,.str w.is[k].1.2,.slice a n cp e]∧Zae h (.ptr (some (i,o + k * 3)))=some (.str w.is[k].1.1)∧Zae h (.ptr (some (i,o + k * 3 + 1)))=some (.str w.is[k].1.2)∧Zae h (.ptr (some (i,o + k * 3 + 2)))=some (.slice a n cp e) ∧
   Row h.length h a (n * 2) (Zen eP w.is[k].2)∧w.is[k].2.length=n:=by
 have hl:=r.len1
 obtain ⟨xs,r1,r2,r3⟩:=r.ins
 obtain ⟨i,o,hk',ha,hi,hr,hc⟩:=Row.el Zxa r1 (by omega) hk (by omega)
 have hI:=r3 k xs[k] w.is[k] (List.getElem?_eq_getElem hk') (List.getElem?_eq_getElem (by omega))
 obtain ⟨e1,e2,e3⟩:=id hI
 refine ⟨i,o,by omega,xs[k].a,xs[k].n,xs[k].cp,xs[k].e,ha,hi,?_,?_,?_,?_,e3,hI.len⟩
 ·rw [hr,eN,e1,e2]
 ·have:=hc 0 (by omega); rw [← e1]; simpa [eN] using this
 ·have:=hc 1 (by omega); rw [← e2]; simpa [eN] using this
 ·have:=hc 2 (by omega); simpa [eN] using this
theorem Row.pr {b:Nat} {h:Zaa} {a:Pt} {n:Nat} {l:List Nd} (r:Row b h a (n * 2) (Zen eP l)) {k:Nat} (hk:k < n) :
  ∃ i o,∃ hk':k < l.length,a=some (i,o)∧i < b∧Zbk h (.ptr (some (i,o + k * 2))) 2=some [.str l[k].1,.str l[k].2]∧Zae h (.ptr (some (i,o + k * 2)))=some (.str l[k].1)∧Zae h (.ptr (some (i,o + k * 2 + 1)))=some (.str l[k].2):=by
 have hl:l.length=n:=by have:=r.1; rw [Zbj Zhg] at this; omega
 obtain ⟨i,o,hk',ha,hi,hr,hc⟩:=Row.el Zhg r hl hk (by omega)
 exact ⟨i,o,hk',ha,hi,hr,by simpa [eP] using hc 0 (by omega),by simpa [eP] using hc 1 (by omega)⟩

def Mid (lo hi:Nat) (h h':Zaa):Prop:=h.length≤h'.length∧∀ j,j < h.length→(j < lo ∨ hi≤j)→h'[j]?=h[j]?
theorem Mid.refl (lo hi:Nat) (h:Zaa):Mid lo hi h h:=⟨Nat.le_refl _,fun _ _ _=>rfl⟩
theorem Mid.trans {lo hi:Nat} {h h1 h2:Zaa} (a:Mid lo hi h h1) (b:Mid lo hi h1 h2):Mid lo hi h h2:=⟨Nat.le_trans a.1 b.1,fun j hj hn=>by rw [b.2 j (by have:=a.1; omega) hn]; exact a.2 j hj hn⟩
theorem Mid.of_same {lo hi:Nat} {h h':Zaa} (s:Zbb h.length h h'):Mid lo hi h h':=⟨s.le,fun j hj _=>s.eq j hj⟩
theorem Mid.same {lo hi:Nat} {h h1 h2:Zaa} (a:Mid lo hi h h1) (s:Zbb h1.length h1 h2):Mid lo hi h h2:=a.trans (Mid.of_same s)
theorem Mid.set {lo hi i:Nat} {h h1:Zaa} {x:Zcp} (o:Mid lo hi h h1) (h0:lo≤i) (h2:i < hi):Mid lo hi h (h1.set i x):=⟨by simp; exact o.1,fun j hj hne=>by rw [Zbq (by omega)]; exact o.2 j hj hne⟩
theorem Zet.in {α:Type} {ty:TypeId} {enc:α→List Zag} {b:Nat} {h:Zaa} {a:Pt} {n:Nat} {l:List α} (f:Zet ty enc b h a n l):∀ i,a=some (i,0)→n≠0→b≤i∧i < h.length:=by
 intro i hi hn
 rcases f.2 with h0 | ⟨j,ha,hb,hj⟩
 ·exact absurd h0 hn
 ·rw [hi] at ha; cases ha; exact ⟨hb,Own.lt hj⟩
structure Ztt (b:Nat) (h:Zaa) (a0:Pt) (n0:Nat) (a1:Pt) (n1:Nat) (xs:List EI) (w:Wd):Prop where
 cls:Zet Zbl eP b h a0 n0 w.cs
 ins:Zet Zac eN b h a1 n1 xs
 len:xs.length=w.is.length
 need:∀ (k:Nat) (x:EI) (i:Ins),xs[k]?=some x→w.is[k]?=some i→x.c=i.1.1∧x.t=i.1.2∧Zet Zbw eP b h x.a x.n i.2
 sep:∀ (j k:Nat) (x y:EI),j≠k→xs[j]?=some x→xs[k]?=some y→x.n≠0→y.n≠0→x.a≠y.a
 nn:∀ x∈xs,x.a≠none
 nc:a0≠none
theorem Ztt.same {b:Nat} {h h':Zaa} {a0 a1:Pt} {n0 n1:Nat} {xs:List EI} {w:Wd} (f:Ztt b h a0 n0 a1 n1 xs w) (s:Zbb h.length h h'):Ztt b h' a0 n0 a1 n1 xs w:=
 ⟨f.cls.same s,f.ins.same s,f.len,fun k x i hx hi=>⟨(f.need k x i hx hi).1,(f.need k x i hx hi).2.1,(f.need k x i hx hi).2.2.same s⟩,f.sep,f.nn,f.nc⟩
theorem Ztt.rep {b:Nat} {h:Zaa} {a0 a1:Pt} {n0 c0 n1 c1:Nat} {xs:List EI} {w:Wd} (f:Ztt b h a0 n0 a1 n1 xs w) (h0:n0≤c0) (h1:n1≤c1):Zor h a0 n0 c0 a1 n1 c1 w:=
 ⟨f.cls.row Zhg,⟨xs,f.ins.row Zxa,f.len,fun k x i hx hi=>⟨(f.need k x i hx hi).1,(f.need k x i hx hi).2.1,(f.need k x i hx hi).2.2.row Zhg⟩⟩,h0,h1⟩
end Go.Sim

set_option linter.unusedVariables false
set_option linter.unusedSimpArgs false
set_option maxRecDepth 20000
namespace Go.Sim
open Go Go.RowKit

def one (c:Nat):List Nat:=[c]
theorem Zym:pg.underlying Zth=some (.slice Zdp):=by kernel_rfl
theorem Yfj:pg.cellsOf Zdp=1:=by kernel_rfl
theorem Yfo:pg.okElem Zdp=true:=by kernel_rfl
theorem Yfv:pg.bytesOf Zdp≤127:=Nat.le_of_ble_eq_true (by kernel_rfl)
theorem Yjj (s:List Nat) (h:Zaa):Zad pg Zns [.str s] h fun v h'=>Zbb h.length h h'∧∃ a n c e,v=.slice a n c e∧Row h'.length h' a n (strs ((Znr s).map one)):=by
 apply Zgp.call
 simp only [Zba]
 have hlist:(h ++ [Zcp.cells Zdp [] false] ++ [Zcp.cells Zdp [.str [88],.str [89],.str [90],.str [120],.str [121],.str [122]] false])[h.length + 1]?=some (.cells Zdp [.str [88],.str [89],.str [90],.str [120],.str [121],.str [122]] false):=by simp
 have hlen:List.length (h ++ [Zcp.cells Zdp [] false])=h.length + 1:=by simp
 rw [hlen]
 refine Zgp.L3ind _ _ _ _ _ _ _ (J:=fun (g:Nat) a3 n3 c3 e3 x9 h'=>x9=(g:Int)∧g≤6∧Zbb h.length h h'∧h'[h.length + 1]?=some (.cells Zdp [.str [88],.str [89],.str [90],.str [120],.str [121],.str [122]] false)∧n3=(((Zgk.take g).filter fun v=>decide (v∈s)).map one).length∧Vec Zdp h' a3 n3 c3 (strs (((Zgk.take g).filter fun v=>decide (v∈s)).map one))∧∀ i,a3=some (i,0)→h.length≤i∧i≠h.length + 1) (fun g=>6 - g) ?_ 0 _ _ _ _ _ _
  ⟨rfl,by omega,(Zbb.app (Nat.le_refl _) _).trans (Zbb.app (by simp) _),hlist,by simp,Vec.mk1 (by simp),fun i hi=>by cases hi; omega⟩
 rintro g a3 n3 c3 e3 x9 h' ⟨rfl,hg,hS,hl,rfl,hv,ha⟩ R hR
 unfold Zgp.L3t
 refine Zam (fun hlt=>?_) (fun hge=>?_)
 ·have hlt':g < 6:=by omega
  have hc:∃ c,Zgk[g]?=some c∧Zae h' (.ptr (some (h.length + 1,0 + (g:Int).toNat * 1)))=some (.str [c]):=by
   rw [Zak hl,Int.toNat_natCast]
   match g,hlt' with
   | 0,_ | 1,_ | 2,_ | 3,_ | 4,_ | 5,_=>exact ⟨_,rfl,rfl⟩
  obtain ⟨c,hc1,hc2⟩:=hc
  simp only [Zav,hc2,Zap]
  refine ⟨by omega,Zjr.mono ?_⟩
  rintro v h2 ⟨rfl,rfl⟩
  simp only [Zah]
  have htk:Zgk.take (g + 1)=Zgk.take g ++ [c]:=by
   rw [List.take_succ,hc1]; rfl
  have hbd:(((Zgk.take g).filter fun v=>decide (v∈s)).map one).length≤6:=by
   rw [List.length_map]
   exact Nat.le_trans (List.length_filter_le _ _) (by simp; omega)
  refine Zam (fun hin=>?_) (fun hout=>?_)
  ·simp only [Zba]
   refine hv.push Zym Yfj Yfo Yfv (by simp) rfl (by omega) (fun h4 hl4 hi4 hk4=>?_)
   simp only [Zaj]
   apply Zgp.J7i
   rw [Zbx (by omega)]
   have hle:=hS.le
   refine hR (g + 1) _ _ _ _ _ _ (by omega) ⟨rfl,by omega,⟨by omega,fun j hj=>?_⟩,?_,?_,Vec.mk1 ?_,fun i hi=>by cases hi; have:=Own.lt hl; omega⟩
   ·rw [hk4 j (by omega) fun i hi=>by have:=(ha i hi).1; omega]; exact hS.eq j hj
   ·rw [hk4 _ (Own.lt hl) fun i hi=>(ha i hi).2.symm]; exact hl
   ·rw [htk,List.filter_append]; simp [hin]
   ·rw [hi4,htk,List.filter_append]; simp [hin,strs,one]
  ·apply Zgp.J7i
   rw [Zbx (by omega)]
   have hf:(Zgk.take (g + 1)).filter (fun v=>decide (v∈s))=(Zgk.take g).filter fun v=>decide (v∈s):=by rw [htk,List.filter_append]; simp [hout]
   refine hR (g + 1) _ _ _ _ _ _ (by omega) ⟨rfl,by omega,hS,hl,by rw [hf],by rw [hf]; exact hv,ha⟩
 ·have:g=6:=by omega
  subst this
  apply Zgp.A3x0i
  refine ⟨hS,_,_,_,_,rfl,hv.row (by simp)⟩
end Go.Sim

set_option linter.unusedVariables false
set_option linter.unusedSimpArgs false
set_option maxRecDepth 20000
namespace Go.Sim
open Go Go.RowKit

theorem Zfw {h:Zaa} {t:TypeId} {cs:List Zag} {o:Nat}:Zae (h ++ [.cells t cs false]) (.ptr (some (h.length,o)))=cs[o]?:=Zak (t:=t) (cs:=cs) (ro:=false) (by simp)
theorem Zwt {h:Zaa} {t:TypeId} {cs:List Zag} {n:Nat} (hn:cs.length=n):Zbk (h ++ [.cells t cs false]) (.ptr (some (h.length,0))) n=some cs:=by
 rw [Zff (show (h ++ [Zcp.cells t cs false])[h.length]?=some (.cells t cs false) by simp) (by omega)]; simp [← hn]
theorem Zat {h:Zaa} {x:Zcp}:Zbb h.length h (h ++ [x]):=Zbb.app (Nat.le_refl _) _
theorem Zpi {h:Zaa} {t:TypeId} {cs vs:List Zag} (hl:cs.length=vs.length):Zbc (h ++ [.cells t cs false]) (.ptr (some (h.length,0))) vs=some (h ++ [.cells t vs false]):=by
 rw [Zbh (show (h ++ [Zcp.cells t cs false])[h.length]?=some (.cells t cs false) by simp) (by omega)]
 simp [Zbs,hl]
theorem Zky {h:Zaa} {t:TypeId} {x y a b:Zag}:Zbc (h ++ [.cells t [x,y] false]) (.ptr (some (h.length,0))) [a,b]=some (h ++ [.cells t [a,b] false]):=Zpi rfl
theorem Ylk {h:Zaa} {t:TypeId} {x y z a b c:Zag}:Zbc (h ++ [.cells t [x,y,z] false]) (.ptr (some (h.length,0))) [a,b,c]=some (h ++ [.cells t [a,b,c] false]):=Zpi rfl
theorem Row.sl {b:Nat} {h:Zaa} {a:Pt} {n k:Nat} {l:List Nd} (r:Row b h a (n * 2) (Zen eP l)) (hk:k≤n) (hl:l.length=n):Row b h a (k * 2) (Zen eP (l.take k)):=by
 obtain ⟨h1,h2⟩:=r
 have e:(Zen eP (l.take k)).length=k * 2:=by rw [Zbj Zhg,List.length_take,Nat.min_eq_left (by omega)]
 refine ⟨e,?_⟩
 rcases h2 with h0 | ⟨i,o,t,all,ro,ha,hb,hi,hle,hcs⟩
 ·exact .inl (by omega)
 ·refine .inr ⟨i,o,t,all,ro,ha,hb,hi,by omega,?_⟩
  rw [← Yfa Zhg,hcs,List.take_take,Nat.min_eq_left (by omega)]
theorem Zzn {b:Nat} {h:Zaa} {a:Pt} {n c k:Nat} {e:Bool} {l:List Nd} {K:Zag→Prop} (r:Row b h a (n * 2) (Zen eP l)) (hl:l.length=n) (hk:k≤n) (hc:n≤c) {z:Int} (hz:z=k)
  (hK:∀ a' c' e',Row b h a' (k * 2) (Zen eP (l.take k))→k≤c'→K (.slice a' k c' e')):Zlm a n c e 2 none (some (.int .i64 z)) none K:=by
 subst hz
 simp only [Zlm,Zik]
 refine ⟨by omega,?_⟩
 split
 ·have h0:n=0:=by
   obtain ⟨h1,h2⟩:=r
   rcases h2 with h2 | ⟨i,o,t,all,ro,ha,_⟩
   ·omega
   ·cases ha
  have hk0:k=0:=by omega
  subst hk0
  exact ⟨⟨by trivial,by simp,.inl (by trivial)⟩,hK _ _ _ (by simpa using Row.nil) (by omega)⟩
 ·rename_i i o
  refine ⟨fun hlt=>?_,fun hlt=>?_⟩
  ·have e2:((k:Int) - 0).toNat=k:=by omega
   have e3:o + Int.toNat 0 * 2=o:=by simp
   have e4:((c:Int) - 0).toNat=c:=by omega
   rw [e2,e3,e4]
   exact hK _ _ _ (r.sl hk hl) (by omega)
  ·have hk0:k=0:=by omega
   subst hk0
   exact hK _ _ _ (by simpa using Row.nil) (by omega)

theorem Zxx {h:Zaa} {x:Nd} {j:Nat} {c:List Nat} (hj:Zae h (.ptr (some (j,0)))=some (.str c)) (hjl:j < h.length) :
  Zad pg Zcf [.agg [.str x.1,.str x.2],.ptr (some (j,0))] h fun v h'=>v=.bool (decide (x.1=c))∧Zbb h.length h h':=by
 apply Zkt.call
 simp only [Zba,Zfw,List.getElem?_cons_zero,Zap]
 have:=(Zat (h:=h) (x:=.cells Zbl [.str x.1,.str x.2] false)).cell hjl hj
 rw [this]
 exact ⟨rfl,Zat⟩
theorem Zze {h:Zaa} {a:Pt} {n c:Nat} {e:Bool} {cs:List Nd} {j:Nat} {s:List Nat} (r:Row h.length h a (n * 2) (Zen eP cs)) (hn:n≤4611686018427387904) (hj:Zae h (.ptr (some (j,0)))=some (.str s)) (hjl:j < h.length) :
  Zad pg Zct [.slice a n c e,.fn Zcf [.ptr (some (j,0))]] h fun v h'=>(∃ z:Int,v=.int .i64 z∧decide (z ≥ 0)=Zgj cs s)∧Zbb h.length h h':=by
 have hl:cs.length=n:=by have:=r.1; rw [Zbj Zhg] at this; omega
 apply Zaz.call
 refine Zaz.L2ind _ _ _ _ _ _ _ (J:=fun (g:Nat) x8 h'=>x8=(g:Int)∧g≤n∧Zbb h.length h h'∧Zgj (cs.take g) s=false) (fun g=>n - g) ?_ 0 _ _ ⟨rfl,by omega,Zbb.refl _ _,rfl⟩
 rintro g x8 h' ⟨rfl,hg,hS,hk⟩ R hR
 unfold Zaz.L2t
 refine Zam (fun hlt=>?_) (fun hge=>?_)
 ·obtain ⟨i,o,hgl,rfl,_,hr,_⟩:=(r.same hS).pr (k:=g) (by omega)
  simp only [Zav,Int.toNat_natCast,hr,Zas,Zai,Zaq,Zap]
  refine ⟨by omega,(Zxx (x:=cs[g]) (hS.cell hjl hj) (by have:=hS.le; omega)).mono ?_⟩
  rintro v h2 ⟨rfl,s2⟩
  simp only [Zah]
  have hS2:=hS.trans (s2.mono hS.le)
  refine Zam (fun he=>?_) (fun he=>?_)
  ·refine ⟨⟨_,rfl,?_⟩,hS2⟩
   have:Zgj cs s=true:=by unfold Zgj; rw [List.any_eq_true]; exact ⟨_,List.getElem_mem hgl,by simpa using he⟩
   rw [this]; simp
  ·rw [Zbx (by omega)]
   exact hR (g + 1) _ _ (by omega) ⟨rfl,by omega,hS2,by rw [Zqz hgl,hk]; simp [he]⟩
 ·apply Zaz.A2x0i
  have:g=n:=by omega
  subst this
  rw [List.take_of_length_le (by omega)] at hk
  exact ⟨⟨_,rfl,by rw [hk]; rfl⟩,hS⟩
theorem Zun {h:Zaa} {a:Pt} {n c:Nat} {e:Bool} {cs:List Nd} {s:List Nat} (r:Row h.length h a (n * 2) (Zen eP cs)) (hn:n≤4611686018427387904) :
  Zad pg Zie [.slice a n c e,.str s] h fun v h'=>v=.bool (Zgj cs s)∧Zbb h.length h h':=by
 apply Zpt.call
 simp only [Zba]
 apply Zci.call
 have s1:Zbb h.length h (h ++ [.cells Zdp [.str s] false]):=Zat
 refine (Zze (r.same' s1) hn (s:=s) (by rw [Zfw]; rfl) (by simp)).mono ?_
 rintro v h2 ⟨⟨z,rfl,hz⟩,s2⟩
 simp only [Zao,Zah]
 exact ⟨by rw [hz],s1.trans (s2.mono s1.le)⟩
theorem Zpo {h:Zaa} {a a1:Pt} {n c n1 c1:Nat} {e e1:Bool} {cs:List Nd} {s:List Nat} (r:Row h.length h a (n * 2) (Zen eP cs)) (hn:n≤4611686018427387904) :
  Zad pg Zgc [.agg [.slice a n c e,.slice a1 n1 c1 e1],.str s] h fun v h'=>v=.int .i64 (Ydp cs s)∧Zbb h.length h h':=by
 have hl:cs.length=n:=by have:=r.1; rw [Zbj Zhg] at this; omega
 apply Zgi.call
 simp only [Zba,Zfw,Nat.add_zero,List.getElem?_cons_zero,Zaj]
 have s1:Zbb h.length h (h ++ [.cells Zan [.slice a n c e,.slice a1 n1 c1 e1] false]):=Zat
 refine Zgi.L2ind _ _ _ _ _ _ _ (J:=fun (g:Nat) x10 h'=>x10=(g:Int)∧g≤n∧Zbb h.length h h'∧Zgj (cs.take g) s=false) (fun g=>n - g) ?_ 0 _ _ ⟨rfl,by omega,s1,rfl⟩
 rintro g x8 h' ⟨rfl,hg,hS,hk⟩ R hR
 unfold Zgi.L2t
 refine Zam (fun hlt=>?_) (fun hge=>?_)
 ·obtain ⟨i,o,hgl,rfl,_,hr,_⟩:=(r.same hS).pr (k:=g) (by omega)
  simp only [Zav,Int.toNat_natCast,hr,Zas,Zai,Zaq,Zap,Zba]
  rw [Zky]
  simp only [Zar,Zfw,Nat.add_zero,List.getElem?_cons_zero,Zap]
  refine ⟨by omega,?_⟩
  have hS2:Zbb h.length h (h' ++ [.cells Zbl [.str cs[g].1,.str cs[g].2] false]):=hS.trans (Zbb.app hS.le _)
  refine Zam (fun he=>?_) (fun he=>?_)
  ·refine ⟨?_,hS2⟩
   have hkn:Zgj cs s=true:=by unfold Zgj; rw [List.any_eq_true]; exact ⟨_,List.getElem_mem hgl,by simpa using he⟩
   unfold Ydp
   rw [hkn,if_pos rfl]
   congr 2
   symm
   rw [List.findIdx_eq hgl]
   refine ⟨by simpa using he,fun j hj=>?_⟩
   unfold Zgj at hk
   rw [List.any_eq_false] at hk
   have:=hk cs[j] (List.mem_take_iff_getElem.2 ⟨j,by omega,rfl⟩)
   simpa using this
  ·rw [Zbx (by omega)]
   exact hR (g + 1) _ _ (by omega) ⟨rfl,by omega,hS2,by rw [Zqz hgl,hk]; simp [he]⟩
 ·apply Zgi.A2x0i
  have:g=n:=by omega
  subst this
  rw [List.take_of_length_le (by omega)] at hk
  exact ⟨by unfold Ydp; rw [hk]; rfl,hS⟩

theorem Yek {s:List Nat} {g:Nat} {z:Int} (hg:g < s.length) (hz:z=((g + 1:Nat):Int)):sub s (g:Int) z=[s[g]]:=by
 subst hz
 simp only [sub,Int.toNat_natCast]
 rw [List.take_succ_eq_append_getElem hg,List.drop_append_of_le_length (by simp; omega),List.drop_of_length_le (by rw [List.length_take]; exact Nat.min_le_left _ _),List.nil_append]
theorem Zoi {g:Nat} (hg:0 < g) (hn:g≤9223372036854775807):IntKind.wrap .i64 ((g:Int) - 1)=((g - 1:Nat):Int):=by rw [IntWalk.i64_in _ (by omega)]; omega
theorem Yag {cs:List Nd} {s:List Nat} {g:Nat} (hg:g < s.length):Zsq cs s g=(Zgj cs [s[g]] && (g == 0 || decide (s.getD (g - 1) 0 < s[g]))):=by unfold Zsq; rw [Zhu hg]
theorem Zzq {cs:List Nd} {g:Nat} (hg:g < cs.length):Zsr cs g=(Zqh cs[g].1 && (g == 0 || Zdr (cs.getD (g - 1) ([],[])).1 cs[g].1) && Zxj (cs.take g) cs[g].2):=by unfold Zsr; rw [Zhu hg]
theorem Zhj {cs:List Nd} {g:Nat} (hg:g < cs.length) (h:Zsr cs g=false):Zgz cs=false:=by unfold Zgz; rw [Zlc hg h]; rfl
theorem Zpx {h:Zaa} {a a1:Pt} {n c n1 c1:Nat} {e e1:Bool} {cs:List Nd} (r:Row h.length h a (n * 2) (Zen eP cs)) (hc:n≤c) (hn:n≤1048576) (hs:∀ p∈cs,p.2.length≤1048576) :
  Zad pg Zgm [.agg [.slice a n c e,.slice a1 n1 c1 e1]] h fun v h'=>v=.bool (Zgz cs)∧Zbb h.length h h':=by
 have hl:cs.length=n:=by have:=r.1; rw [Zbj Zhg] at this; omega
 apply Zce.call
 simp only [Zba,Zfw,Nat.add_zero,List.getElem?_cons_zero,Zaj]
 have s1:Zbb h.length h (h ++ [.cells Zan [.slice a n c e,.slice a1 n1 c1 e1] false]):=Zat
 have hw:(h ++ [Zcp.cells Zan [.slice a n c e,.slice a1 n1 c1 e1] false])[h.length]?=some (.cells Zan [.slice a n c e,.slice a1 n1 c1 e1] false):=by simp
 refine Zce.L2ind _ _ _ _ _ _ _ _ (J:=fun (g:Nat) x9 h'=>x9=(g:Int)∧g≤n∧Zbb h.length h h'∧h'[h.length]?=some (.cells Zan [.slice a n c e,.slice a1 n1 c1 e1] false)∧(List.range g).all (Zsr cs)=true) (fun g=>n - g) ?_ 0 _ _ ⟨rfl,by omega,s1,hw,rfl⟩
 rintro g x9 h' ⟨rfl,hg,hS,hW,hk⟩ R hR
 unfold Zce.L2t
 refine Zam (fun hlt=>?_) (fun hge=>?_)
 ·obtain ⟨i,o,hgl,rfl,hil,hr,_⟩:=(r.same hS).pr (k:=g) (by omega)
  simp only [Zav,Int.toNat_natCast,hr,Zas,Zai,Zaq,Zap,Zba]
  rw [Zky]
  simp only [Zar,Zfw,Nat.add_zero,List.getElem?_cons_zero,Zap]
  have hS2:Zbb h.length h (h' ++ [.cells Zbl [.str cs[g].1,.str cs[g].2] false]):=hS.trans (Zbb.app hS.le _)
  refine ⟨by omega,(Ycb _).mono ?_⟩
  rintro v h2 ⟨rfl,rfl⟩
  simp only [Zah,true_and]
  have hcl:=Zzq hgl
  have hle:=hS2.le
  have hWl:=Own.lt hW
  have hW2:(h' ++ [.cells Zbl [.str cs[g].1,.str cs[g].2] false])[h.length]?=some (.cells Zan [.slice (some (i,o)) n c e,.slice a1 n1 c1 e1] false):=Zjw hW
  have hcell:∀ o',Zae (h' ++ [.cells Zbl [.str cs[g].1,.str cs[g].2] false]) (.ptr (some (h'.length,o')))=([.str cs[g].1,.str cs[g].2]:List Zag)[o']?:=fun o'=>Zfw
  -- the classes above
  have key:(Zqh cs[g].1 && (g == 0 || Zdr (cs.getD (g - 1) ([],[])).1 cs[g].1))=true→Zce.J6 (fun v h'=>v=.bool (Zgz cs)∧Zbb h.length h h') R h'.length 0 h.length 0 (g:Int) (some (i,o)) n c e (n:Int) (g:Int) (h' ++ [.cells Zbl [.str cs[g].1,.str cs[g].2] false]):=by
   intro hpre
   rw [hpre,Bool.true_and] at hcl
   apply Zce.J6i
   rw [hcell]
   simp only [Nat.zero_add,List.getElem?_cons_succ,List.getElem?_cons_zero,Zap]
   have hsl:=hs cs[g] (List.getElem_mem hgl)
   refine Zce.L7ind _ _ _ _ _ _ _ _ _ _ _ _ _ _ (J:=fun (q:Nat) x37 h3=>x37=(q:Int)∧q≤cs[g].2.length∧Zbb h.length h h3∧h3[h.length]?=some (.cells Zan [.slice (some (i,o)) n c e,.slice a1 n1 c1 e1] false)∧h3[h'.length]?=some (.cells Zbl [.str cs[g].1,.str cs[g].2] false)∧(List.range q).all (Zsq (cs.take g) cs[g].2)=true) (fun q=>cs[g].2.length - q) ?_ 0 _ _ ⟨rfl,by omega,hS2,hW2,by simp,rfl⟩
   rintro q x37 h3 ⟨rfl,hq,hS3,hW3,hI3,hk3⟩ R7 hR7
   unfold Zce.L7t
   refine Zam (fun hlt3=>?_) (fun hge3=>?_)
   ·have hq':q < cs[g].2.length:=by omega
    simp only [Nat.add_zero,Nat.zero_add,Zak hW3,Zak hI3,List.getElem?_cons_succ,List.getElem?_cons_zero,Zaj,Zap,true_and]
    refine Zzn (r.same hS3) hl (k:=g) (by omega) hc rfl (fun a' c' e' hrow hc'=>?_)
    simp only [Zaj]
    rw [Zbx (by omega),Yek hq' rfl]
    refine ⟨⟨by omega,by omega,by omega⟩,(Zun (hrow.mono hS3.le) (by omega)).mono ?_⟩
    rintro v h4 ⟨rfl,s4⟩
    have hS4:=hS3.trans (s4.mono hS3.le)
    have hW4:h4[h.length]?=some (.cells Zan [.slice (some (i,o)) n c e,.slice a1 n1 c1 e1] false):=by rw [s4.eq _ (Own.lt hW3)]; exact hW3
    have hI4:h4[h'.length]?=some (.cells Zbl [.str cs[g].1,.str cs[g].2] false):=by rw [s4.eq _ (Own.lt hI3)]; exact hI3
    simp only [Zah,Zak hW3,Zak hW4,Zak hI4,Nat.add_zero,Nat.zero_add,List.getElem?_cons_succ,List.getElem?_cons_zero,Zap,true_and]
    have hsa:=Yag (cs:=cs.take g) hq'
    have fail:Zsq (cs.take g) cs[g].2 q=false→(Zag.bool false=Zag.bool (Zgz cs)∧Zbb h.length h h4):=fun hf=>⟨by rw [Zhj hgl (by rw [hcl]; unfold Zxj; exact Zlc hq' hf)],hS4⟩
    have next:Zsq (cs.take g) cs[g].2 q=true→R7 h.length 0 (g:Int) h'.length 0 (some (i,o)) n c e (n:Int) (g:Int) (cs[g].2.length:Int) (IntKind.wrap .i64 ((q:Int) + 1)) h4:=fun ht=>by
     rw [Zbx (by omega)]
     exact hR7 (q + 1) _ _ (by omega) ⟨rfl,by omega,hS4,hW4,hI4,Zhz hk3 ht⟩
    refine Zcm (fun hb=>fail (by rw [hsa,hb]; rfl)) (fun hb=>?_)
    refine Zam (fun h0=>?_) (fun h0=>?_)
    ·have h0':0 < q:=by omega
     rw [Zoi h0' (by omega)]
     refine ⟨⟨by omega,by omega⟩,⟨by omega,by omega⟩,?_⟩
     simp only [Int.toNat_natCast]
     have hd1:cs[g].2.getD q 0=cs[g].2[q]:=Zhu hq'
     have hq0:(q == 0)=false:=by simp; omega
     refine Zam (fun h1=>fail ?_) (fun h1=>Zce.J11i _ _ _ _ _ _ _ _ _ _ _ _ _ _ _ _ _ (next ?_))
     ·rw [hsa,hb,hq0,← hd1]; simp only [Bool.true_and,Bool.false_or,decide_eq_false_iff_not]; omega
     ·rw [hsa,hb,hq0,← hd1]; simp only [Bool.true_and,Bool.false_or,decide_eq_true_eq]; omega
    ·have:q=0:=by omega
     subst this
     exact Zce.J11i _ _ _ _ _ _ _ _ _ _ _ _ _ _ _ _ _ (next (by rw [hsa,hb]; rfl))
   ·apply Zce.A7x2i
    apply Zce.J12i
    have:q=cs[g].2.length:=by omega
    subst this
    rw [Zbx (by omega)]
    exact hR (g + 1) _ _ (by omega) ⟨rfl,by omega,hS3,hW3,Zhz hk (by rw [hcl]; exact hk3)⟩
  refine Zcm (fun hb=>⟨by rw [Zhj hgl (by rw [hcl,hb]; rfl)],hS2⟩) (fun hb=>?_)
  refine Zam (fun h0=>?_) (fun h0=>?_)
  ·have h0':0 < g:=by omega
   rw [Zak hW2]
   simp only [List.getElem?_cons_zero,Zaj]
   rw [Zoi h0' (by omega)]
   obtain ⟨i',o',hgl',heq,_,_,hc0,_⟩:=(r.same hS2).pr (k:=g - 1) (by omega)
   cases heq
   simp only [Zav,Int.toNat_natCast,hc0,Zap,Nat.add_zero,Nat.zero_add,hcell,List.getElem?_cons_zero,true_and]
   refine ⟨by omega,?_⟩
   have hg0:(g == 0)=false:=by simp; omega
   have hgd:cs.getD (g - 1) ([],[])=cs[g - 1]:=Zhu hgl'
   refine Zcm (fun hb2=>⟨by rw [Zhj hgl (by rw [hcl,hb,hg0,hgd,hb2]; rfl)],hS2⟩) (fun hb2=>key (by rw [hb,hg0,hgd,hb2]; rfl))
  ·have:g=0:=by omega
   subst this
   exact key (by rw [hb]; rfl)
 ·apply Zce.A2x0i
  have:g=n:=by omega
  subst this
  have hok:Zgz cs=decide (1≤g∧g≤4):=by unfold Zgz; rw [hl,hk,Bool.true_and]
  simp only [Nat.add_zero,Zak hW,List.getElem?_cons_zero,Zaj]
  refine Zam (fun h1=>?_) (fun h1=>?_)
  ·refine ⟨?_,hS⟩
   rw [hok]; congr 1; rw [Bool.eq_iff_iff]; simp; omega
  ·refine ⟨?_,hS⟩
   rw [hok]; congr 1; symm; simp; omega
end Go.Sim

set_option linter.unusedVariables false
set_option linter.unusedSimpArgs false
set_option maxRecDepth 20000
namespace Go.Sim
open Go Go.RowKit
theorem Zpv {h:Zaa} {a:Pt} {n c:Nat} {e:Bool} {cs:List Nd} (r:Row h.length h a (n * 2) (Zen eP cs)) (hc:n≤c) (hn:n≤1048576) (hs:∀ p∈cs,p.2.length≤1048576) (hb256:∀ p∈cs,∀ b∈p.1,b < 256) :
  Zad pg Zgn [.slice a n c e] h fun v h'=>v=.bool (Zgz cs)∧Zbb h.length h h':=by
 have hl:cs.length=n:=by have:=r.1; rw [Zbj Zhg] at this; omega
 apply Zcd.call
 refine Zcd.L2ind _ _ _ _ _ _ _ _ _ _ (J:=fun (g:Nat) x9 h'=>x9=(g:Int)∧g≤n∧Zbb h.length h h'∧(List.range g).all (Zsr cs)=true) (fun g=>n - g) ?_ 0 _ _ ⟨rfl,by omega,Zbb.refl _ _,rfl⟩
 rintro g x9 h' ⟨rfl,hg,hS,hk⟩ R hR
 unfold Zcd.L2t
 refine Zam (fun hlt=>?_) (fun hge=>?_)
 ·obtain ⟨i,o,hgl,rfl,hil,hr,_⟩:=(r.same hS).pr (k:=g) (by omega)
  simp only [Zav,Int.toNat_natCast,hr,Zas,Zai,Zaq,Zap,Zba]
  rw [Zky]
  simp only [Zar,Zfw,Nat.add_zero,List.getElem?_cons_zero,Zap]
  have hS2:Zbb h.length h (h' ++ [.cells Zbl [.str cs[g].1,.str cs[g].2] false]):=hS.trans (Zbb.app hS.le _)
  refine ⟨by omega,(Zwa _ (hb256 _ (List.getElem_mem hgl))).mono ?_⟩
  rintro v h2 ⟨rfl,rfl⟩
  simp only [Zah,true_and]
  have hcl:=Zzq hgl
  have hle:=hS2.le
  have hcell:∀ o',Zae (h' ++ [.cells Zbl [.str cs[g].1,.str cs[g].2] false]) (.ptr (some (h'.length,o')))=([.str cs[g].1,.str cs[g].2]:List Zag)[o']?:=fun o'=>Zfw
  -- the classes above
  have key:(Zqh cs[g].1 && (g == 0 || Zdr (cs.getD (g - 1) ([],[])).1 cs[g].1))=true→Zcd.J6 (fun v h'=>v=.bool (Zgz cs)∧Zbb h.length h h') R h'.length 0 (some (i,o)) n c e (g:Int) (some (i,o)) n c e (n:Int) (g:Int) (h' ++ [.cells Zbl [.str cs[g].1,.str cs[g].2] false]):=by
   intro hpre
   rw [hpre,Bool.true_and] at hcl
   apply Zcd.J6i
   rw [hcell]
   simp only [Nat.zero_add,List.getElem?_cons_succ,List.getElem?_cons_zero,Zap]
   have hsl:=hs cs[g] (List.getElem_mem hgl)
   refine Zcd.L7ind _ _ _ _ _ _ _ _ _ _ _ _ _ _ _ _ (J:=fun (q:Nat) x37 h3=>x37=(q:Int)∧q≤cs[g].2.length∧Zbb h.length h h3∧h3[h'.length]?=some (.cells Zbl [.str cs[g].1,.str cs[g].2] false)∧(List.range q).all (Zsq (cs.take g) cs[g].2)=true) (fun q=>cs[g].2.length - q) ?_ 0 _ _ ⟨rfl,by omega,hS2,by simp,rfl⟩
   rintro q x37 h3 ⟨rfl,hq,hS3,hI3,hk3⟩ R7 hR7
   unfold Zcd.L7t
   refine Zam (fun hlt3=>?_) (fun hge3=>?_)
   ·have hq':q < cs[g].2.length:=by omega
    simp only [Nat.add_zero,Nat.zero_add,Zak hI3,List.getElem?_cons_succ,List.getElem?_cons_zero,Zaj,Zap,true_and]
    refine Zzn (r.same hS3) hl (k:=g) (by omega) hc rfl (fun a' c' e' hrow hc'=>?_)
    simp only [Zaj]
    rw [Zbx (by omega),Yek hq' rfl]
    refine ⟨⟨by omega,by omega,by omega⟩,(Zpo (hrow.mono hS3.le) (by omega)).mono ?_⟩
    rintro v h4 ⟨rfl,s4⟩
    have hS4:=hS3.trans (s4.mono hS3.le)
    have hI4:h4[h'.length]?=some (.cells Zbl [.str cs[g].1,.str cs[g].2] false):=by rw [s4.eq _ (Own.lt hI3)]; exact hI3
    simp only [Zao,Zsh,Zak hI4,Nat.add_zero,Nat.zero_add,List.getElem?_cons_succ,List.getElem?_cons_zero,Zap,true_and]
    have hsa:=Yag (cs:=cs.take g) hq'
    have fail:Zsq (cs.take g) cs[g].2 q=false→(Zag.bool false=Zag.bool (Zgz cs)∧Zbb h.length h h4):=fun hf=>⟨by rw [Zhj hgl (by rw [hcl]; unfold Zxj; exact Zlc hq' hf)],hS4⟩
    have next:Zsq (cs.take g) cs[g].2 q=true→R7 (some (i,o)) n c e (g:Int) h'.length 0 (some (i,o)) n c e (n:Int) (g:Int) (cs[g].2.length:Int) (IntKind.wrap .i64 ((q:Int) + 1)) h4:=fun ht=>by
     rw [Zbx (by omega)]
     exact hR7 (q + 1) _ _ (by omega) ⟨rfl,by omega,hS4,hI4,Zhz hk3 ht⟩
    refine Zcm (fun hb=>fail (by rw [hsa,hb]; rfl)) (fun hb=>?_)
    refine Zam (fun h0=>?_) (fun h0=>?_)
    ·have h0':0 < q:=by omega
     rw [Zoi h0' (by omega)]
     refine ⟨⟨by omega,by omega⟩,⟨by omega,by omega⟩,?_⟩
     simp only [Int.toNat_natCast]
     have hd1:cs[g].2.getD q 0=cs[g].2[q]:=Zhu hq'
     have hq0:(q == 0)=false:=by simp; omega
     refine Zam (fun h1=>fail ?_) (fun h1=>Zcd.J11i _ _ _ _ _ _ _ _ _ _ _ _ _ _ _ _ _ _ _ (next ?_))
     ·rw [hsa,hb,hq0,← hd1]; simp only [Bool.true_and,Bool.false_or,decide_eq_false_iff_not]; omega
     ·rw [hsa,hb,hq0,← hd1]; simp only [Bool.true_and,Bool.false_or,decide_eq_true_eq]; omega
    ·have:q=0:=by omega
     subst this
     exact Zcd.J11i _ _ _ _ _ _ _ _ _ _ _ _ _ _ _ _ _ _ _ (next (by rw [hsa,hb]; rfl))
   ·apply Zcd.A7x2i
    apply Zcd.J12i
    have:q=cs[g].2.length:=by omega
    subst this
    rw [Zbx (by omega)]
    exact hR (g + 1) _ _ (by omega) ⟨rfl,by omega,hS3,Zhz hk (by rw [hcl]; exact hk3)⟩
  refine Zcm (fun hb=>⟨by rw [Zhj hgl (by rw [hcl,hb]; rfl)],hS2⟩) (fun hb=>?_)
  refine Zam (fun h0=>?_) (fun h0=>?_)
  ·have h0':0 < g:=by omega
   rw [Zoi h0' (by omega)]
   obtain ⟨i',o',hgl',heq,_,_,hc0,_⟩:=(r.same hS2).pr (k:=g - 1) (by omega)
   cases heq
   simp only [Zav,Int.toNat_natCast,hc0,Zap,Nat.add_zero,Nat.zero_add,hcell,List.getElem?_cons_zero,true_and]
   refine ⟨by omega,?_⟩
   have hg0:(g == 0)=false:=by simp; omega
   have hgd:cs.getD (g - 1) ([],[])=cs[g - 1]:=Zhu hgl'
   refine Zcm (fun hb2=>⟨by rw [Zhj hgl (by rw [hcl,hb,hg0,hgd,hb2]; rfl)],hS2⟩) (fun hb2=>key (by rw [hb,hg0,hgd,hb2]; rfl))
  ·have:g=0:=by omega
   subst this
   exact key (by rw [hb]; rfl)
 ·apply Zcd.A2x0i
  have:g=n:=by omega
  subst this
  have hok:Zgz cs=decide (1≤g∧g≤4):=by unfold Zgz; rw [hl,hk,Bool.true_and]
  refine Ydk.mono ?_
  rintro v h2 ⟨rfl,rfl⟩
  simp only [Zah]
  refine ⟨?_,hS⟩
  rw [hok]; congr 1; rw [Bool.eq_iff_iff]; simp; omega
end Go.Sim

set_option linter.unusedVariables false
set_option linter.unusedSimpArgs false
set_option maxRecDepth 20000
namespace Go.Sim
open Go Go.RowKit

theorem Yjv (c:Nat):decide (c∈[120,121,122,88,89,90])=Zay c:=by rw [Bool.eq_iff_iff]; simp [Zay,or_assoc]
theorem Zqi {h:Zaa} (s:List Nat):Zad pg Zdb [.str s] h fun v h'=>v=.bool (Znf s)∧h'=h:=by
 apply Zpq.call
 match s with
 | []=>exact Zea (fun h1=>by simp at h1) (fun h1=>⟨rfl,rfl⟩)
 | [c]=>
  refine Zea (fun h1=>?_) (fun h1=>by simp at h1)
  refine Zjr.mono ?_
  rintro v h' ⟨rfl,rfl⟩
  simp only [Zah]
  exact ⟨by rw [Yjv]; rfl,by trivial⟩
 | c :: d :: r=>exact Zea (fun h1=>by simp at h1; omega) (fun h1=>⟨rfl,rfl⟩)
theorem Zov {h:Zaa} (c:Nat):Zad pg Zfx [.int .u8 (c:Int)] h fun v h'=>v=.bool (Zay c)∧h'=h:=by
 apply Zku.call
 refine (Zul _ c (by simp)).mono ?_
 rintro v h' ⟨rfl,rfl⟩
 simp only [Zao]
 exact ⟨by rw [Yjm],by trivial⟩
noncomputable def Yhu (s v:List Nat):Int:=if Zng s && Znf v then (s.count (v.headD 0):Nat) else -1
theorem Zww {h:Zaa} (s v:List Nat) (hs:s.length≤1048576):Zad pg Zjd [.str s,.str v] h fun x h'=>x=.int .i64 (Yhu s v)∧Zbb h.length h h':=by
 apply Zds.call
 refine (Zls s (by omega) h).mono ?_
 rintro x h1 ⟨rfl,s1⟩
 simp only [Zah]
 refine Zcm (fun hb=>⟨by unfold Yhu; rw [hb]; rfl,s1⟩) (fun hb=>?_)
 match v with
 | []=>exact Zgr (fun _=>⟨by unfold Yhu; rw [hb]; rfl,s1⟩) (fun h1=>by simp at h1)
 | c :: d :: r=>exact Zgr (fun _=>⟨by unfold Yhu; rw [hb]; rfl,s1⟩) (fun h1=>by simp at h1; omega)
 | [c]=>
  refine Zgr (fun h1=>by simp at h1) (fun _=>?_)
  refine ⟨⟨by omega,by simp⟩,?_⟩
  simp only [Int.toNat_zero,List.getD_cons_zero]
  refine (Zov c).mono ?_
  rintro x h2 ⟨rfl,rfl⟩
  simp only [Zah]
  refine Zcm (fun hv=>⟨by unfold Yhu; rw [hb,show Znf [c]=Zay c from rfl,hv]; rfl,s1⟩) (fun hv=>?_)
  apply Zds.J3i
  refine Zds.L5ind _ _ _ _ (J:=fun (g:Nat) x5 x23 h'=>x23=(g:Int)∧g≤s.length∧x5=((s.take g).count c:Nat)∧h'=h2) (fun g=>s.length - g) ?_ 0 _ _ _ ⟨rfl,by omega,by simp,rfl⟩
  rintro g x5 x23 h' ⟨rfl,hg,rfl,rfl⟩ R hR
  unfold Zds.L5t
  refine Zam (fun hlt=>?_) (fun hge=>?_)
  ·have hg':g < s.length:=by omega
   refine ⟨⟨by omega,by omega⟩,⟨by omega,by simp⟩,?_⟩
   simp only [Int.toNat_zero,List.getD_cons_zero,Int.toNat_natCast,Zhu hg']
   have hc:=List.count_le_length (a:=c) (l:=s.take g)
   rw [List.length_take] at hc
   have htk:(s.take (g + 1)).count c=(s.take g).count c + if s[g]=c then 1 else 0:=by
    rw [List.take_succ_eq_append_getElem hg',List.count_append]; simp [List.count_cons]
   refine Zea (fun he=>?_) (fun he=>?_)
   ·apply Zds.J9i
    rw [Zbx (by omega),Zbx (by omega)]
    exact hR (g + 1) _ _ _ (by omega) ⟨rfl,by omega,by rw [htk,if_pos (by omega)],rfl⟩
   ·apply Zds.J9i
    rw [Zbx (by omega)]
    exact hR (g + 1) _ _ _ (by omega) ⟨rfl,by omega,by rw [htk,if_neg (by omega)]; rfl,rfl⟩
  ·apply Zds.A5x0i
   have:g=s.length:=by omega
   subst this
   rw [List.take_length]
   refine ⟨?_,s1⟩
   unfold Yhu
   rw [hb,show Znf [c]=Zay c from rfl,hv]; rfl
theorem Ztf {h:Zaa} (s:List Nat) (hs:s.length≤1048576):Zad pg Zis [.str s] h fun v h'=>v=.str (if Zng s=true then Znr s else [])∧Zbb h.length h h':=by
 apply Zev.call
 simp only [Zba]
 have hlist:(h ++ [Zcp.cells Zdp [.str [88],.str [89],.str [90],.str [120],.str [121],.str [122]] false])[h.length]?=some (.cells Zdp [.str [88],.str [89],.str [90],.str [120],.str [121],.str [122]] false):=by simp
 refine Zev.L3ind _ _ _ _ _ _ _ (J:=fun (g:Nat) x3 x8 h'=>x8=(g:Int)∧g≤6∧Zbb h.length h h'∧h'[h.length]?=some (.cells Zdp [.str [88],.str [89],.str [90],.str [120],.str [121],.str [122]] false)∧x3=if Zng s=true then (Zgk.take g).filter fun v=>decide (v∈s) else []) (fun g=>6 - g) ?_ 0 _ _ _
  ⟨rfl,by omega,Zat,hlist,by simp⟩
 rintro g x3 x8 h' ⟨rfl,hg,hS,hl,rfl⟩ R hR
 unfold Zev.L3t
 refine Zam (fun hlt=>?_) (fun hge=>?_)
 ·have hlt':g < 6:=by omega
  have hc:∃ c,Zgk[g]?=some c∧Zay c=true∧Zae h' (.ptr (some (h.length,0 + (g:Int).toNat * 1)))=some (.str [c]):=by
   rw [Zak hl,Int.toNat_natCast]
   match g,hlt' with
   | 0,_ | 1,_ | 2,_ | 3,_ | 4,_ | 5,_=>exact ⟨_,rfl,rfl,rfl⟩
  obtain ⟨c,hc1,hcv,hc2⟩:=hc
  simp only [Zav,hc2,Zap]
  refine ⟨by omega,(Zww s [c] hs).mono ?_⟩
  rintro v h2 ⟨rfl,s2⟩
  simp only [Zao]
  have htk:Zgk.take (g + 1)=Zgk.take g ++ [c]:=by rw [List.take_succ,hc1]; rfl
  have hS2:=hS.trans (s2.mono hS.le)
  have hl2:h2[h.length]?=some (.cells Zdp [.str [88],.str [89],.str [90],.str [120],.str [121],.str [122]] false):=by rw [s2.eq _ (Own.lt hl)]; exact hl
  have hcn:decide (Yhu s [c] > 0)=(Zng s && decide (c∈s)):=by
   unfold Yhu
   rw [show Znf [c]=Zay c from rfl,hcv]
   cases hb:Zng s with
   | false=>rfl
   | true=>
    simp only [Bool.and_self,if_true,Bool.true_and,List.headD_cons]
    rw [Bool.eq_iff_iff]; simp [List.count_pos_iff]
  have hbd:(if Zng s=true then (Zgk.take g).filter fun v=>decide (v∈s) else []).length≤6:=by
   split
   ·exact Nat.le_trans (List.length_filter_le _ _) (by simp; omega)
   ·simp
  rw [hcn]
  refine Zdl (fun hb=>?_) (fun hb=>?_)
  ·simp only [Bool.and_eq_true] at hb
   refine ⟨by simp only [List.length_cons,List.length_nil]; omega,?_⟩
   apply Zev.J7i
   rw [Zbx (by omega)]
   refine hR (g + 1) _ _ _ (by omega) ⟨rfl,by omega,hS2,hl2,?_⟩
   rw [if_pos hb.1,if_pos hb.1,htk,List.filter_append]; simp [hb.2]
  ·apply Zev.J7i
   rw [Zbx (by omega)]
   refine hR (g + 1) _ _ _ (by omega) ⟨rfl,by omega,hS2,hl2,?_⟩
   cases ht:Zng s with
   | false=>simp
   | true=>rw [ht,Bool.true_and] at hb; rw [htk,List.filter_append]; simp; simpa using hb
 ·apply Zev.A3x0i
  have:g=6:=by omega
  subst this
  exact ⟨rfl,hS⟩
theorem Yfh {h:Zaa} (x y:List Nat) (hx:x.length≤1048576) (hy:y.length≤1048576):Zad pg Zja [.str x,.str y] h fun v h'=>v=.bool (x.all fun c=>decide (c∈y))∧h'=h:=by
 apply Zfj.call
 refine Zfj.L2ind _ _ _ _ (J:=fun (g:Nat) x8 h'=>x8=(g:Int)∧g≤x.length∧h'=h∧(x.take g).all (fun c=>decide (c∈y))=true) (fun g=>x.length - g) ?_ 0 _ _ ⟨rfl,by omega,rfl,by simp⟩
 rintro g x8 h' ⟨rfl,hg,rfl,hk⟩ R hR
 unfold Zfj.L2t
 refine Zam (fun hlt=>?_) (fun hge=>?_)
 ·have hg':g < x.length:=by omega
  refine ⟨⟨by omega,by omega⟩,?_⟩
  simp only [Int.toNat_natCast,Zhu hg']
  refine (Zul y x[g] (by omega)).mono ?_
  rintro v h2 ⟨rfl,rfl⟩
  simp only [Zao]
  have hix:decide (Zmi y x[g] < 0)=!decide (x[g]∈y):=by
   by_cases hm:x[g]∈y
   ·have:=(Zuq y x[g]).2 hm
    simp [hm]; omega
   ·rw [Zox hm]; simp [hm]
  rw [hix]
  refine Zcm (fun hb=>⟨by rw [Zpp hg' hb],by trivial⟩) (fun hb=>?_)
  rw [Zbx (by omega)]
  exact hR (g + 1) _ _ (by omega) ⟨rfl,by omega,rfl,Zft hg' hk hb⟩
 ·apply Zfj.A2x0i
  have:g=x.length:=by omega
  subst this
  rw [List.take_length] at hk
  exact ⟨by rw [hk],by trivial⟩

theorem Zzs {cs:List Nd} {ct tt:List Nat} {ns:List Nd} (h1:Zgz cs=true) (h2:Zgj cs ct=true) (h3:Zng tt=true) (h4:tt.length≤20) (h5:Znf tt=false) (h6:ns.length≤3):Zkh cs ((ct,tt),ns)=ns.all (Zhi cs tt):=by
 unfold Zkh; simp [h1,h2,h3,h4,h5,h6]
theorem Zqf {h:Zaa} {a a1 a2:Pt} {n c n1 c1 n2 c2:Nat} {e e1 e2:Bool} {cs ns:List Nd} {ct tt:List Nat} (r:Row h.length h a (n * 2) (Zen eP cs)) (hc:n≤c) (hn:n≤1048576) (hs:∀ p∈cs,p.2.length≤1048576)
  (r2:Row h.length h a2 (n2 * 2) (Zen eP ns)) (hn2:n2≤1048576) (hns:∀ p∈ns,p.2.length≤1048576) (htt:tt.length≤1048576) :
  Zad pg Zgb [.agg [.slice a n c e,.slice a1 n1 c1 e1],.agg [.str ct,.str tt,.slice a2 n2 c2 e2]] h fun v h'=>v=.bool (Zkh cs ((ct,tt),ns))∧Zbb h.length h h':=by
 have hl:cs.length=n:=by have:=r.1; rw [Zbj Zhg] at this; omega
 have hl2:ns.length=n2:=by have:=r2.1; rw [Zbj Zhg] at this; omega
 apply Zby.call
 simp only [Zba]
 generalize hh0:h ++ [Zcp.cells Zan [.slice a n c e,.slice a1 n1 c1 e1] false]=h0
 generalize hh1:h0 ++ [Zcp.cells Zac [.str ct,.str tt,.slice a2 n2 c2 e2] false]=h1
 have s0:Zbb h.length h h0:=by rw [← hh0]; exact Zat
 have s01:Zbb h0.length h0 h1:=by rw [← hh1]; exact Zat
 have s1:Zbb h.length h h1:=s0.trans (s01.mono s0.le)
 have hl0:h0.length=h.length + 1:=by rw [← hh0]; simp
 have hl1:h1.length=h.length + 2:=by rw [← hh1]; simp [hl0]
 have w1:h1[h.length]?=some (.cells Zan [.slice a n c e,.slice a1 n1 c1 e1] false):=by rw [← hh1,Zxf (by omega),← hh0]; simp
 have i1:h1[h0.length]?=some (.cells Zac [.str ct,.str tt,.slice a2 n2 c2 e2] false):=by rw [← hh1]; simp
 rw [Zff w1 (by simp)]
 simp only [List.drop_zero,List.take_succ_cons,List.take_zero,Zas,Zai,Zaj,Zaq]
 refine (Zpx (r.same' s1) hc hn hs).mono ?_
 rintro v h2 ⟨rfl,s2⟩
 have S2:Zbb h.length h h2:=s1.trans (s2.mono (by omega))
 have w2:h2[h.length]?=some (.cells Zan [.slice a n c e,.slice a1 n1 c1 e1] false):=by rw [s2.eq _ (by omega)]; exact w1
 have i2:h2[h0.length]?=some (.cells Zac [.str ct,.str tt,.slice a2 n2 c2 e2] false):=by rw [s2.eq _ (by omega)]; exact i1
 simp only [Zah]
 refine Zcm (fun hb=>⟨by unfold Zkh; rw [hb]; rfl,S2⟩) (fun b1=>?_)
 simp only [Nat.add_zero,Nat.zero_add,Zak w2,Zak i2,List.getElem?_cons_succ,List.getElem?_cons_zero,Zaj,Zap]
 refine (Zun (r.same' S2) (by omega)).mono ?_
 rintro v h3 ⟨rfl,s3⟩
 have hle2:=s2.le
 have S3:Zbb h.length h h3:=S2.trans (s3.mono S2.le)
 have i3:h3[h0.length]?=some (.cells Zac [.str ct,.str tt,.slice a2 n2 c2 e2] false):=by rw [s3.eq _ (by omega)]; exact i2
 have w3:h3[h.length]?=some (.cells Zan [.slice a n c e,.slice a1 n1 c1 e1] false):=by rw [s3.eq _ (by omega)]; exact w2
 simp only [Zah]
 refine Zcm (fun hb=>⟨by unfold Zkh; rw [b1,hb]; rfl,S3⟩) (fun b2=>?_)
 simp only [Zak i3,List.getElem?_cons_succ,List.getElem?_cons_zero,Zap]
 refine (Zjo tt h3).mono ?_
 rintro v h4 ⟨rfl,s4⟩
 have hle3:=s3.le
 have S4:Zbb h.length h h4:=S3.trans (s4.mono S3.le)
 have i4:h4[h0.length]?=some (.cells Zac [.str ct,.str tt,.slice a2 n2 c2 e2] false):=by rw [s4.eq _ (by omega)]; exact i3
 have w4:h4[h.length]?=some (.cells Zan [.slice a n c e,.slice a1 n1 c1 e1] false):=by rw [s4.eq _ (by omega)]; exact w3
 simp only [Zah]
 refine Zcm (fun hb=>⟨by unfold Zkh; rw [b1,b2,hb]; rfl,S4⟩) (fun b3=>?_)
 simp only [Zak i4,List.getElem?_cons_succ,List.getElem?_cons_zero,Zap]
 refine Zam (fun hb=>⟨by unfold Zkh; rw [b1,b2,b3]; simp [show ¬ tt.length≤20 by omega],S4⟩) (fun b4=>?_)
 refine (Zqi tt).mono ?_
 rintro v h5 ⟨rfl,rfl⟩
 simp only [Zah]
 refine Zdl (fun hb=>⟨by unfold Zkh; rw [hb]; simp,S4⟩) (fun b5=>?_)
 simp only [Zak i4,List.getElem?_cons_succ,List.getElem?_cons_zero,Zaj]
 refine Zam (fun hb=>⟨by unfold Zkh; simp [show ¬ ns.length≤3 by omega],S4⟩) (fun b6=>?_)
 rw [Zzs b1 b2 b3 (by omega) b5 (by omega)]
 apply Zby.J3i
 simp only [Nat.zero_add,Zak i4,List.getElem?_cons_succ,List.getElem?_cons_zero,Zaj]
 have hle4:=s4.le
 refine Zby.L4ind _ _ _ _ _ _ _ _ _ _ (J:=fun (g:Nat) x50 h'=>x50=(g:Int)∧g≤n2∧Zbb h5.length h5 h'∧(ns.take g).all (Zhi cs tt)=true) (fun g=>n2 - g) ?_ 0 _ _ ⟨rfl,by omega,Zbb.refl _ _,rfl⟩
 rintro g x50 h' ⟨rfl,hg,hS,hk⟩ R hR
 have SS:Zbb h.length h h':=S4.trans (hS.mono S4.le)
 unfold Zby.L4t
 refine Zam (fun hlt=>?_) (fun hge=>?_)
 ·obtain ⟨i,o,hgl,rfl,hil,hr,_⟩:=(r2.same SS).pr (k:=g) (by omega)
  simp only [Zav,Int.toNat_natCast,hr,Zas,Zai,Zaq,Zap,Zba]
  rw [Zky]
  have hlh:=hS.le
  generalize hq:h' ++ [Zcp.cells Zbw [.str ns[g].1,.str ns[g].2] false]=hq'
  have sq:Zbb h'.length h' hq':=by rw [← hq]; exact Zat
  have hql:hq'.length=h'.length + 1:=by rw [← hq]; simp
  have nq:hq'[h'.length]?=some (.cells Zbw [.str ns[g].1,.str ns[g].2] false):=by rw [← hq]; simp
  have wq:hq'[h.length]?=some (.cells Zan [.slice a n c e,.slice a1 n1 c1 e1] false):=by rw [sq.eq _ (by omega),hS.eq _ (by omega)]; exact w4
  have iq:hq'[h0.length]?=some (.cells Zac [.str ct,.str tt,.slice (some (i,o)) n2 c2 e2] false):=by rw [sq.eq _ (by omega),hS.eq _ (by omega)]; exact i4
  simp only [Zar,Nat.add_zero,Nat.zero_add,Zak wq,Zak nq,List.getElem?_cons_succ,List.getElem?_cons_zero,Zaj,Zap]
  have Sq:Zbb h.length h hq':=SS.trans (sq.mono SS.le)
  refine ⟨by omega,(Zun (r.same' Sq) (by omega)).mono ?_⟩
  rintro v k3 ⟨rfl,t3⟩
  have T3:=Sq.trans (t3.mono Sq.le)
  have n3:k3[h'.length]?=some (.cells Zbw [.str ns[g].1,.str ns[g].2] false):=by rw [t3.eq _ (by omega)]; exact nq
  simp only [Zah]
  have fail:∀ hx,Zbb h.length h hx→Zhi cs tt ns[g]=false→(Zag.bool false=Zag.bool (ns.all (Zhi cs tt))∧Zbb h.length h hx):=fun hx hs hf=>⟨by rw [Zpp hgl hf],hs⟩
  refine Zcm (fun hb=>fail _ T3 (by unfold Zhi; rw [hb]; rfl)) (fun m1=>?_)
  simp only [Zak n3,List.getElem?_cons_succ,List.getElem?_cons_zero,Zap]
  refine (Zjo _ k3).mono ?_
  rintro v k4 ⟨rfl,t4⟩
  have ht3:=t3.le
  have T4:=T3.trans (t4.mono T3.le)
  have n4:k4[h'.length]?=some (.cells Zbw [.str ns[g].1,.str ns[g].2] false):=by rw [t4.eq _ (by omega)]; exact n3
  simp only [Zah]
  refine Zcm (fun hb=>fail _ T4 (by unfold Zhi; rw [m1,hb]; rfl)) (fun m2=>?_)
  simp only [Zak n4,List.getElem?_cons_succ,List.getElem?_cons_zero,Zap]
  refine Zam (fun hb=>fail _ T4 (by unfold Zhi; simp [show ¬ ns[g].2.length≤20 by omega])) (fun m3=>?_)
  apply Zby.J8i
  simp only [Nat.zero_add,Zak n4,List.getElem?_cons_succ,List.getElem?_cons_zero,Zap]
  refine (Yjj _ k4).mono ?_
  rintro v k5 ⟨t5,av,nv,cv,ev,rfl,hrow⟩
  simp only [Zaj]
  have ht4:=t4.le
  have ht5:=t5.le
  have T5:=T4.trans (t5.mono T4.le)
  have hvl:(Znr ns[g].2).length=nv:=by have:=hrow.1; simpa using this
  have hv6:(Znr ns[g].2).length≤6:=List.length_filter_le _ _
  have hni:Zhi cs tt ns[g]=(Znr ns[g].2).all fun v=>decide (v∈tt):=by unfold Zhi; rw [m1,m2]; simp [show ns[g].2.length≤20 by omega]
  have i5:k5[h0.length]?=some (.cells Zac [.str ct,.str tt,.slice (some (i,o)) n2 c2 e2] false):=by rw [t5.eq _ (by omega),t4.eq _ (by omega),t3.eq _ (by omega)]; exact iq
  refine Zby.L9ind _ _ _ _ _ _ _ _ _ _ _ _ _ _ _ _ _ (J:=fun (q:Nat) x76 h6=>x76=(q:Int)∧q≤nv∧h6=k5∧((Znr ns[g].2).take q).all (fun v=>decide (v∈tt))=true) (fun q=>nv - q) ?_ 0 _ _ ⟨rfl,by omega,rfl,rfl⟩
  rintro q x76 h6 ⟨rfl,hq6,rfl,hk6⟩ R9 hR9
  unfold Zby.L9t
  refine Zam (fun hlt6=>?_) (fun hge6=>?_)
  ·obtain ⟨iv,ov,rfl,_,hcv⟩:=hrow.at (k:=q) (by omega)
   rw [Zzy,List.getElem?_map,List.getElem?_eq_getElem (show q < (Znr ns[g].2).length by omega)] at hcv
   simp only [Option.map_some] at hcv
   simp only [Zav,Int.toNat_natCast,Nat.mul_one,hcv,Zap,Nat.add_zero,Nat.zero_add,Zak i5,List.getElem?_cons_succ,List.getElem?_cons_zero,one]
   refine ⟨by omega,Zjr.mono ?_⟩
   rintro v k7 ⟨rfl,rfl⟩
   simp only [Zah]
   refine Zcm (fun hb=>fail _ T5 (by rw [hni]; exact Zpp (by omega) hb)) (fun d1=>?_)
   rw [Zbx (by omega)]
   exact hR9 (q + 1) _ _ (by omega) ⟨rfl,by omega,rfl,Zft (by omega) hk6 d1⟩
  ·apply Zby.A9x2i
   apply Zby.J14i
   have:q=nv:=by omega
   subst this
   rw [List.take_of_length_le (by omega)] at hk6
   rw [Zbx (by omega)]
   refine hR (g + 1) _ _ (by omega) ⟨rfl,by omega,?_,Zft hgl hk (by rw [hni]; exact hk6)⟩
   exact hS.trans ((sq.mono hS.le).trans ((t3.mono (by omega)).trans ((t4.mono (by omega)).trans (t5.mono (by omega)))))
 ·apply Zby.A4x0i
  have:g=n2:=by omega
  subst this
  rw [List.take_of_length_le (by omega)] at hk
  exact ⟨by rw [hk],SS⟩
end Go.Sim

set_option linter.unusedVariables false
set_option linter.unusedSimpArgs false
set_option maxRecDepth 20000
namespace Go.Sim
open Go Go.RowKit

theorem Zzj (x t:List Nat):((Znr x).all fun c=>decide (c∈Znr t))=(Znr x).all fun c=>decide (c∈t):=by
 rw [Bool.eq_iff_iff,List.all_eq_true,List.all_eq_true]
 constructor
 ·intro h c hc
  have:=h c hc
  simp only [Znr,decide_eq_true_eq,List.mem_filter] at this ⊢
  exact this.2
 ·intro h c hc
  have h1:=h c hc
  have hv:c∈Zgk:=(List.mem_filter.1 hc).1
  simp only [Znr,decide_eq_true_eq,List.mem_filter] at h1 ⊢
  exact ⟨hv,h1⟩
theorem Zpm {h:Zaa} {a a1 a2:Pt} {n c n1 c1 n2 c2:Nat} {e e1 e2:Bool} {cs ns:List Nd} {ct tt:List Nat} (r:Row h.length h a (n * 2) (Zen eP cs)) (hc:n≤c) (hn:n≤1048576) (hs:∀ p∈cs,p.2.length≤1048576) (hb256:∀ p∈cs,∀ b∈p.1,b < 256)
  (r2:Row h.length h a2 (n2 * 2) (Zen eP ns)) (hn2:n2≤1048576) (hns:∀ p∈ns,p.2.length≤1048576) (htt:tt.length≤1048576) :
  Zad pg Zga [.agg [.slice a n c e,.slice a1 n1 c1 e1],.agg [.str ct,.str tt,.slice a2 n2 c2 e2]] h fun v h'=>v=.bool (Zkh cs ((ct,tt),ns))∧Zbb h.length h h':=by
 have hl:cs.length=n:=by have:=r.1; rw [Zbj Zhg] at this; omega
 have hl2:ns.length=n2:=by have:=r2.1; rw [Zbj Zhg] at this; omega
 apply Zda.call
 simp only [Zba]
 generalize hh0:h ++ [Zcp.cells Zan [.slice a n c e,.slice a1 n1 c1 e1] false]=h0
 generalize hh1:h0 ++ [Zcp.cells Zac [.str ct,.str tt,.slice a2 n2 c2 e2] false]=h1
 have s0:Zbb h.length h h0:=by rw [← hh0]; exact Zat
 have s01:Zbb h0.length h0 h1:=by rw [← hh1]; exact Zat
 have s1:Zbb h.length h h1:=s0.trans (s01.mono s0.le)
 have hl0:h0.length=h.length + 1:=by rw [← hh0]; simp
 have hl1:h1.length=h.length + 2:=by rw [← hh1]; simp [hl0]
 have w1:h1[h.length]?=some (.cells Zan [.slice a n c e,.slice a1 n1 c1 e1] false):=by rw [← hh1,Zxf (by omega),← hh0]; simp
 have i1:h1[h0.length]?=some (.cells Zac [.str ct,.str tt,.slice a2 n2 c2 e2] false):=by rw [← hh1]; simp
 simp only [Nat.add_zero,Zak w1,List.getElem?_cons_zero,Zaj]
 refine (Zpv (r.same' s1) hc hn hs hb256).mono ?_
 rintro v h2 ⟨rfl,s2⟩
 have S2:Zbb h.length h h2:=s1.trans (s2.mono (by omega))
 have w2:h2[h.length]?=some (.cells Zan [.slice a n c e,.slice a1 n1 c1 e1] false):=by rw [s2.eq _ (by omega)]; exact w1
 have i2:h2[h0.length]?=some (.cells Zac [.str ct,.str tt,.slice a2 n2 c2 e2] false):=by rw [s2.eq _ (by omega)]; exact i1
 simp only [Zah]
 refine Zcm (fun hb=>⟨by unfold Zkh; rw [hb]; rfl,S2⟩) (fun b1=>?_)
 rw [Zff w2 (by simp)]
 simp only [List.drop_zero,List.take_succ_cons,List.take_zero,Zas,Zai,Zaq,Nat.zero_add,Zak i2,List.getElem?_cons_succ,List.getElem?_cons_zero,Zaj,Zap]
 refine (Zpo (r.same' S2) (by omega)).mono ?_
 rintro v h3 ⟨rfl,s3⟩
 have hle2:=s2.le
 have S3:Zbb h.length h h3:=S2.trans (s3.mono S2.le)
 have i3:h3[h0.length]?=some (.cells Zac [.str ct,.str tt,.slice a2 n2 c2 e2] false):=by rw [s3.eq _ (by omega)]; exact i2
 have w3:h3[h.length]?=some (.cells Zan [.slice a n c e,.slice a1 n1 c1 e1] false):=by rw [s3.eq _ (by omega)]; exact w2
 simp only [Zao,Zsh]
 refine Zcm (fun hb=>⟨by unfold Zkh; rw [b1,hb]; rfl,S3⟩) (fun b2=>?_)
 simp only [Zak i3,List.getElem?_cons_succ,List.getElem?_cons_zero,Zap]
 refine (Zls tt (by omega) h3).mono ?_
 rintro v h4 ⟨rfl,s4⟩
 have hle3:=s3.le
 have S4:Zbb h.length h h4:=S3.trans (s4.mono S3.le)
 have i4:h4[h0.length]?=some (.cells Zac [.str ct,.str tt,.slice a2 n2 c2 e2] false):=by rw [s4.eq _ (by omega)]; exact i3
 have w4:h4[h.length]?=some (.cells Zan [.slice a n c e,.slice a1 n1 c1 e1] false):=by rw [s4.eq _ (by omega)]; exact w3
 simp only [Zah]
 refine Zcm (fun hb=>⟨by unfold Zkh; rw [b1,b2,hb]; rfl,S4⟩) (fun b3=>?_)
 simp only [Zak i4,List.getElem?_cons_succ,List.getElem?_cons_zero,Zap]
 refine Zam (fun hb=>⟨by unfold Zkh; rw [b1,b2,b3]; simp [show ¬ tt.length≤20 by omega],S4⟩) (fun b4=>?_)
 have hvh:=Yku b3
 have hne:=Yje b3
 have htl:0 < tt.length:=by cases tt with | nil=>exact absurd rfl hne | cons=>simp
 refine ⟨⟨by omega,by omega⟩,?_⟩
 have hgd:tt.getD (Int.toNat 0) 0=tt.headD 0:=by cases tt <;> rfl
 rw [hgd]
 refine (Zov _).mono ?_
 rintro v h5 ⟨rfl,rfl⟩
 simp only [Zah,← hvh]
 refine Zdl (fun hb=>⟨by unfold Zkh; rw [hb]; simp,S4⟩) (fun b5=>?_)
 simp only [Zak i4,List.getElem?_cons_succ,List.getElem?_cons_zero,Zaj]
 refine Zam (fun hb=>⟨by unfold Zkh; simp [show ¬ ns.length≤3 by omega],S4⟩) (fun b6=>?_)
 rw [Zzs b1 b2 b3 (by omega) b5 (by omega)]
 apply Zda.J3i
 simp only [Nat.zero_add,Zak i4,List.getElem?_cons_succ,List.getElem?_cons_zero,Zaj]
 have hle4:=s4.le
 refine Zda.L4ind _ _ _ _ _ _ _ _ _ _ (J:=fun (g:Nat) x50 h'=>x50=(g:Int)∧g≤n2∧Zbb h5.length h5 h'∧(ns.take g).all (Zhi cs tt)=true) (fun g=>n2 - g) ?_ 0 _ _ ⟨rfl,by omega,Zbb.refl _ _,rfl⟩
 rintro g x50 h' ⟨rfl,hg,hS,hk⟩ R hR
 have SS:Zbb h.length h h':=S4.trans (hS.mono S4.le)
 unfold Zda.L4t
 refine Zam (fun hlt=>?_) (fun hge=>?_)
 ·obtain ⟨i,o,hgl,rfl,hil,hr,_⟩:=(r2.same SS).pr (k:=g) (by omega)
  simp only [Zav,Int.toNat_natCast,hr,Zas,Zai,Zaq,Zap,Zba]
  rw [Zky]
  have hlh:=hS.le
  generalize hq:h' ++ [Zcp.cells Zbw [.str ns[g].1,.str ns[g].2] false]=hq'
  have sq:Zbb h'.length h' hq':=by rw [← hq]; exact Zat
  have hql:hq'.length=h'.length + 1:=by rw [← hq]; simp
  have nq:hq'[h'.length]?=some (.cells Zbw [.str ns[g].1,.str ns[g].2] false):=by rw [← hq]; simp
  have wq:hq'[h.length]?=some (.cells Zan [.slice a n c e,.slice a1 n1 c1 e1] false):=by rw [sq.eq _ (by omega),hS.eq _ (by omega)]; exact w4
  have iq:hq'[h0.length]?=some (.cells Zac [.str ct,.str tt,.slice (some (i,o)) n2 c2 e2] false):=by rw [sq.eq _ (by omega),hS.eq _ (by omega)]; exact i4
  have row:∀ {hx:Zaa},hx[h.length]?=some (.cells Zan [.slice a n c e,.slice a1 n1 c1 e1] false)→Zbk hx (.ptr (some (h.length,0))) 2=some [.slice a n c e,.slice a1 n1 c1 e1]:=fun w=>by rw [Zff w (by simp)]; rfl
  simp only [Zar,Nat.add_zero,Nat.zero_add,row wq,Zak nq,List.getElem?_cons_succ,List.getElem?_cons_zero,Zas,Zai,Zaq,Zaj,Zap,true_and]
  have Sq:Zbb h.length h hq':=SS.trans (sq.mono SS.le)
  refine ⟨by omega,(Zpo (r.same' Sq) (by omega)).mono ?_⟩
  rintro v k3 ⟨rfl,t3⟩
  have T3:=Sq.trans (t3.mono Sq.le)
  have n3:k3[h'.length]?=some (.cells Zbw [.str ns[g].1,.str ns[g].2] false):=by rw [t3.eq _ (by omega)]; exact nq
  have w3':k3[h.length]?=some (.cells Zan [.slice a n c e,.slice a1 n1 c1 e1] false):=by rw [t3.eq _ (by omega)]; exact wq
  have i3':k3[h0.length]?=some (.cells Zac [.str ct,.str tt,.slice (some (i,o)) n2 c2 e2] false):=by rw [t3.eq _ (by omega)]; exact iq
  have ht3:=t3.le
  simp only [Zao,Zsh,row w3',Zak n3,List.getElem?_cons_succ,List.getElem?_cons_zero,Zap,true_and]
  have fail:∀ hx,Zbb h.length h hx→Zhi cs tt ns[g]=false→(Zag.bool false=Zag.bool (ns.all (Zhi cs tt))∧Zbb h.length h hx):=fun hx hs hf=>⟨by rw [Zpp hgl hf],hs⟩
  refine Zcm (fun hb=>fail _ T3 (by unfold Zhi; rw [hb]; rfl)) (fun m1=>?_)
  have hnl:=hns ns[g] (List.getElem_mem hgl)
  refine (Zls _ (by omega) k3).mono ?_
  rintro v k4 ⟨rfl,t4⟩
  have T4:=T3.trans (t4.mono T3.le)
  have ht4:=t4.le
  have n4:k4[h'.length]?=some (.cells Zbw [.str ns[g].1,.str ns[g].2] false):=by rw [t4.eq _ (by omega)]; exact n3
  have w4':k4[h.length]?=some (.cells Zan [.slice a n c e,.slice a1 n1 c1 e1] false):=by rw [t4.eq _ (by omega)]; exact w3'
  have i4':k4[h0.length]?=some (.cells Zac [.str ct,.str tt,.slice (some (i,o)) n2 c2 e2] false):=by rw [t4.eq _ (by omega)]; exact i3'
  simp only [Zah,row w4',Zak n4,Zak i4',List.getElem?_cons_succ,List.getElem?_cons_zero,Zap,true_and]
  refine Zcm (fun hb=>fail _ T4 (by unfold Zhi; rw [m1,hb]; rfl)) (fun m2=>?_)
  refine Zam (fun hb=>fail _ T4 (by unfold Zhi; simp [show ¬ ns[g].2.length≤20 by omega])) (fun m3=>?_)
  refine (Ztf _ hnl).mono ?_
  rintro v k5 ⟨rfl,t5⟩
  have T5:=T4.trans (t5.mono T4.le)
  have ht5:=t5.le
  have n5:k5[h'.length]?=some (.cells Zbw [.str ns[g].1,.str ns[g].2] false):=by rw [t5.eq _ (by omega)]; exact n4
  have w5':k5[h.length]?=some (.cells Zan [.slice a n c e,.slice a1 n1 c1 e1] false):=by rw [t5.eq _ (by omega)]; exact w4'
  have i5':k5[h0.length]?=some (.cells Zac [.str ct,.str tt,.slice (some (i,o)) n2 c2 e2] false):=by rw [t5.eq _ (by omega)]; exact i4'
  simp only [row w5',Zak n5,Zak i5',List.getElem?_cons_succ,List.getElem?_cons_zero,Zap,true_and]
  refine (Ztf _ htt).mono ?_
  rintro v k6 ⟨rfl,t6⟩
  have T6:=T5.trans (t6.mono T5.le)
  have ht6:=t6.le
  have n6:k6[h'.length]?=some (.cells Zbw [.str ns[g].1,.str ns[g].2] false):=by rw [t6.eq _ (by omega)]; exact n5
  have w6':k6[h.length]?=some (.cells Zan [.slice a n c e,.slice a1 n1 c1 e1] false):=by rw [t6.eq _ (by omega)]; exact w5'
  have i6':k6[h0.length]?=some (.cells Zac [.str ct,.str tt,.slice (some (i,o)) n2 c2 e2] false):=by rw [t6.eq _ (by omega)]; exact i5'
  simp only [row w6',Zak n6,Zak i6',List.getElem?_cons_succ,List.getElem?_cons_zero,Zap,true_and]
  rw [if_pos m2,if_pos b3]
  have hvb:∀ s,(Znr s).length≤6:=fun s=>List.length_filter_le _ _
  have hv1:=hvb ns[g].2
  have hv2:=hvb tt
  refine (Yfh _ _ (by omega) (by omega)).mono ?_
  rintro v k7 ⟨rfl,rfl⟩
  have hni:Zhi cs tt ns[g]=(Znr ns[g].2).all fun v=>decide (v∈tt):=by unfold Zhi; rw [m1,m2]; simp [show ns[g].2.length≤20 by omega]
  simp only [Zah,row w6',Zak n6,Zak i6',List.getElem?_cons_succ,List.getElem?_cons_zero,Zap,true_and,Zzj,← hni]
  refine Zcm (fun hb=>fail _ T6 hb) (fun m4=>?_)
  apply Zda.J8i
  rw [Zbx (by omega)]
  refine hR (g + 1) _ _ (by omega) ⟨rfl,by omega,?_,Zft hgl hk m4⟩
  exact hS.trans ((sq.mono hS.le).trans ((t3.mono (by omega)).trans ((t4.mono (by omega)).trans ((t5.mono (by omega)).trans (t6.mono (by omega))))))
 ·apply Zda.A4x0i
  have:g=n2:=by omega
  subst this
  rw [List.take_of_length_le (by omega)] at hk
  exact ⟨by rw [hk],SS⟩
end Go.Sim

set_option linter.unusedVariables false
set_option linter.unusedSimpArgs false
set_option maxRecDepth 20000
namespace Go.Sim
open Go Go.RowKit

structure WB (w:Wd):Prop where
 lc:w.cs.length≤1048576
 li:w.is.length≤1048576
 cs:∀ p∈w.cs,p.1.length≤1048576∧p.2.length≤1048576∧∀ b∈p.1,b < 256
 is:∀ i∈w.is,i.1.1.length≤1048576∧i.1.2.length≤1048576∧i.2.length≤1048576∧∀ p∈i.2,p.1.length≤1048576∧p.2.length≤1048576
def Ztv (a0:Pt) (n0 c0:Nat) (e0:Bool) (a1:Pt) (n1 c1:Nat) (e1:Bool):Zcp:=.cells Zan [.slice a0 n0 c0 e0,.slice a1 n1 c1 e1] false
theorem Yjy {h:Zaa} {j:Nat} {a0 a1:Pt} {n0 c0 n1 c1:Nat} {e0 e1:Bool} (hj:h[j]?=some (Ztv a0 n0 c0 e0 a1 n1 c1 e1)):Zbk h (.ptr (some (j,0))) 2=some [.slice a0 n0 c0 e0,.slice a1 n1 c1 e1]:=by
 rw [Zff (show h[j]?=some (.cells Zan [.slice a0 n0 c0 e0,.slice a1 n1 c1 e1] false) from hj) (by simp)]; rfl
theorem Zmb {h:Zaa} {j o:Nat} {a0 a1:Pt} {n0 c0 n1 c1:Nat} {e0 e1:Bool} (hj:h[j]?=some (Ztv a0 n0 c0 e0 a1 n1 c1 e1)):Zae h (.ptr (some (j,o)))=([.slice a0 n0 c0 e0,.slice a1 n1 c1 e1]:List Zag)[o]?:=Zak (show h[j]?=some (.cells Zan [.slice a0 n0 c0 e0,.slice a1 n1 c1 e1] false) from hj)
theorem Zbb.get {b:Nat} {h h':Zaa} {j:Nat} {x:Zcp} (s:Zbb b h h') (hj:h[j]?=some x) (hb:j < b):h'[j]?=some x:=by rw [s.eq j hb]; exact hj
theorem Zbb.cat {h h1 h2:Zaa} (a:Zbb h.length h h1) (b:Zbb h1.length h1 h2):Zbb h.length h h2:=a.trans (b.mono a.le)

theorem Ykj {h:Zaa} {t:TypeId} {x y:Zag}:Zbk (h ++ [.cells t [x,y] false]) (.ptr (some (h.length,0))) 2=some [x,y]:=Zwt rfl
theorem Ylh {h:Zaa} {t:TypeId} {x y z:Zag}:Zbk (h ++ [.cells t [x,y,z] false]) (.ptr (some (h.length,0))) 3=some [x,y,z]:=Zwt rfl
theorem Zyu {h:Zaa} {a0 a1 a2:Pt} {n0 c0 n1 c1 n2 c2 j:Nat} {e0 e1 e2:Bool} {w:Wd} {ns:List Nd} {ct tt:List Nat} (r:Zor h a0 n0 c0 a1 n1 c1 w) (b:WB w) (hj:h[j]?=some (Ztv a0 n0 c0 e0 a1 n1 c1 e1))
  (r2:Row h.length h a2 (n2 * 2) (Zen eP ns)) (hn2:n2≤1048576) (hns:∀ p∈ns,p.2.length≤1048576) (htt:tt.length≤1048576) :
  Zad pg Zbn [.agg [.str ct,.str tt,.slice a2 n2 c2 e2],.ptr (some (j,0))] h fun v h'=>v=.bool (!Zkh w.cs ((ct,tt),ns))∧Zbb h.length h h':=by
 apply Zhe.call
 simp only [Zba]
 have s1:Zbb h.length h (h ++ [.cells Zac [.str ct,.str tt,.slice a2 n2 c2 e2] false]):=Zat
 rw [Yjy (s1.get hj (Own.lt hj)),Ylh]
 simp only [Zas,Zai,Zaq,Zaj,Zap]
 have hlc:=b.lc
 have hl0:=r.len0
 refine (Zqf (r.cls.same' s1) r.le0 (by omega) (fun p hp=>(b.cs p hp).2.1) (r2.same' s1) hn2 hns htt).mono ?_
 rintro v h2 ⟨rfl,s2⟩
 simp only [Zah]
 exact ⟨by trivial,s1.cat s2⟩
theorem Zyf {h:Zaa} {a0 a1:Pt} {n0 c0 n1 c1 j:Nat} {e0 e1:Bool} {w:Wd} (r:Zor h a0 n0 c0 a1 n1 c1 w) (b:WB w) (hj:h[j]?=some (Ztv a0 n0 c0 e0 a1 n1 c1 e1)) :
  Zad pg Zcg [.slice a1 n1 c1 e1,.fn Zbn [.ptr (some (j,0))]] h fun v h'=>(∃ z:Int,v=.int .i64 z∧decide (z ≥ 0)=!w.is.all (Zkh w.cs))∧Zbb h.length h h':=by
 have hl:=r.len1
 have hli:=b.li
 apply Zaw.call
 refine Zaw.L2ind _ _ _ _ _ _ _ (J:=fun (g:Nat) x8 h'=>x8=(g:Int)∧g≤n1∧Zbb h.length h h'∧(w.is.take g).all (Zkh w.cs)=true) (fun g=>n1 - g) ?_ 0 _ _ ⟨rfl,by omega,Zbb.refl _ _,rfl⟩
 rintro g x8 h' ⟨rfl,hg,hS,hk⟩ R hR
 unfold Zaw.L2t
 refine Zam (fun hlt=>?_) (fun hge=>?_)
 ·obtain ⟨i,o,hgl,a2,n2,c2,e2,rfl,_,hr,_,_,_,hrow,hn⟩:=(r.same hS).inst (k:=g) (by omega)
  simp only [Zav,Int.toNat_natCast,hr,Zas,Zai,Zaq,Zap,Zaj]
  have hb:=b.is _ (List.getElem_mem hgl)
  refine ⟨by omega,(Zyu (r.same hS) b (hS.get hj (Own.lt hj)) hrow (by omega) (fun p hp=>(hb.2.2.2 p hp).2) hb.2.1).mono ?_⟩
  rintro v h2 ⟨rfl,s2⟩
  simp only [Zah]
  have hS2:=hS.cat s2
  refine Zcm (fun he=>?_) (fun he=>?_)
  ·exact ⟨⟨_,rfl,by rw [Zpp hgl he]; simp⟩,hS2⟩
  ·rw [Zbx (by omega)]
   exact hR (g + 1) _ _ (by omega) ⟨rfl,by omega,hS2,Zft hgl hk he⟩
 ·apply Zaw.A2x0i
  have:g=n1:=by omega
  subst this
  rw [List.take_of_length_le (by omega)] at hk
  exact ⟨⟨_,rfl,by rw [hk]; rfl⟩,hS⟩
theorem Ztz {h:Zaa} {a0 a1:Pt} {n0 c0 n1 c1:Nat} {e0 e1:Bool} {w:Wd} (r:Zor h a0 n0 c0 a1 n1 c1 w) (b:WB w) :
  Zad pg Zhr [.agg [.slice a0 n0 c0 e0,.slice a1 n1 c1 e1]] h fun v h'=>v=.bool (Zfy w)∧Zbb h.length h h':=by
 have hl0:=r.len0
 have hl1:=r.len1
 have hlc:=b.lc
 apply Zkw.call
 simp only [Zba]
 generalize hh0:h ++ [Zcp.cells Zan [.slice a0 n0 c0 e0,.slice a1 n1 c1 e1] false]=h0
 have s0:Zbb h.length h h0:=by rw [← hh0]; exact Zat
 have w0:h0[h.length]?=some (Ztv a0 n0 c0 e0 a1 n1 c1 e1):=by rw [← hh0]; simp [Ztv]
 rw [Yjy w0]
 simp only [Zas,Zai,Zaq,Zaj]
 refine (Zpx (r.cls.same' s0) r.le0 (by omega) (fun p hp=>(b.cs p hp).2.1)).mono ?_
 rintro v h2 ⟨rfl,s2⟩
 have S2:=s0.cat s2
 have w2:=s2.get w0 (Own.lt w0)
 simp only [Zah]
 refine Zdl (fun b1=>?_) (fun b1=>⟨by unfold Zfy; rw [b1]; rfl,S2⟩)
 simp only [Zmb w2,Nat.zero_add,List.getElem?_cons_succ,List.getElem?_cons_zero,Zaj]
 refine Zam (fun b2=>?_) (fun b2=>⟨by unfold Zfy; rw [b1]; simp [show ¬ w.is.length≤10 by omega],S2⟩)
 apply Zbv.call
 refine (Zyf (r.same S2) b w2).mono ?_
 rintro v h3 ⟨⟨z,rfl,hz⟩,s3⟩
 simp only [Zao,Zah]
 refine ⟨?_,S2.cat s3⟩
 rw [hz,Bool.not_not]
 unfold Zfy
 rw [b1]; simp [show w.is.length≤10 by omega]
theorem Zsv {h:Zaa} {a0 a1:Pt} {n0 c0 n1 c1:Nat} {e0 e1:Bool} {w:Wd} (r:Zor h a0 n0 c0 a1 n1 c1 w) (b:WB w) :
  Zad pg Zhk [.agg [.slice a0 n0 c0 e0,.slice a1 n1 c1 e1]] h fun v h'=>v=.bool (Zfy w)∧Zbb h.length h h':=by
 have hl0:=r.len0
 have hl1:=r.len1
 have hlc:=b.lc
 have hli:=b.li
 apply Zeo.call
 simp only [Zba]
 generalize hh0:h ++ [Zcp.cells Zan [.slice a0 n0 c0 e0,.slice a1 n1 c1 e1] false]=h0
 have s0:Zbb h.length h h0:=by rw [← hh0]; exact Zat
 have w0:h0[h.length]?=some (Ztv a0 n0 c0 e0 a1 n1 c1 e1):=by rw [← hh0]; simp [Ztv]
 simp only [Zmb w0,Nat.zero_add,List.getElem?_cons_succ,List.getElem?_cons_zero,Zaj]
 refine Zeo.L2ind _ _ _ _ _ _ _ _ (J:=fun (g:Nat) x8 h'=>x8=(g:Int)∧g≤n1∧Zbb h0.length h0 h'∧(w.is.take g).all (Zkh w.cs)=true) (fun g=>n1 - g) ?_ 0 _ _ ⟨rfl,by omega,Zbb.refl _ _,rfl⟩
 rintro g x8 h' ⟨rfl,hg,hS,hk⟩ R hR
 have SS:=s0.cat hS
 have w1:=hS.get w0 (Own.lt w0)
 unfold Zeo.L2t
 refine Zam (fun hlt=>?_) (fun hge=>?_)
 ·obtain ⟨i,o,hgl,a2,n2,c2,e2,rfl,_,hr,_,_,_,hrow,hn⟩:=(r.same SS).inst (k:=g) (by omega)
  simp only [Zav,Int.toNat_natCast,hr,Zas,Zai,Zaq,Zap,Zaj,Zba]
  rw [Ylk]
  generalize hq:h' ++ [Zcp.cells Zac [.str w.is[g].1.1,.str w.is[g].1.2,.slice a2 n2 c2 e2] false]=hq'
  have sq:Zbb h'.length h' hq':=by rw [← hq]; exact Zat
  simp only [Zar]
  rw [Yjy (sq.get w1 (Own.lt w1)),← hq,Ylh,hq]
  simp only [Zas,Zai,Zaq,Zap,Zaj]
  have hb:=b.is _ (List.getElem_mem hgl)
  have Sq:=SS.cat sq
  refine ⟨by omega,(Zpm (r.cls.same' Sq) r.le0 (by omega) (fun p hp=>(b.cs p hp).2.1) (fun p hp=>(b.cs p hp).2.2) (hrow.same' sq) (by omega) (fun p hp=>(hb.2.2.2 p hp).2) hb.2.1).mono ?_⟩
  rintro v h2 ⟨rfl,s2⟩
  simp only [Zah]
  refine Zcm (fun he=>?_) (fun he=>?_)
  ·exact ⟨by unfold Zfy; rw [Zpp hgl he]; simp,Sq.cat s2⟩
  ·rw [Zbx (by omega)]
   exact hR (g + 1) _ _ (by omega) ⟨rfl,by omega,(hS.cat sq).cat s2,Zft hgl hk he⟩
 ·apply Zeo.A2x0i
  have:g=n1:=by omega
  subst this
  rw [List.take_of_length_le (by omega)] at hk
  simp only [Zmb w1,Nat.zero_add,List.getElem?_cons_zero,Zaj]
  refine (Zpv (r.cls.same' SS) r.le0 (by omega) (fun p hp=>(b.cs p hp).2.1) (fun p hp=>(b.cs p hp).2.2)).mono ?_
  rintro v h2 ⟨rfl,s2⟩
  simp only [Zah]
  have w2:=s2.get w1 (Own.lt w1)
  refine Zdl (fun b1=>?_) (fun b1=>⟨by unfold Zfy; rw [b1]; rfl,SS.cat s2⟩)
  simp only [Zmb w2,Nat.zero_add,List.getElem?_cons_succ,List.getElem?_cons_zero,Zaj]
  refine ⟨?_,SS.cat s2⟩
  unfold Zfy
  rw [b1,hk]; congr 1; rw [Bool.eq_iff_iff]; simp; omega
end Go.Sim

set_option linter.unusedVariables false
set_option linter.unusedSimpArgs false
set_option maxRecDepth 20000
namespace Go.Sim
open Go Go.RowKit

end Go.Sim
