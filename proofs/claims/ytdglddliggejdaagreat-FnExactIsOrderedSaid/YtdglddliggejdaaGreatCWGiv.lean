/- A part of the proof of a statement of this seat: see the text that holds the theorem. No condition. -/
import Derived.Test.YtdglddliggejdaaGreatPTCOwn
import Derived.Test.YtdglddliggejdaaGreatCSplit
import Derived.Test.YtdglddliggejdaaGreatSimW
import Derived.Test.YtdglddliggejdaaGreatPTCSplit
import Derived.Test.YtdglddliggejdaaGreatNm
import Derived.Test.YtdglddliggejdaaGreatPTCWVar2
set_option linter.unusedVariables false
set_option linter.unusedSimpArgs false
set_option linter.all false
set_option linter.unusedVariables false
namespace Go.Sim
open Go Go.RowKit

theorem Yab {h:Zaa} {c t:List Nat} {x:Int} (hc:c.length≤9223372036854775807) (ht:t.length≤9223372036854775807) (hx:0≤x∧x≤1048576) :
  Zae pg Zkg [.agg [.str c,.str t],.int .i64 x] h fun v h'=>∃ y,v=.int .i64 y∧Zaz h.length h h'∧(0≤y→(c.length:Int) + t.length + y=x):=by
 apply Zrg.call
 simp only [Zaw]
 have s1:Zaz h.length h (h ++ [.cells Zqc [.str c,.str t] false]):=Zaz.app (Nat.le_refl _) _
 simp [Zad]
 rw [IntWalk.i64_in _ (by omega)]
 refine Zan (fun hlt=>s1) (fun hge=>?_)
 rw [IntWalk.i64_in _ (by omega)]
 exact Zan (fun hlt=>s1) (fun hge=>⟨s1,by omega⟩)
theorem Yao {h:Zaa} {c t c' t':List Nat} :
  Zae pg Zkj [.agg [.str c,.str t],.agg [.str c',.str t']] h fun v h'=>v=.bool (decide (c=c') && decide (t=t'))∧Zaz h.length h h':=by
 apply Zqy.call
 simp only [Zaw]
 simp [Zad]
 by_cases e1:c=c' <;> by_cases e2:t=t' <;> simp [e1,e2] <;> exact Zaz.app (Nat.le_refl _) _
theorem Zyn {h:Zaa} {c t:List Nat} :
  Zae pg Zkf [.agg [.str c,.str t]] h fun v h'=>v=.agg [.str c,.str t]∧Zaz h.length h h':=by
 apply Zrc.call
 simp only [Zaw]
 simp [Zad,Zbe,Zbf,putRow,List.getElem?_append,List.getElem?_set]
 exact Zaz.app (Nat.le_refl _) _

def prs (l:List (List Nat × List Nat)):List Zal:=l.flatMap fun p=>[.str p.1,.str p.2]
@[simp] theorem Yre:prs []=[]:=rfl
@[simp] theorem Ykq (p:List Nat × List Nat) (l:List (List Nat × List Nat)):prs (p :: l)=.str p.1 :: .str p.2 :: prs l:=rfl
@[simp] theorem You (a b:List (List Nat × List Nat)):prs (a ++ b)=prs a ++ prs b:=by simp [prs]
theorem Zfz (l:List (List Nat × List Nat)):(prs l).length=l.length * 2:=by
 induction l with
 | nil=>rfl
 | cons p l ih=>simp [ih]; omega
theorem Zxd:∀ (l:List (List Nat × List Nat)) (k:Nat),(prs l).drop (k * 2)=prs (l.drop k)
 | l,0=>by simp
 | [],k + 1=>by simp
 | p :: l,k + 1=>by rw [Nat.succ_mul]; simpa using Zxd l k
theorem Row.pair {b:Nat} {h:Zaa} {a:Pt} {n:Nat} {l:List (List Nat × List Nat)} (r:Row b h a (n * 2) (prs l)) {k:Nat} (hk:k < n) :
  ∃ i o,∃ hk':k < l.length,a=some (i,o)∧i < b∧Zbf h (.ptr (some (i,o + k * 2))) 2=some [.str l[k].1,.str l[k].2]:=by
 have hl:l.length=n:=by have:=r.1; rw [Zfz] at this; omega
 obtain ⟨_,r⟩:=r
 rcases r with h0 | ⟨i,o,t,all,ro,ha,hb,hi,hle,hcs⟩
 ·omega
 ·refine ⟨i,o,by omega,ha,hb,?_⟩
  have hd:(all.drop (o + k * 2)).take 2=[.str l[k].1,.str l[k].2]:=by
   have h1:((all.drop o).take (n * 2)).drop (k * 2)=prs (l.drop k):=by rw [← hcs,Zxd]
   rw [List.drop_take,List.drop_drop] at h1
   have h2:(all.drop (o + k * 2)).take 2=((all.drop (o + k * 2)).take (n * 2 - k * 2)).take 2:=by rw [List.take_take,Nat.min_eq_left (by omega)]
   rw [h2,h1,List.drop_eq_getElem_cons (by omega)]
   simp only [Ykq,List.take_succ_cons,List.take_zero]
  simp only [Zbf,hi]
  rw [if_pos (by omega),hd]

def Zzz (l:List (List Nat × List Nat)):Nat:=(l.map fun p=>p.1.length + p.2.length).sum
theorem Zui {l:List (List Nat × List Nat)} {g:Nat} (h:g < l.length):Zzz (l.take (g + 1))=Zzz (l.take g) + (l[g].1.length + l[g].2.length):=by
 unfold Zzz; rw [List.take_succ_eq_append_getElem h,List.map_append,List.sum_append]; simp
theorem Yax (l:List (List Nat × List Nat)) (g:Nat):Zzz (l.take g)≤Zzz l:=by
 conv=>rhs; rw [← List.take_append_drop g l]
 unfold Zzz; rw [List.map_append,List.sum_append]; omega
theorem Yed {l:List (List Nat × List Nat)} {g:Nat} (h:g < l.length):l[g].1.length + l[g].2.length≤Zzz l:=by
 have:=Zui h; have:=Yax l (g + 1); omega
theorem Yfm {h:Zaa} {a:Pt} {n c:Nat} {e:Bool} {l:List (List Nat × List Nat)} (r:Row h.length h a (n * 2) (prs l)) (hs:∀ p∈l,p.1.length≤9223372036854775807∧p.2.length≤9223372036854775807) (hn:n≤9223372036854775807) {left:Int} (hl:0≤left∧left≤1048576) :
  Zae pg Zlo [.slice a n c e,.int .i64 left] h fun v h'=>∃ x,v=.int .i64 x∧Zaz h.length h h'∧(0≤x→(n:Int) + Zzz l + x=left):=by
 have hll:l.length=n:=by have:=r.1; rw [Zfz] at this; omega
 apply Zhj.call
 rw [IntWalk.i64_in _ (by omega)]
 refine Zan (fun hlt=>?_) (fun hge=>?_)
 ·exact ⟨_,rfl,Zaz.refl _ _,by omega⟩
 ·refine Zhj.L5ind _ _ _ _ _ (J:=fun (g:Nat) x1 x5 h'=>x5=(g:Int)∧Zaz h.length h h'∧g≤n∧0≤x1∧x1 + n + Zzz (l.take g)=left) (fun g=>n - g) ?_ 0 _ 0 h ⟨rfl,Zaz.refl _ _,by omega,by omega,by simp [Zzz]⟩
  rintro g x1 x5 h' ⟨rfl,hS,hg,h0,ht⟩ R hR
  unfold Zhj.L5t
  refine Zan (fun hlt=>?_) (fun hge=>?_)
  ·have hlt':g < n:=by omega
   obtain ⟨i,o,hgl,rfl,hi,hc⟩:=(r.same hS).pair hlt'
   have hsl:=hs _ (List.getElem_mem hgl)
   simp only [Zat,Int.toNat_natCast,hc,Zas,Zai,Zar,Zap]
   refine ⟨by omega,(Yab hsl.1 hsl.2 (by omega)).mono fun v h1 ⟨y,hv,hs1,hy⟩=>?_⟩
   subst hv
   simp only [Zam]
   have hS1:=hS.trans (hs1.mono hS.le)
   refine Zan (fun hneg=>⟨_,rfl,hS1,by omega⟩) (fun hneg=>?_)
   rw [Zmi hlt' (by omega)]
   have hyy:=hy (by omega)
   refine hR (g + 1) _ _ _ (by omega) ⟨rfl,hS1,by omega,by omega,?_⟩
   rw [Zui hgl]; omega
  ·have:g=n:=by omega
   subst this
   rw [List.take_of_length_le (by omega)] at ht
   exact Zhj.A5x0i _ _ _ ⟨_,rfl,hS,by omega⟩
end Go.Sim

set_option linter.unusedVariables false
namespace Go.Sim
open Go Go.RowKit
theorem Yep:∀ (l:List (List Nat × List Nat)) (k:Nat),(prs l).take (k * 2)=prs (l.take k)
 | l,0=>by simp
 | [],k + 1=>by simp
 | p :: l,k + 1=>by rw [Nat.succ_mul]; simpa using Yep l k
theorem Zzy {h:Zaa} {i k:Nat} {t:TypeId} {L:List (List Nat × List Nat)} {a b:List Nat} (hi:h[i]?=some (.cells t (prs L) false)) (hk:k < L.length) :
  Zbe h (.ptr (some (i,k * 2))) [.str a,.str b]=some (h.set i (.cells t (prs (L.take k ++ [(a,b)] ++ L.drop (k + 1))) false)):=by
 have hle:k * 2 + 2≤(prs L).length:=by rw [Zfz]; omega
 simp only [Zbe,hi,List.length_cons,List.length_nil,Nat.zero_add,hle,if_true,putRow]
 rw [Yep,show k * 2 + (1 + 1)=(k + 1) * 2 by omega,Zxd]
 simp
theorem Yea (n:Nat):reps n [.str [],.str []]=prs (List.replicate n ([],[])):=by
 unfold reps
 induction n with
 | zero=>rfl
 | succ n ih=>rw [List.replicate_succ,List.flatten_cons,ih,List.replicate_succ]; rfl
theorem Yfc {h:Zaa} {a0 a1:Pt} {n0 n1 c0 c1:Nat} {e0 e1:Bool} {l0 l1:List (List Nat × List Nat)} (r0:Row h.length h a0 (n0 * 2) (prs l0)) (r1:Row h.length h a1 (n1 * 2) (prs l1)) (hn:n0≤4611686018427387904) (heq:l0=l1) :
  Zae pg Zma [.slice a0 n0 c0 e0,.slice a1 n1 c1 e1] h fun v h'=>v=.bool true∧Zaz h.length h h':=by
 subst heq
 have hl0:l0.length=n0:=by have:=r0.1; rw [Zfz] at this; omega
 have hl1:l0.length=n1:=by have:=r1.1; rw [Zfz] at this; omega
 have:n1=n0:=by omega
 subst this
 apply Zhm.call
 simp only [beq_self_eq_true,Bool.not_true,Zax]
 refine Zhm.L4ind _ _ _ _ _ _ _ _ _ (J:=fun (k:Nat) x5 h'=>Zaz h.length h h'∧x5=(k:Int)∧k≤n1) (fun k=>n1 - k) ?_ 0 0 h ⟨Zaz.refl _ _,rfl,by omega⟩
 rintro k x5 h' ⟨hs,rfl,hk⟩ R hR
 unfold Zhm.L4t
 refine Zan (fun hlt=>?_) (fun hge=>Zhm.A4x0i _ _ ⟨rfl,hs⟩)
 have hlt':k < n1:=by omega
 obtain ⟨i,o,hgl,rfl,_,hc0⟩:=(r0.same hs).pair hlt'
 obtain ⟨i',o',_,rfl,_,hc1⟩:=(r1.same hs).pair hlt'
 simp only [Zat,Int.toNat_natCast,hc0,hc1,Zas,Zai,Zar,Zap,true_and]
 refine ⟨⟨by omega,by omega⟩,⟨by omega,by omega⟩,Yao.mono fun v h1 ⟨hv,hs1⟩=>?_⟩
 subst hv
 simp only [Zah,decide_true,Bool.and_self,Bool.not_true,Zax]
 rw [Zmi hlt' (by omega)]
 exact hR (k + 1) _ _ (by omega) ⟨hs.trans (hs1.mono hs.le),rfl,by omega⟩

def need (p:List Nat × List Nat):List Nat:=p.1 ++ [32] ++ p.2
end Go.Sim

set_option linter.unusedSimpArgs false
namespace Go.Sim

def Zel:List Nat:=[88,89,90,120,121,122]
def Zqn (s:List Nat):List Nat:=Zel.filter fun v=>decide (v∈s)
theorem Zux (c:Nat):c∈Zel ↔ Zbc c=true:=by simp [Zel,Zbc]; omega
theorem Zzo {s:List Nat} (h:Znz s=true):∃ t,Zhv s=some t:=Option.isSome_iff_exists.1 h
theorem Zsb {s:List Nat} {t:Ty} (h:Zhv s=some t):Znz s=true:=by simp [Znz,h]
end Go.Sim

set_option linter.unusedSimpArgs false
namespace Go.Sim

abbrev Nd:=List Nat × List Nat
abbrev Ins:=Nd × List Nd
structure Wd where
 cs:List Nd
 is:List Ins

def Ztb (s:List Nat):Bool:=match s with | [c]=>decide (65≤c∧c≤84) | _=>false
def Zhe (cs:List Nd) (c:List Nat):Bool:=cs.any fun x=>decide (x.1=c)
def Zvt (cs:List Nd) (s:List Nat) (k:Nat):Bool:=Zhe cs [s.getD k 0] && (k == 0 || decide (s.getD (k - 1) 0 < s.getD k 0))
def Yad (cs:List Nd) (s:List Nat):Bool:=(List.range s.length).all (Zvt cs s)
def Zvn (cs:List Nd) (i:Nat):Bool:=Ztb (cs.getD i ([],[])).1 && (i == 0 || Zed (cs.getD (i - 1) ([],[])).1 (cs.getD i ([],[])).1) && Yad (cs.take i) (cs.getD i ([],[])).2
def Zic (cs:List Nd):Bool:=(List.range cs.length).all (Zvn cs) && decide (1≤cs.length∧cs.length≤4)
def Zpt (s:List Nat):Bool:=match s with | [c]=>Zbc c | _=>false
noncomputable def Zim (cs:List Nd) (t:List Nat) (n:Nd):Bool:=Zhe cs n.1 && Znz n.2 && decide (n.2.length≤20) && (Zqn n.2).all fun v=>decide (v∈t)
noncomputable def Zlz (cs:List Nd) (i:Ins):Bool:=Zic cs && Zhe cs i.1.1 && Znz i.1.2 && decide (i.1.2.length≤20) && !Zpt i.1.2 && decide (i.2.length≤3) && i.2.all (Zim cs i.1.2)
noncomputable def Zdw (w:Wd):Bool:=Zic w.cs && decide (w.is.length≤10) && w.is.all (Zlz w.cs)
theorem Zjg {f:Nat→Bool} {g:Nat} (h:(List.range g).all f=true) (k:f g=true):(List.range (g + 1)).all f=true:=by
 rw [List.range_succ,List.all_append,h]; simp [k]
theorem Znc {f:Nat→Bool} {g n:Nat} (h:g < n) (k:f g=false):(List.range n).all f=false:=by
 rw [List.all_eq_false]; exact ⟨g,List.mem_range.2 h,by simp [k]⟩
theorem Zgu {α:Type} {f:α→Bool} {l:List α} {g:Nat} (hg:g < l.length) (h:(l.take g).all f=true) (k:f l[g]=true):(l.take (g + 1)).all f=true:=by
 rw [List.take_succ_eq_append_getElem hg,List.all_append,h]; simp [k]
theorem Zrz {α:Type} {f:α→Bool} {l:List α} {g:Nat} (hg:g < l.length) (k:f l[g]=false):l.all f=false:=by
 rw [List.all_eq_false]; exact ⟨_,List.getElem_mem hg,by simp [k]⟩
theorem Zhb {α:Type} {l:List α} {g:Nat} {d:α} (h:g < l.length):l.getD g d=l[g]:=by simp [List.getD,h]
theorem Ztu {cs:List Nd} {c:List Nat} {g:Nat} (hg:g < cs.length):Zhe (cs.take (g + 1)) c=(Zhe (cs.take g) c || decide (cs[g].1=c)):=by
 unfold Zhe; rw [List.take_succ_eq_append_getElem hg,List.any_append]; simp
def Yhb (cs:List Nd) (c:List Nat):Int:=if Zhe cs c then (cs.findIdx fun x=>decide (x.1=c):Nat) else -1
theorem Zvg (cs:List Nd) (c:List Nat):decide (Yhb cs c < 0)=!Zhe cs c:=by
 unfold Yhb; cases h:Zhe cs c <;> simp
theorem Ypq {t:List Nat} (h:Znz t=true):Zpt t=Zbc (t.headD 0):=by
 obtain ⟨u,hu,rfl,_⟩:=Yer.1 h
 cases u with
 | k c=>rfl
 | u c a=>
  have h1:=hu
  simp only [Ty.ok,Bool.and_eq_true,Bool.or_eq_true,beq_iff_eq] at h1
  rcases h1.1 with rfl | rfl <;> rfl
 | w c a b=>
  have h1:=hu
  simp only [Ty.ok,Bool.and_eq_true,beq_iff_eq] at h1
  rcases h1.1.1 with rfl; rfl
end Go.Sim

set_option linter.unusedVariables false
set_option linter.unusedSimpArgs false
set_option maxRecDepth 20000
namespace Go.Sim
open Go Go.RowKit

theorem Zxe {h:Zaa} {x a b:Int}:Zae pg Ziz [.int .i64 x,.int .i64 a,.int .i64 b] h fun v h'=>v=.bool (decide (a≤x∧x≤b))∧h'=h:=by
 apply Zuf.call
 refine Zan (fun h1=>?_) (fun h1=>?_)
 ·have:a≤x:=h1
  simp [this]
 ·have:¬ a≤x:=h1
  simp [this]
theorem Ygc {h:Zaa} (s:List Nat):Zae pg Zlu [.str s] h fun v h'=>v=.bool (Ztb s)∧h'=h:=by
 apply Zpk.call
 match s with
 | []=>simp [Ztb]
 | [c]=>
  simp only [List.length_cons,List.length_nil,show ((0 + 1:Nat):Int)=1 from rfl,beq_self_eq_true,Zbr]
  have e1:Zed [c] [65]=decide (c < 65):=by simp [Zed]
  have e2:Zed [c] [84]=decide (c < 84):=by simp [Zed]
  rw [e1,e2]
  refine Zot (fun h1=>?_) (fun h1=>?_)
  ·refine ⟨?_,by trivial⟩
   congr 1
   simp [Ztb]
   rw [Bool.eq_iff_iff]; simp; omega
  ·refine ⟨?_,by trivial⟩
   simp [Ztb]; omega
 | c :: d :: r=>
  refine Zej (fun h1=>?_) (fun h1=>⟨rfl,rfl⟩)
  simp at h1; omega
theorem Yak {h:Zaa} (s:List Nat) (hb:∀ b∈s,b < 256):Zae pg Zjq [.str s] h fun v h'=>v=.bool (Ztb s)∧h'=h:=by
 apply Znw.call
 match s,hb with
 | [],_=>simp [Ztb]
 | [c],hb=>
  have hc:=hb c (by simp)
  simp only [List.length_cons,List.length_nil,show ((0 + 1:Nat):Int)=1 from rfl,beq_self_eq_true,Zbr]
  refine ⟨⟨by omega,by simp⟩,?_⟩
  simp only [Int.toNat_zero,List.getD_cons_zero]
  rw [IntWalk.i64_in _ (by omega)]
  refine Zxe.mono ?_
  rintro v h' ⟨rfl,rfl⟩
  simp only [Zah]
  refine ⟨?_,by trivial⟩
  congr 1
  simp [Ztb]; rw [Bool.eq_iff_iff]; simp; omega
 | c :: d :: r,_=>
  refine Zej (fun h1=>?_) (fun h1=>⟨rfl,rfl⟩)
  simp at h1; omega
def Zdk {α:Type} (ty:TypeId) (enc:α→List Zal) (b:Nat) (h:Zaa) (a:Pt) (n:Nat) (l:List α):Prop:=l.length=n∧(n=0 ∨ ∃ i,a=some (i,0)∧b≤i∧h[i]?=some (.cells ty (Zeu enc l) false))
theorem Zdk.row {α:Type} {ty:TypeId} {enc:α→List Zal} {w b:Nat} {h:Zaa} {a:Pt} {n:Nat} {l:List α} (hw:∀ x,(enc x).length=w) (f:Zdk ty enc b h a n l):Row h.length h a (n * w) (Zeu enc l):=by
 obtain ⟨hl,h0 | ⟨i,ha,hb,hi⟩⟩:=f
 ·subst h0
  have:l=[]:=List.eq_nil_of_length_eq_zero hl
  subst this; simp; exact Row.nil
 ·rw [ha]; exact (Vec.mk1 (n:=0) (c:=0) hi).row (by rw [Zbm hw,hl])
theorem Zdk.same {α:Type} {ty:TypeId} {enc:α→List Zal} {b:Nat} {h h':Zaa} {a:Pt} {n:Nat} {l:List α} (f:Zdk ty enc b h a n l) (s:Zaz h.length h h'):Zdk ty enc b h' a n l:=
 ⟨f.1,f.2.imp id fun ⟨i,ha,hb,hi⟩=>⟨i,ha,hb,by rw [s.eq i (Own.lt hi)]; exact hi⟩⟩
end Go.Sim

set_option linter.unusedVariables false
set_option linter.unusedSimpArgs false
set_option maxRecDepth 20000
namespace Go.Sim
open Go Go.RowKit

def Ykd (a:Pt) (n:Nat) (h h':Zaa):Prop:=h.length≤h'.length∧∀ j,j < h.length→(∀ i,a=some (i,0)→n≠0→j≠i)→h'[j]?=h[j]?
theorem Ykd.refl (a:Pt) (n:Nat) (h:Zaa):Ykd a n h h:=⟨Nat.le_refl _,fun _ _ _=>rfl⟩
theorem Ykd.same {a:Pt} {n:Nat} {h h1 h2:Zaa} (o:Ykd a n h h1) (s:Zaz h1.length h1 h2):Ykd a n h h2:=⟨Nat.le_trans o.1 s.le,fun j hj hn=>by rw [s.eq j (by have:=o.1; omega)]; exact o.2 j hj hn⟩
theorem Ykd.set {n i:Nat} {h h1:Zaa} {x:Zcj} (o:Ykd (some (i,0)) n h h1) (hn:n≠0):Ykd (some (i,0)) n h (h1.set i x):=⟨by simp; exact o.1,fun j hj hne=>by rw [Zbw (fun e=>hne i rfl hn e.symm)]; exact o.2 j hj hne⟩
theorem Row.only {b:Nat} {h h':Zaa} {a a':Pt} {n m:Nat} {cs:List Zal} (r:Row b h a m cs) (o:Ykd a' n h h') (hb:∀ i,a'=some (i,0)→n≠0→b≤i):Row b h' a m cs:=by
 obtain ⟨hl,r⟩:=r
 refine ⟨hl,r.imp id ?_⟩
 rintro ⟨i,o',t,all,ro,ha,hi,hg,x⟩
 exact ⟨i,o',t,all,ro,ha,hi,by rw [o.2 i (Own.lt hg) fun j hj hn=>by have:=hb j hj hn; omega]; exact hg,x⟩
theorem Zdk.only {α:Type} {ty:TypeId} {enc:α→List Zal} {b:Nat} {h h':Zaa} {a a':Pt} {n m:Nat} {l:List α} (f:Zdk ty enc b h a n l) (o:Ykd a' m h h') (hb:∀ i,a'=some (i,0)→m≠0→∀ j,a=some (j,0)→j≠i):Zdk ty enc b h' a n l:=
 ⟨f.1,f.2.imp id fun ⟨i,ha,hbi,hi⟩=>⟨i,ha,hbi,by rw [o.2 i (Own.lt hi) fun j hj hn=>hb j hj hn i ha]; exact hi⟩⟩
end Go.Sim

set_option linter.unusedVariables false
set_option linter.unusedSimpArgs false
set_option maxRecDepth 20000
namespace Go.Sim
open Go Go.RowKit

structure EI where
 c:List Nat
 t:List Nat
 a:Pt
 n:Nat
 cp:Nat
 e:Bool
 deriving Inhabited
def eN (x:EI):List Zal:=[.str x.c,.str x.t,.slice x.a x.n x.cp x.e]
theorem Zwb (x:EI):(eN x).length=3:=rfl
def Yoe (h:Zaa) (x:EI) (i:Ins):Prop:=x.c=i.1.1∧x.t=i.1.2∧Row h.length h x.a (x.n * 2) (Zeu eP i.2)
def Yjx (h:Zaa) (xs:List EI) (is:List Ins):Prop:=xs.length=is.length∧∀ (k:Nat) (x:EI) (i:Ins),xs[k]?=some x→is[k]?=some i→Yoe h x i
structure Zph (h:Zaa) (a0:Pt) (n0 c0:Nat) (a1:Pt) (n1 c1:Nat) (w:Wd):Prop where
 cls:Row h.length h a0 (n0 * 2) (Zeu eP w.cs)
 ins:∃ xs,Row h.length h a1 (n1 * 3) (Zeu eN xs)∧Yjx h xs w.is
 le0:n0≤c0
 le1:n1≤c1
theorem Row.same' {h h':Zaa} {a:Pt} {n:Nat} {cs:List Zal} (r:Row h.length h a n cs) (s:Zaz h.length h h'):Row h'.length h' a n cs:=(r.same s).mono s.le
theorem Yoe.same {h h':Zaa} {x:EI} {i:Ins} (r:Yoe h x i) (s:Zaz h.length h h'):Yoe h' x i:=⟨r.1,r.2.1,r.2.2.same' s⟩
theorem Yjx.same {h h':Zaa} {xs:List EI} {is:List Ins} (r:Yjx h xs is) (s:Zaz h.length h h'):Yjx h' xs is:=⟨r.1,fun k x i hx hi=>(r.2 k x i hx hi).same s⟩
theorem Zph.same {h h':Zaa} {a0 a1:Pt} {n0 c0 n1 c1:Nat} {w:Wd} (r:Zph h a0 n0 c0 a1 n1 c1 w) (s:Zaz h.length h h'):Zph h' a0 n0 c0 a1 n1 c1 w:=
 ⟨r.cls.same' s,r.ins.imp fun xs ⟨r1,r2⟩=>⟨r1.same' s,r2.same s⟩,r.le0,r.le1⟩
theorem Yoe.len {h:Zaa} {x:EI} {i:Ins} (r:Yoe h x i):i.2.length=x.n:=by have:=r.2.2.1; rw [Zbm Zgz] at this; omega
theorem Zph.len0 {h:Zaa} {a0 a1:Pt} {n0 c0 n1 c1:Nat} {w:Wd} (r:Zph h a0 n0 c0 a1 n1 c1 w):w.cs.length=n0:=by have:=r.cls.1; rw [Zbm Zgz] at this; omega
theorem Zph.len1 {h:Zaa} {a0 a1:Pt} {n0 c0 n1 c1:Nat} {w:Wd} (r:Zph h a0 n0 c0 a1 n1 c1 w):w.is.length=n1:=by
 obtain ⟨xs,r1,r2,_⟩:=r.ins
 have:=r1.1; rw [Zbm Zwb] at this; omega
theorem Zph.inst {h:Zaa} {a0 a1:Pt} {n0 c0 n1 c1:Nat} {w:Wd} (r:Zph h a0 n0 c0 a1 n1 c1 w) {k:Nat} (hk:k < n1) :
  ∃ i o,∃ hk':k < w.is.length,∃ a n cp e,a1=some (i,o)∧i < h.length∧Zbf h (.ptr (some (i,o + k * 3))) 3=some [.str w.is[k].1.1,.str w.is[k].1.2,.slice a n cp e]∧Zad h (.ptr (some (i,o + k * 3)))=some (.str w.is[k].1.1)∧Zad h (.ptr (some (i,o + k * 3 + 1)))=some (.str w.is[k].1.2)∧Zad h (.ptr (some (i,o + k * 3 + 2)))=some (.slice a n cp e) ∧
   Row h.length h a (n * 2) (Zeu eP w.is[k].2)∧w.is[k].2.length=n:=by
 have hl:=r.len1
 obtain ⟨xs,r1,r2,r3⟩:=r.ins
 obtain ⟨i,o,hk',ha,hi,hr,hc⟩:=Row.el Zwb r1 (by omega) hk (by omega)
 have hI:=r3 k xs[k] w.is[k] (List.getElem?_eq_getElem hk') (List.getElem?_eq_getElem (by omega))
 obtain ⟨e1,e2,e3⟩:=id hI
 refine ⟨i,o,by omega,xs[k].a,xs[k].n,xs[k].cp,xs[k].e,ha,hi,?_,?_,?_,?_,e3,hI.len⟩
 ·rw [hr,eN,e1,e2]
 ·have:=hc 0 (by omega); rw [← e1]; simpa [eN] using this
 ·have:=hc 1 (by omega); rw [← e2]; simpa [eN] using this
 ·have:=hc 2 (by omega); simpa [eN] using this
theorem Row.pr {b:Nat} {h:Zaa} {a:Pt} {n:Nat} {l:List Nd} (r:Row b h a (n * 2) (Zeu eP l)) {k:Nat} (hk:k < n) :
  ∃ i o,∃ hk':k < l.length,a=some (i,o)∧i < b∧Zbf h (.ptr (some (i,o + k * 2))) 2=some [.str l[k].1,.str l[k].2]∧Zad h (.ptr (some (i,o + k * 2)))=some (.str l[k].1)∧Zad h (.ptr (some (i,o + k * 2 + 1)))=some (.str l[k].2):=by
 have hl:l.length=n:=by have:=r.1; rw [Zbm Zgz] at this; omega
 obtain ⟨i,o,hk',ha,hi,hr,hc⟩:=Row.el Zgz r hl hk (by omega)
 exact ⟨i,o,hk',ha,hi,hr,by simpa [eP] using hc 0 (by omega),by simpa [eP] using hc 1 (by omega)⟩

def Mid (lo hi:Nat) (h h':Zaa):Prop:=h.length≤h'.length∧∀ j,j < h.length→(j < lo ∨ hi≤j)→h'[j]?=h[j]?
theorem Mid.refl (lo hi:Nat) (h:Zaa):Mid lo hi h h:=⟨Nat.le_refl _,fun _ _ _=>rfl⟩
theorem Mid.trans {lo hi:Nat} {h h1 h2:Zaa} (a:Mid lo hi h h1) (b:Mid lo hi h1 h2):Mid lo hi h h2:=⟨Nat.le_trans a.1 b.1,fun j hj hn=>by rw [b.2 j (by have:=a.1; omega) hn]; exact a.2 j hj hn⟩
theorem Mid.of_same {lo hi:Nat} {h h':Zaa} (s:Zaz h.length h h'):Mid lo hi h h':=⟨s.le,fun j hj _=>s.eq j hj⟩
theorem Mid.same {lo hi:Nat} {h h1 h2:Zaa} (a:Mid lo hi h h1) (s:Zaz h1.length h1 h2):Mid lo hi h h2:=a.trans (Mid.of_same s)
theorem Mid.set {lo hi i:Nat} {h h1:Zaa} {x:Zcj} (o:Mid lo hi h h1) (h0:lo≤i) (h2:i < hi):Mid lo hi h (h1.set i x):=⟨by simp; exact o.1,fun j hj hne=>by rw [Zbw (by omega)]; exact o.2 j hj hne⟩
theorem Zdk.in {α:Type} {ty:TypeId} {enc:α→List Zal} {b:Nat} {h:Zaa} {a:Pt} {n:Nat} {l:List α} (f:Zdk ty enc b h a n l):∀ i,a=some (i,0)→n≠0→b≤i∧i < h.length:=by
 intro i hi hn
 rcases f.2 with h0 | ⟨j,ha,hb,hj⟩
 ·exact absurd h0 hn
 ·rw [hi] at ha; cases ha; exact ⟨hb,Own.lt hj⟩
structure Zqx (b:Nat) (h:Zaa) (a0:Pt) (n0:Nat) (a1:Pt) (n1:Nat) (xs:List EI) (w:Wd):Prop where
 cls:Zdk Zbq eP b h a0 n0 w.cs
 ins:Zdk Zac eN b h a1 n1 xs
 len:xs.length=w.is.length
 need:∀ (k:Nat) (x:EI) (i:Ins),xs[k]?=some x→w.is[k]?=some i→x.c=i.1.1∧x.t=i.1.2∧Zdk Zbv eP b h x.a x.n i.2
 sep:∀ (j k:Nat) (x y:EI),j≠k→xs[j]?=some x→xs[k]?=some y→x.n≠0→y.n≠0→x.a≠y.a
 nn:∀ x∈xs,x.a≠none
 nc:a0≠none
theorem Zqx.same {b:Nat} {h h':Zaa} {a0 a1:Pt} {n0 n1:Nat} {xs:List EI} {w:Wd} (f:Zqx b h a0 n0 a1 n1 xs w) (s:Zaz h.length h h'):Zqx b h' a0 n0 a1 n1 xs w:=
 ⟨f.cls.same s,f.ins.same s,f.len,fun k x i hx hi=>⟨(f.need k x i hx hi).1,(f.need k x i hx hi).2.1,(f.need k x i hx hi).2.2.same s⟩,f.sep,f.nn,f.nc⟩
theorem Zqx.rep {b:Nat} {h:Zaa} {a0 a1:Pt} {n0 c0 n1 c1:Nat} {xs:List EI} {w:Wd} (f:Zqx b h a0 n0 a1 n1 xs w) (h0:n0≤c0) (h1:n1≤c1):Zph h a0 n0 c0 a1 n1 c1 w:=
 ⟨f.cls.row Zgz,⟨xs,f.ins.row Zwb,f.len,fun k x i hx hi=>⟨(f.need k x i hx hi).1,(f.need k x i hx hi).2.1,(f.need k x i hx hi).2.2.row Zgz⟩⟩,h0,h1⟩
end Go.Sim

set_option linter.unusedVariables false
set_option linter.unusedSimpArgs false
set_option maxRecDepth 20000
namespace Go.Sim
open Go Go.RowKit

def one (c:Nat):List Nat:=[c]
theorem Zvi:pg.underlying Zsl=some (.slice Zdb):=by kernel_rfl
theorem Zzr:pg.cellsOf Zdb=1:=by kernel_rfl
theorem Zyv:pg.okElem Zdb=true:=by kernel_rfl
theorem Yai:pg.bytesOf Zdb≤127:=Nat.le_of_ble_eq_true (by kernel_rfl)
theorem Yoh (s:List Nat) (h:Zaa):Zae pg Zqj [.str s] h fun v h'=>Zaz h.length h h'∧∃ a n c e,v=.slice a n c e∧Row h'.length h' a n (strs ((Zqn s).map one)):=by
 apply Zhs.call
 simp only [Zaw]
 have hlist:(h ++ [Zcj.cells Zdb [] false] ++ [Zcj.cells Zdb [.str [88],.str [89],.str [90],.str [120],.str [121],.str [122]] false])[h.length + 1]?=some (.cells Zdb [.str [88],.str [89],.str [90],.str [120],.str [121],.str [122]] false):=by simp
 have hlen:List.length (h ++ [Zcj.cells Zdb [] false])=h.length + 1:=by simp
 rw [hlen]
 refine Zhs.L3ind _ _ _ _ _ _ _ (J:=fun (g:Nat) a3 n3 c3 e3 x9 h'=>x9=(g:Int)∧g≤6∧Zaz h.length h h'∧h'[h.length + 1]?=some (.cells Zdb [.str [88],.str [89],.str [90],.str [120],.str [121],.str [122]] false)∧n3=(((Zel.take g).filter fun v=>decide (v∈s)).map one).length∧Vec Zdb h' a3 n3 c3 (strs (((Zel.take g).filter fun v=>decide (v∈s)).map one))∧∀ i,a3=some (i,0)→h.length≤i∧i≠h.length + 1) (fun g=>6 - g) ?_ 0 _ _ _ _ _ _
  ⟨rfl,by omega,(Zaz.app (Nat.le_refl _) _).trans (Zaz.app (by simp) _),hlist,by simp,Vec.mk1 (by simp),fun i hi=>by cases hi; omega⟩
 rintro g a3 n3 c3 e3 x9 h' ⟨rfl,hg,hS,hl,rfl,hv,ha⟩ R hR
 unfold Zhs.L3t
 refine Zan (fun hlt=>?_) (fun hge=>?_)
 ·have hlt':g < 6:=by omega
  have hc:∃ c,Zel[g]?=some c∧Zad h' (.ptr (some (h.length + 1,0 + (g:Int).toNat * 1)))=some (.str [c]):=by
   rw [Zak hl,Int.toNat_natCast]
   match g,hlt' with
   | 0,_ | 1,_ | 2,_ | 3,_ | 4,_ | 5,_=>exact ⟨_,rfl,rfl⟩
  obtain ⟨c,hc1,hc2⟩:=hc
  simp only [Zat,hc2,Zap]
  refine ⟨by omega,Zll.mono ?_⟩
  rintro v h2 ⟨rfl,rfl⟩
  simp only [Zah]
  have htk:Zel.take (g + 1)=Zel.take g ++ [c]:=by
   rw [List.take_succ,hc1]; rfl
  have hbd:(((Zel.take g).filter fun v=>decide (v∈s)).map one).length≤6:=by
   rw [List.length_map]
   exact Nat.le_trans (List.length_filter_le _ _) (by simp; omega)
  refine Zan (fun hin=>?_) (fun hout=>?_)
  ·simp only [Zaw]
   refine hv.push Zvi Zzr Zyv Yai (by simp) rfl (by omega) (fun h4 hl4 hi4 hk4=>?_)
   simp only [Zag]
   apply Zhs.J7i
   rw [Zbn (by omega)]
   have hle:=hS.le
   refine hR (g + 1) _ _ _ _ _ _ (by omega) ⟨rfl,by omega,⟨by omega,fun j hj=>?_⟩,?_,?_,Vec.mk1 ?_,fun i hi=>by cases hi; have:=Own.lt hl; omega⟩
   ·rw [hk4 j (by omega) fun i hi=>by have:=(ha i hi).1; omega]; exact hS.eq j hj
   ·rw [hk4 _ (Own.lt hl) fun i hi=>(ha i hi).2.symm]; exact hl
   ·rw [htk,List.filter_append]; simp [hin]
   ·rw [hi4,htk,List.filter_append]; simp [hin,strs,one]
  ·apply Zhs.J7i
   rw [Zbn (by omega)]
   have hf:(Zel.take (g + 1)).filter (fun v=>decide (v∈s))=(Zel.take g).filter fun v=>decide (v∈s):=by rw [htk,List.filter_append]; simp [hout]
   refine hR (g + 1) _ _ _ _ _ _ (by omega) ⟨rfl,by omega,hS,hl,by rw [hf],by rw [hf]; exact hv,ha⟩
 ·have:g=6:=by omega
  subst this
  apply Zhs.A3x0i
  refine ⟨hS,_,_,_,_,rfl,hv.row (by simp)⟩
end Go.Sim

set_option linter.unusedVariables false
set_option linter.unusedSimpArgs false
set_option maxRecDepth 20000
namespace Go.Sim
open Go Go.RowKit

theorem Zff {h:Zaa} {t:TypeId} {cs:List Zal} {o:Nat}:Zad (h ++ [.cells t cs false]) (.ptr (some (h.length,o)))=cs[o]?:=Zak (t:=t) (cs:=cs) (ro:=false) (by simp)
theorem Zzs {h:Zaa} {t:TypeId} {cs:List Zal} {n:Nat} (hn:cs.length=n):Zbf (h ++ [.cells t cs false]) (.ptr (some (h.length,0))) n=some cs:=by
 rw [Zer (show (h ++ [Zcj.cells t cs false])[h.length]?=some (.cells t cs false) by simp) (by omega)]; simp [← hn]
theorem Zaq {h:Zaa} {x:Zcj}:Zaz h.length h (h ++ [x]):=Zaz.app (Nat.le_refl _) _
theorem Zsg {h:Zaa} {t:TypeId} {cs vs:List Zal} (hl:cs.length=vs.length):Zbe (h ++ [.cells t cs false]) (.ptr (some (h.length,0))) vs=some (h ++ [.cells t vs false]):=by
 rw [Zbl (show (h ++ [Zcj.cells t cs false])[h.length]?=some (.cells t cs false) by simp) (by omega)]
 simp [putRow,hl]
theorem Zin {h:Zaa} {t:TypeId} {x y a b:Zal}:Zbe (h ++ [.cells t [x,y] false]) (.ptr (some (h.length,0))) [a,b]=some (h ++ [.cells t [a,b] false]):=Zsg rfl
theorem Ypu {h:Zaa} {t:TypeId} {x y z a b c:Zal}:Zbe (h ++ [.cells t [x,y,z] false]) (.ptr (some (h.length,0))) [a,b,c]=some (h ++ [.cells t [a,b,c] false]):=Zsg rfl
theorem Row.sl {b:Nat} {h:Zaa} {a:Pt} {n k:Nat} {l:List Nd} (r:Row b h a (n * 2) (Zeu eP l)) (hk:k≤n) (hl:l.length=n):Row b h a (k * 2) (Zeu eP (l.take k)):=by
 obtain ⟨h1,h2⟩:=r
 have e:(Zeu eP (l.take k)).length=k * 2:=by rw [Zbm Zgz,List.length_take,Nat.min_eq_left (by omega)]
 refine ⟨e,?_⟩
 rcases h2 with h0 | ⟨i,o,t,all,ro,ha,hb,hi,hle,hcs⟩
 ·exact .inl (by omega)
 ·refine .inr ⟨i,o,t,all,ro,ha,hb,hi,by omega,?_⟩
  rw [← Yir Zgz,hcs,List.take_take,Nat.min_eq_left (by omega)]
theorem Yey {b:Nat} {h:Zaa} {a:Pt} {n c k:Nat} {e:Bool} {l:List Nd} {K:Zal→Prop} (r:Row b h a (n * 2) (Zeu eP l)) (hl:l.length=n) (hk:k≤n) (hc:n≤c) {z:Int} (hz:z=k)
  (hK:∀ a' c' e',Row b h a' (k * 2) (Zeu eP (l.take k))→k≤c'→K (.slice a' k c' e')):Zmy a n c e 2 none (some (.int .i64 z)) none K:=by
 subst hz
 simp only [Zmy,Zkd]
 refine ⟨by omega,?_⟩
 split
 ·have h0:n=0:=by
   obtain ⟨h1,h2⟩:=r
   rcases h2 with h2 | ⟨i,o,t,all,ro,ha,_⟩
   ·omega
   ·cases ha
  have hk0:k=0:=by omega
  subst hk0
  exact ⟨⟨by trivial,by simp,.inl (by trivial)⟩,hK _ _ _ (by simpa using Row.nil) (by omega)⟩
 ·rename_i i o
  refine ⟨fun hlt=>?_,fun hlt=>?_⟩
  ·have e2:((k:Int) - 0).toNat=k:=by omega
   have e3:o + Int.toNat 0 * 2=o:=by simp
   have e4:((c:Int) - 0).toNat=c:=by omega
   rw [e2,e3,e4]
   exact hK _ _ _ (r.sl hk hl) (by omega)
  ·have hk0:k=0:=by omega
   subst hk0
   exact hK _ _ _ (by simpa using Row.nil) (by omega)

theorem Yci {h:Zaa} {x:Nd} {j:Nat} {c:List Nat} (hj:Zad h (.ptr (some (j,0)))=some (.str c)) (hjl:j < h.length) :
  Zae pg Zco [.agg [.str x.1,.str x.2],.ptr (some (j,0))] h fun v h'=>v=.bool (decide (x.1=c))∧Zaz h.length h h':=by
 apply Zmq.call
 simp only [Zaw,Zff,List.getElem?_cons_zero,Zap]
 have:=(Zaq (h:=h) (x:=.cells Zbq [.str x.1,.str x.2] false)).cell hjl hj
 rw [this]
 exact ⟨rfl,Zaq⟩
theorem Ybv {h:Zaa} {a:Pt} {n c:Nat} {e:Bool} {cs:List Nd} {j:Nat} {s:List Nat} (r:Row h.length h a (n * 2) (Zeu eP cs)) (hn:n≤4611686018427387904) (hj:Zad h (.ptr (some (j,0)))=some (.str s)) (hjl:j < h.length) :
  Zae pg Zcv [.slice a n c e,.fn Zco [.ptr (some (j,0))]] h fun v h'=>(∃ z:Int,v=.int .i64 z∧decide (z ≥ 0)=Zhe cs s)∧Zaz h.length h h':=by
 have hl:cs.length=n:=by have:=r.1; rw [Zbm Zgz] at this; omega
 apply Zbg.call
 refine Zbg.L2ind _ _ _ _ _ _ _ (J:=fun (g:Nat) x8 h'=>x8=(g:Int)∧g≤n∧Zaz h.length h h'∧Zhe (cs.take g) s=false) (fun g=>n - g) ?_ 0 _ _ ⟨rfl,by omega,Zaz.refl _ _,rfl⟩
 rintro g x8 h' ⟨rfl,hg,hS,hk⟩ R hR
 unfold Zbg.L2t
 refine Zan (fun hlt=>?_) (fun hge=>?_)
 ·obtain ⟨i,o,hgl,rfl,_,hr,_⟩:=(r.same hS).pr (k:=g) (by omega)
  simp only [Zat,Int.toNat_natCast,hr,Zas,Zai,Zar,Zap]
  refine ⟨by omega,(Yci (x:=cs[g]) (hS.cell hjl hj) (by have:=hS.le; omega)).mono ?_⟩
  rintro v h2 ⟨rfl,s2⟩
  simp only [Zah]
  have hS2:=hS.trans (s2.mono hS.le)
  refine Zan (fun he=>?_) (fun he=>?_)
  ·refine ⟨⟨_,rfl,?_⟩,hS2⟩
   have:Zhe cs s=true:=by unfold Zhe; rw [List.any_eq_true]; exact ⟨_,List.getElem_mem hgl,by simpa using he⟩
   rw [this]; simp
  ·rw [Zbn (by omega)]
   exact hR (g + 1) _ _ (by omega) ⟨rfl,by omega,hS2,by rw [Ztu hgl,hk]; simp [he]⟩
 ·apply Zbg.A2x0i
  have:g=n:=by omega
  subst this
  rw [List.take_of_length_le (by omega)] at hk
  exact ⟨⟨_,rfl,by rw [hk]; rfl⟩,hS⟩
theorem Zyb {h:Zaa} {a:Pt} {n c:Nat} {e:Bool} {cs:List Nd} {s:List Nat} (r:Row h.length h a (n * 2) (Zeu eP cs)) (hn:n≤4611686018427387904) :
  Zae pg Zjm [.slice a n c e,.str s] h fun v h'=>v=.bool (Zhe cs s)∧Zaz h.length h h':=by
 apply Zss.call
 simp only [Zaw]
 apply Zcq.call
 have s1:Zaz h.length h (h ++ [.cells Zdb [.str s] false]):=Zaq
 refine (Ybv (r.same' s1) hn (s:=s) (by rw [Zff]; rfl) (by simp)).mono ?_
 rintro v h2 ⟨⟨z,rfl,hz⟩,s2⟩
 simp only [Zam,Zah]
 exact ⟨by rw [hz],s1.trans (s2.mono s1.le)⟩
theorem Zry {h:Zaa} {a a1:Pt} {n c n1 c1:Nat} {e e1:Bool} {cs:List Nd} {s:List Nat} (r:Row h.length h a (n * 2) (Zeu eP cs)) (hn:n≤4611686018427387904) :
  Zae pg Zhk [.agg [.slice a n c e,.slice a1 n1 c1 e1],.str s] h fun v h'=>v=.int .i64 (Yhb cs s)∧Zaz h.length h h':=by
 have hl:cs.length=n:=by have:=r.1; rw [Zbm Zgz] at this; omega
 apply Zhd.call
 simp only [Zaw,Zff,Nat.add_zero,List.getElem?_cons_zero,Zag]
 have s1:Zaz h.length h (h ++ [.cells Zao [.slice a n c e,.slice a1 n1 c1 e1] false]):=Zaq
 refine Zhd.L2ind _ _ _ _ _ _ _ (J:=fun (g:Nat) x10 h'=>x10=(g:Int)∧g≤n∧Zaz h.length h h'∧Zhe (cs.take g) s=false) (fun g=>n - g) ?_ 0 _ _ ⟨rfl,by omega,s1,rfl⟩
 rintro g x8 h' ⟨rfl,hg,hS,hk⟩ R hR
 unfold Zhd.L2t
 refine Zan (fun hlt=>?_) (fun hge=>?_)
 ·obtain ⟨i,o,hgl,rfl,_,hr,_⟩:=(r.same hS).pr (k:=g) (by omega)
  simp only [Zat,Int.toNat_natCast,hr,Zas,Zai,Zar,Zap,Zaw]
  rw [Zin]
  simp only [Zau,Zff,Nat.add_zero,List.getElem?_cons_zero,Zap]
  refine ⟨by omega,?_⟩
  have hS2:Zaz h.length h (h' ++ [.cells Zbq [.str cs[g].1,.str cs[g].2] false]):=hS.trans (Zaz.app hS.le _)
  refine Zan (fun he=>?_) (fun he=>?_)
  ·refine ⟨?_,hS2⟩
   have hkn:Zhe cs s=true:=by unfold Zhe; rw [List.any_eq_true]; exact ⟨_,List.getElem_mem hgl,by simpa using he⟩
   unfold Yhb
   rw [hkn,if_pos rfl]
   congr 2
   symm
   rw [List.findIdx_eq hgl]
   refine ⟨by simpa using he,fun j hj=>?_⟩
   unfold Zhe at hk
   rw [List.any_eq_false] at hk
   have:=hk cs[j] (List.mem_take_iff_getElem.2 ⟨j,by omega,rfl⟩)
   simpa using this
  ·rw [Zbn (by omega)]
   exact hR (g + 1) _ _ (by omega) ⟨rfl,by omega,hS2,by rw [Ztu hgl,hk]; simp [he]⟩
 ·apply Zhd.A2x0i
  have:g=n:=by omega
  subst this
  rw [List.take_of_length_le (by omega)] at hk
  exact ⟨by unfold Yhb; rw [hk]; rfl,hS⟩

theorem Yhd {s:List Nat} {g:Nat} {z:Int} (hg:g < s.length) (hz:z=((g + 1:Nat):Int)):sub s (g:Int) z=[s[g]]:=by
 subst hz
 simp only [sub,Int.toNat_natCast]
 rw [List.take_succ_eq_append_getElem hg,List.drop_append_of_le_length (by simp; omega),List.drop_of_length_le (by rw [List.length_take]; exact Nat.min_le_left _ _),List.nil_append]
theorem Zqq {g:Nat} (hg:0 < g) (hn:g≤9223372036854775807):IntKind.wrap .i64 ((g:Int) - 1)=((g - 1:Nat):Int):=by rw [IntWalk.i64_in _ (by omega)]; omega
theorem Ydk {cs:List Nd} {s:List Nat} {g:Nat} (hg:g < s.length):Zvt cs s g=(Zhe cs [s[g]] && (g == 0 || decide (s.getD (g - 1) 0 < s[g]))):=by unfold Zvt; rw [Zhb hg]
theorem Ydi {cs:List Nd} {g:Nat} (hg:g < cs.length):Zvn cs g=(Ztb cs[g].1 && (g == 0 || Zed (cs.getD (g - 1) ([],[])).1 cs[g].1) && Yad (cs.take g) cs[g].2):=by unfold Zvn; rw [Zhb hg]
theorem Ziw {cs:List Nd} {g:Nat} (hg:g < cs.length) (h:Zvn cs g=false):Zic cs=false:=by unfold Zic; rw [Znc hg h]; rfl
theorem Zsp {h:Zaa} {a a1:Pt} {n c n1 c1:Nat} {e e1:Bool} {cs:List Nd} (r:Row h.length h a (n * 2) (Zeu eP cs)) (hc:n≤c) (hn:n≤1048576) (hs:∀ p∈cs,p.2.length≤1048576) :
  Zae pg Zhr [.agg [.slice a n c e,.slice a1 n1 c1 e1]] h fun v h'=>v=.bool (Zic cs)∧Zaz h.length h h':=by
 have hl:cs.length=n:=by have:=r.1; rw [Zbm Zgz] at this; omega
 apply Zcm.call
 simp only [Zaw,Zff,Nat.add_zero,List.getElem?_cons_zero,Zag]
 have s1:Zaz h.length h (h ++ [.cells Zao [.slice a n c e,.slice a1 n1 c1 e1] false]):=Zaq
 have hw:(h ++ [Zcj.cells Zao [.slice a n c e,.slice a1 n1 c1 e1] false])[h.length]?=some (.cells Zao [.slice a n c e,.slice a1 n1 c1 e1] false):=by simp
 refine Zcm.L2ind _ _ _ _ _ _ _ _ (J:=fun (g:Nat) x9 h'=>x9=(g:Int)∧g≤n∧Zaz h.length h h'∧h'[h.length]?=some (.cells Zao [.slice a n c e,.slice a1 n1 c1 e1] false)∧(List.range g).all (Zvn cs)=true) (fun g=>n - g) ?_ 0 _ _ ⟨rfl,by omega,s1,hw,rfl⟩
 rintro g x9 h' ⟨rfl,hg,hS,hW,hk⟩ R hR
 unfold Zcm.L2t
 refine Zan (fun hlt=>?_) (fun hge=>?_)
 ·obtain ⟨i,o,hgl,rfl,hil,hr,_⟩:=(r.same hS).pr (k:=g) (by omega)
  simp only [Zat,Int.toNat_natCast,hr,Zas,Zai,Zar,Zap,Zaw]
  rw [Zin]
  simp only [Zau,Zff,Nat.add_zero,List.getElem?_cons_zero,Zap]
  have hS2:Zaz h.length h (h' ++ [.cells Zbq [.str cs[g].1,.str cs[g].2] false]):=hS.trans (Zaz.app hS.le _)
  refine ⟨by omega,(Ygc _).mono ?_⟩
  rintro v h2 ⟨rfl,rfl⟩
  simp only [Zah,true_and]
  have hcl:=Ydi hgl
  have hle:=hS2.le
  have hWl:=Own.lt hW
  have hW2:(h' ++ [.cells Zbq [.str cs[g].1,.str cs[g].2] false])[h.length]?=some (.cells Zao [.slice (some (i,o)) n c e,.slice a1 n1 c1 e1] false):=Zly hW
  have hcell:∀ o',Zad (h' ++ [.cells Zbq [.str cs[g].1,.str cs[g].2] false]) (.ptr (some (h'.length,o')))=([.str cs[g].1,.str cs[g].2]:List Zal)[o']?:=fun o'=>Zff
  -- the classes above
  have key:(Ztb cs[g].1 && (g == 0 || Zed (cs.getD (g - 1) ([],[])).1 cs[g].1))=true→Zcm.J6 (fun v h'=>v=.bool (Zic cs)∧Zaz h.length h h') R h'.length 0 h.length 0 (g:Int) (some (i,o)) n c e (n:Int) (g:Int) (h' ++ [.cells Zbq [.str cs[g].1,.str cs[g].2] false]):=by
   intro hpre
   rw [hpre,Bool.true_and] at hcl
   apply Zcm.J6i
   rw [hcell]
   simp only [Nat.zero_add,List.getElem?_cons_succ,List.getElem?_cons_zero,Zap]
   have hsl:=hs cs[g] (List.getElem_mem hgl)
   refine Zcm.L7ind _ _ _ _ _ _ _ _ _ _ _ _ _ _ (J:=fun (q:Nat) x37 h3=>x37=(q:Int)∧q≤cs[g].2.length∧Zaz h.length h h3∧h3[h.length]?=some (.cells Zao [.slice (some (i,o)) n c e,.slice a1 n1 c1 e1] false)∧h3[h'.length]?=some (.cells Zbq [.str cs[g].1,.str cs[g].2] false)∧(List.range q).all (Zvt (cs.take g) cs[g].2)=true) (fun q=>cs[g].2.length - q) ?_ 0 _ _ ⟨rfl,by omega,hS2,hW2,by simp,rfl⟩
   rintro q x37 h3 ⟨rfl,hq,hS3,hW3,hI3,hk3⟩ R7 hR7
   unfold Zcm.L7t
   refine Zan (fun hlt3=>?_) (fun hge3=>?_)
   ·have hq':q < cs[g].2.length:=by omega
    simp only [Nat.add_zero,Nat.zero_add,Zak hW3,Zak hI3,List.getElem?_cons_succ,List.getElem?_cons_zero,Zag,Zap,true_and]
    refine Yey (r.same hS3) hl (k:=g) (by omega) hc rfl (fun a' c' e' hrow hc'=>?_)
    simp only [Zag]
    rw [Zbn (by omega),Yhd hq' rfl]
    refine ⟨⟨by omega,by omega,by omega⟩,(Zyb (hrow.mono hS3.le) (by omega)).mono ?_⟩
    rintro v h4 ⟨rfl,s4⟩
    have hS4:=hS3.trans (s4.mono hS3.le)
    have hW4:h4[h.length]?=some (.cells Zao [.slice (some (i,o)) n c e,.slice a1 n1 c1 e1] false):=by rw [s4.eq _ (Own.lt hW3)]; exact hW3
    have hI4:h4[h'.length]?=some (.cells Zbq [.str cs[g].1,.str cs[g].2] false):=by rw [s4.eq _ (Own.lt hI3)]; exact hI3
    simp only [Zah,Zak hW3,Zak hW4,Zak hI4,Nat.add_zero,Nat.zero_add,List.getElem?_cons_succ,List.getElem?_cons_zero,Zap,true_and]
    have hsa:=Ydk (cs:=cs.take g) hq'
    have fail:Zvt (cs.take g) cs[g].2 q=false→(Zal.bool false=Zal.bool (Zic cs)∧Zaz h.length h h4):=fun hf=>⟨by rw [Ziw hgl (by rw [hcl]; unfold Yad; exact Znc hq' hf)],hS4⟩
    have next:Zvt (cs.take g) cs[g].2 q=true→R7 h.length 0 (g:Int) h'.length 0 (some (i,o)) n c e (n:Int) (g:Int) (cs[g].2.length:Int) (IntKind.wrap .i64 ((q:Int) + 1)) h4:=fun ht=>by
     rw [Zbn (by omega)]
     exact hR7 (q + 1) _ _ (by omega) ⟨rfl,by omega,hS4,hW4,hI4,Zjg hk3 ht⟩
    refine Zbx (fun hb=>fail (by rw [hsa,hb]; rfl)) (fun hb=>?_)
    refine Zan (fun h0=>?_) (fun h0=>?_)
    ·have h0':0 < q:=by omega
     rw [Zqq h0' (by omega)]
     refine ⟨⟨by omega,by omega⟩,⟨by omega,by omega⟩,?_⟩
     simp only [Int.toNat_natCast]
     have hd1:cs[g].2.getD q 0=cs[g].2[q]:=Zhb hq'
     have hq0:(q == 0)=false:=by simp; omega
     refine Zan (fun h1=>fail ?_) (fun h1=>Zcm.J11i _ _ _ _ _ _ _ _ _ _ _ _ _ _ _ _ _ (next ?_))
     ·rw [hsa,hb,hq0,← hd1]; simp only [Bool.true_and,Bool.false_or,decide_eq_false_iff_not]; omega
     ·rw [hsa,hb,hq0,← hd1]; simp only [Bool.true_and,Bool.false_or,decide_eq_true_eq]; omega
    ·have:q=0:=by omega
     subst this
     exact Zcm.J11i _ _ _ _ _ _ _ _ _ _ _ _ _ _ _ _ _ (next (by rw [hsa,hb]; rfl))
   ·apply Zcm.A7x2i
    apply Zcm.J12i
    have:q=cs[g].2.length:=by omega
    subst this
    rw [Zbn (by omega)]
    exact hR (g + 1) _ _ (by omega) ⟨rfl,by omega,hS3,hW3,Zjg hk (by rw [hcl]; exact hk3)⟩
  refine Zbx (fun hb=>⟨by rw [Ziw hgl (by rw [hcl,hb]; rfl)],hS2⟩) (fun hb=>?_)
  refine Zan (fun h0=>?_) (fun h0=>?_)
  ·have h0':0 < g:=by omega
   rw [Zak hW2]
   simp only [List.getElem?_cons_zero,Zag]
   rw [Zqq h0' (by omega)]
   obtain ⟨i',o',hgl',heq,_,_,hc0,_⟩:=(r.same hS2).pr (k:=g - 1) (by omega)
   cases heq
   simp only [Zat,Int.toNat_natCast,hc0,Zap,Nat.add_zero,Nat.zero_add,hcell,List.getElem?_cons_zero,true_and]
   refine ⟨by omega,?_⟩
   have hg0:(g == 0)=false:=by simp; omega
   have hgd:cs.getD (g - 1) ([],[])=cs[g - 1]:=Zhb hgl'
   refine Zbx (fun hb2=>⟨by rw [Ziw hgl (by rw [hcl,hb,hg0,hgd,hb2]; rfl)],hS2⟩) (fun hb2=>key (by rw [hb,hg0,hgd,hb2]; rfl))
  ·have:g=0:=by omega
   subst this
   exact key (by rw [hb]; rfl)
 ·apply Zcm.A2x0i
  have:g=n:=by omega
  subst this
  have hok:Zic cs=decide (1≤g∧g≤4):=by unfold Zic; rw [hl,hk,Bool.true_and]
  simp only [Nat.add_zero,Zak hW,List.getElem?_cons_zero,Zag]
  refine Zan (fun h1=>?_) (fun h1=>?_)
  ·refine ⟨?_,hS⟩
   rw [hok]; congr 1; rw [Bool.eq_iff_iff]; simp; omega
  ·refine ⟨?_,hS⟩
   rw [hok]; congr 1; symm; simp; omega
end Go.Sim

set_option linter.unusedVariables false
set_option linter.unusedSimpArgs false
set_option maxRecDepth 20000
namespace Go.Sim
open Go Go.RowKit
theorem Zso {h:Zaa} {a:Pt} {n c:Nat} {e:Bool} {cs:List Nd} (r:Row h.length h a (n * 2) (Zeu eP cs)) (hc:n≤c) (hn:n≤1048576) (hs:∀ p∈cs,p.2.length≤1048576) (hb256:∀ p∈cs,∀ b∈p.1,b < 256) :
  Zae pg Zhn [.slice a n c e] h fun v h'=>v=.bool (Zic cs)∧Zaz h.length h h':=by
 have hl:cs.length=n:=by have:=r.1; rw [Zbm Zgz] at this; omega
 apply Zcn.call
 refine Zcn.L2ind _ _ _ _ _ _ _ _ _ _ (J:=fun (g:Nat) x9 h'=>x9=(g:Int)∧g≤n∧Zaz h.length h h'∧(List.range g).all (Zvn cs)=true) (fun g=>n - g) ?_ 0 _ _ ⟨rfl,by omega,Zaz.refl _ _,rfl⟩
 rintro g x9 h' ⟨rfl,hg,hS,hk⟩ R hR
 unfold Zcn.L2t
 refine Zan (fun hlt=>?_) (fun hge=>?_)
 ·obtain ⟨i,o,hgl,rfl,hil,hr,_⟩:=(r.same hS).pr (k:=g) (by omega)
  simp only [Zat,Int.toNat_natCast,hr,Zas,Zai,Zar,Zap,Zaw]
  rw [Zin]
  simp only [Zau,Zff,Nat.add_zero,List.getElem?_cons_zero,Zap]
  have hS2:Zaz h.length h (h' ++ [.cells Zbq [.str cs[g].1,.str cs[g].2] false]):=hS.trans (Zaz.app hS.le _)
  refine ⟨by omega,(Yak _ (hb256 _ (List.getElem_mem hgl))).mono ?_⟩
  rintro v h2 ⟨rfl,rfl⟩
  simp only [Zah,true_and]
  have hcl:=Ydi hgl
  have hle:=hS2.le
  have hcell:∀ o',Zad (h' ++ [.cells Zbq [.str cs[g].1,.str cs[g].2] false]) (.ptr (some (h'.length,o')))=([.str cs[g].1,.str cs[g].2]:List Zal)[o']?:=fun o'=>Zff
  -- the classes above
  have key:(Ztb cs[g].1 && (g == 0 || Zed (cs.getD (g - 1) ([],[])).1 cs[g].1))=true→Zcn.J6 (fun v h'=>v=.bool (Zic cs)∧Zaz h.length h h') R h'.length 0 (some (i,o)) n c e (g:Int) (some (i,o)) n c e (n:Int) (g:Int) (h' ++ [.cells Zbq [.str cs[g].1,.str cs[g].2] false]):=by
   intro hpre
   rw [hpre,Bool.true_and] at hcl
   apply Zcn.J6i
   rw [hcell]
   simp only [Nat.zero_add,List.getElem?_cons_succ,List.getElem?_cons_zero,Zap]
   have hsl:=hs cs[g] (List.getElem_mem hgl)
   refine Zcn.L7ind _ _ _ _ _ _ _ _ _ _ _ _ _ _ _ _ (J:=fun (q:Nat) x37 h3=>x37=(q:Int)∧q≤cs[g].2.length∧Zaz h.length h h3∧h3[h'.length]?=some (.cells Zbq [.str cs[g].1,.str cs[g].2] false)∧(List.range q).all (Zvt (cs.take g) cs[g].2)=true) (fun q=>cs[g].2.length - q) ?_ 0 _ _ ⟨rfl,by omega,hS2,by simp,rfl⟩
   rintro q x37 h3 ⟨rfl,hq,hS3,hI3,hk3⟩ R7 hR7
   unfold Zcn.L7t
   refine Zan (fun hlt3=>?_) (fun hge3=>?_)
   ·have hq':q < cs[g].2.length:=by omega
    simp only [Nat.add_zero,Nat.zero_add,Zak hI3,List.getElem?_cons_succ,List.getElem?_cons_zero,Zag,Zap,true_and]
    refine Yey (r.same hS3) hl (k:=g) (by omega) hc rfl (fun a' c' e' hrow hc'=>?_)
    simp only [Zag]
    rw [Zbn (by omega),Yhd hq' rfl]
    refine ⟨⟨by omega,by omega,by omega⟩,(Zry (hrow.mono hS3.le) (by omega)).mono ?_⟩
    rintro v h4 ⟨rfl,s4⟩
    have hS4:=hS3.trans (s4.mono hS3.le)
    have hI4:h4[h'.length]?=some (.cells Zbq [.str cs[g].1,.str cs[g].2] false):=by rw [s4.eq _ (Own.lt hI3)]; exact hI3
    simp only [Zam,Zvg,Zak hI4,Nat.add_zero,Nat.zero_add,List.getElem?_cons_succ,List.getElem?_cons_zero,Zap,true_and]
    have hsa:=Ydk (cs:=cs.take g) hq'
    have fail:Zvt (cs.take g) cs[g].2 q=false→(Zal.bool false=Zal.bool (Zic cs)∧Zaz h.length h h4):=fun hf=>⟨by rw [Ziw hgl (by rw [hcl]; unfold Yad; exact Znc hq' hf)],hS4⟩
    have next:Zvt (cs.take g) cs[g].2 q=true→R7 (some (i,o)) n c e (g:Int) h'.length 0 (some (i,o)) n c e (n:Int) (g:Int) (cs[g].2.length:Int) (IntKind.wrap .i64 ((q:Int) + 1)) h4:=fun ht=>by
     rw [Zbn (by omega)]
     exact hR7 (q + 1) _ _ (by omega) ⟨rfl,by omega,hS4,hI4,Zjg hk3 ht⟩
    refine Zbx (fun hb=>fail (by rw [hsa,hb]; rfl)) (fun hb=>?_)
    refine Zan (fun h0=>?_) (fun h0=>?_)
    ·have h0':0 < q:=by omega
     rw [Zqq h0' (by omega)]
     refine ⟨⟨by omega,by omega⟩,⟨by omega,by omega⟩,?_⟩
     simp only [Int.toNat_natCast]
     have hd1:cs[g].2.getD q 0=cs[g].2[q]:=Zhb hq'
     have hq0:(q == 0)=false:=by simp; omega
     refine Zan (fun h1=>fail ?_) (fun h1=>Zcn.J11i _ _ _ _ _ _ _ _ _ _ _ _ _ _ _ _ _ _ _ (next ?_))
     ·rw [hsa,hb,hq0,← hd1]; simp only [Bool.true_and,Bool.false_or,decide_eq_false_iff_not]; omega
     ·rw [hsa,hb,hq0,← hd1]; simp only [Bool.true_and,Bool.false_or,decide_eq_true_eq]; omega
    ·have:q=0:=by omega
     subst this
     exact Zcn.J11i _ _ _ _ _ _ _ _ _ _ _ _ _ _ _ _ _ _ _ (next (by rw [hsa,hb]; rfl))
   ·apply Zcn.A7x2i
    apply Zcn.J12i
    have:q=cs[g].2.length:=by omega
    subst this
    rw [Zbn (by omega)]
    exact hR (g + 1) _ _ (by omega) ⟨rfl,by omega,hS3,Zjg hk (by rw [hcl]; exact hk3)⟩
  refine Zbx (fun hb=>⟨by rw [Ziw hgl (by rw [hcl,hb]; rfl)],hS2⟩) (fun hb=>?_)
  refine Zan (fun h0=>?_) (fun h0=>?_)
  ·have h0':0 < g:=by omega
   rw [Zqq h0' (by omega)]
   obtain ⟨i',o',hgl',heq,_,_,hc0,_⟩:=(r.same hS2).pr (k:=g - 1) (by omega)
   cases heq
   simp only [Zat,Int.toNat_natCast,hc0,Zap,Nat.add_zero,Nat.zero_add,hcell,List.getElem?_cons_zero,true_and]
   refine ⟨by omega,?_⟩
   have hg0:(g == 0)=false:=by simp; omega
   have hgd:cs.getD (g - 1) ([],[])=cs[g - 1]:=Zhb hgl'
   refine Zbx (fun hb2=>⟨by rw [Ziw hgl (by rw [hcl,hb,hg0,hgd,hb2]; rfl)],hS2⟩) (fun hb2=>key (by rw [hb,hg0,hgd,hb2]; rfl))
  ·have:g=0:=by omega
   subst this
   exact key (by rw [hb]; rfl)
 ·apply Zcn.A2x0i
  have:g=n:=by omega
  subst this
  have hok:Zic cs=decide (1≤g∧g≤4):=by unfold Zic; rw [hl,hk,Bool.true_and]
  refine Zxe.mono ?_
  rintro v h2 ⟨rfl,rfl⟩
  simp only [Zah]
  refine ⟨?_,hS⟩
  rw [hok]; congr 1; rw [Bool.eq_iff_iff]; simp; omega
end Go.Sim

set_option linter.unusedVariables false
set_option linter.unusedSimpArgs false
set_option maxRecDepth 20000
namespace Go.Sim
open Go Go.RowKit

theorem Ynn (c:Nat):decide (c∈[120,121,122,88,89,90])=Zbc c:=by rw [Bool.eq_iff_iff]; simp [Zbc,or_assoc]
theorem Zrl {h:Zaa} (s:List Nat):Zae pg Zdd [.str s] h fun v h'=>v=.bool (Zpt s)∧h'=h:=by
 apply Zsn.call
 match s with
 | []=>exact Zej (fun h1=>by simp at h1) (fun h1=>⟨rfl,rfl⟩)
 | [c]=>
  refine Zej (fun h1=>?_) (fun h1=>by simp at h1)
  refine Zll.mono ?_
  rintro v h' ⟨rfl,rfl⟩
  simp only [Zah]
  exact ⟨by rw [Ynn]; rfl,by trivial⟩
 | c :: d :: r=>exact Zej (fun h1=>by simp at h1; omega) (fun h1=>⟨rfl,rfl⟩)
theorem Zrk {h:Zaa} (c:Nat):Zae pg Zgw [.int .u8 (c:Int)] h fun v h'=>v=.bool (Zbc c)∧h'=h:=by
 apply Zmu.call
 refine (Zxl _ c (by simp)).mono ?_
 rintro v h' ⟨rfl,rfl⟩
 simp only [Zam]
 exact ⟨by rw [Yng],by trivial⟩
noncomputable def Ymk (s v:List Nat):Int:=if Znz s && Zpt v then (s.count (v.headD 0):Nat) else -1
theorem Zzn {h:Zaa} (s v:List Nat) (hs:s.length≤1048576):Zae pg Zlb [.str s,.str v] h fun x h'=>x=.int .i64 (Ymk s v)∧Zaz h.length h h':=by
 apply Zec.call
 refine (Zmz s (by omega) h).mono ?_
 rintro x h1 ⟨rfl,s1⟩
 simp only [Zah]
 refine Zbx (fun hb=>⟨by unfold Ymk; rw [hb]; rfl,s1⟩) (fun hb=>?_)
 match v with
 | []=>exact Zgx (fun _=>⟨by unfold Ymk; rw [hb]; rfl,s1⟩) (fun h1=>by simp at h1)
 | c :: d :: r=>exact Zgx (fun _=>⟨by unfold Ymk; rw [hb]; rfl,s1⟩) (fun h1=>by simp at h1; omega)
 | [c]=>
  refine Zgx (fun h1=>by simp at h1) (fun _=>?_)
  refine ⟨⟨by omega,by simp⟩,?_⟩
  simp only [Int.toNat_zero,List.getD_cons_zero]
  refine (Zrk c).mono ?_
  rintro x h2 ⟨rfl,rfl⟩
  simp only [Zah]
  refine Zbx (fun hv=>⟨by unfold Ymk; rw [hb,show Zpt [c]=Zbc c from rfl,hv]; rfl,s1⟩) (fun hv=>?_)
  apply Zec.J3i
  refine Zec.L5ind _ _ _ _ (J:=fun (g:Nat) x5 x23 h'=>x23=(g:Int)∧g≤s.length∧x5=((s.take g).count c:Nat)∧h'=h2) (fun g=>s.length - g) ?_ 0 _ _ _ ⟨rfl,by omega,by simp,rfl⟩
  rintro g x5 x23 h' ⟨rfl,hg,rfl,rfl⟩ R hR
  unfold Zec.L5t
  refine Zan (fun hlt=>?_) (fun hge=>?_)
  ·have hg':g < s.length:=by omega
   refine ⟨⟨by omega,by omega⟩,⟨by omega,by simp⟩,?_⟩
   simp only [Int.toNat_zero,List.getD_cons_zero,Int.toNat_natCast,Zhb hg']
   have hc:=List.count_le_length (a:=c) (l:=s.take g)
   rw [List.length_take] at hc
   have htk:(s.take (g + 1)).count c=(s.take g).count c + if s[g]=c then 1 else 0:=by
    rw [List.take_succ_eq_append_getElem hg',List.count_append]; simp [List.count_cons]
   refine Zej (fun he=>?_) (fun he=>?_)
   ·apply Zec.J9i
    rw [Zbn (by omega),Zbn (by omega)]
    exact hR (g + 1) _ _ _ (by omega) ⟨rfl,by omega,by rw [htk,if_pos (by omega)],rfl⟩
   ·apply Zec.J9i
    rw [Zbn (by omega)]
    exact hR (g + 1) _ _ _ (by omega) ⟨rfl,by omega,by rw [htk,if_neg (by omega)]; rfl,rfl⟩
  ·apply Zec.A5x0i
   have:g=s.length:=by omega
   subst this
   rw [List.take_length]
   refine ⟨?_,s1⟩
   unfold Ymk
   rw [hb,show Zpt [c]=Zbc c from rfl,hv]; rfl
theorem Zwy {h:Zaa} (s:List Nat) (hs:s.length≤1048576):Zae pg Zke [.str s] h fun v h'=>v=.str (if Znz s=true then Zqn s else [])∧Zaz h.length h h':=by
 apply Zfr.call
 simp only [Zaw]
 have hlist:(h ++ [Zcj.cells Zdb [.str [88],.str [89],.str [90],.str [120],.str [121],.str [122]] false])[h.length]?=some (.cells Zdb [.str [88],.str [89],.str [90],.str [120],.str [121],.str [122]] false):=by simp
 refine Zfr.L3ind _ _ _ _ _ _ _ (J:=fun (g:Nat) x3 x8 h'=>x8=(g:Int)∧g≤6∧Zaz h.length h h'∧h'[h.length]?=some (.cells Zdb [.str [88],.str [89],.str [90],.str [120],.str [121],.str [122]] false)∧x3=if Znz s=true then (Zel.take g).filter fun v=>decide (v∈s) else []) (fun g=>6 - g) ?_ 0 _ _ _
  ⟨rfl,by omega,Zaq,hlist,by simp⟩
 rintro g x3 x8 h' ⟨rfl,hg,hS,hl,rfl⟩ R hR
 unfold Zfr.L3t
 refine Zan (fun hlt=>?_) (fun hge=>?_)
 ·have hlt':g < 6:=by omega
  have hc:∃ c,Zel[g]?=some c∧Zbc c=true∧Zad h' (.ptr (some (h.length,0 + (g:Int).toNat * 1)))=some (.str [c]):=by
   rw [Zak hl,Int.toNat_natCast]
   match g,hlt' with
   | 0,_ | 1,_ | 2,_ | 3,_ | 4,_ | 5,_=>exact ⟨_,rfl,rfl,rfl⟩
  obtain ⟨c,hc1,hcv,hc2⟩:=hc
  simp only [Zat,hc2,Zap]
  refine ⟨by omega,(Zzn s [c] hs).mono ?_⟩
  rintro v h2 ⟨rfl,s2⟩
  simp only [Zam]
  have htk:Zel.take (g + 1)=Zel.take g ++ [c]:=by rw [List.take_succ,hc1]; rfl
  have hS2:=hS.trans (s2.mono hS.le)
  have hl2:h2[h.length]?=some (.cells Zdb [.str [88],.str [89],.str [90],.str [120],.str [121],.str [122]] false):=by rw [s2.eq _ (Own.lt hl)]; exact hl
  have hcn:decide (Ymk s [c] > 0)=(Znz s && decide (c∈s)):=by
   unfold Ymk
   rw [show Zpt [c]=Zbc c from rfl,hcv]
   cases hb:Znz s with
   | false=>rfl
   | true=>
    simp only [Bool.and_self,if_true,Bool.true_and,List.headD_cons]
    rw [Bool.eq_iff_iff]; simp [List.count_pos_iff]
  have hbd:(if Znz s=true then (Zel.take g).filter fun v=>decide (v∈s) else []).length≤6:=by
   split
   ·exact Nat.le_trans (List.length_filter_le _ _) (by simp; omega)
   ·simp
  rw [hcn]
  refine Zds (fun hb=>?_) (fun hb=>?_)
  ·simp only [Bool.and_eq_true] at hb
   refine ⟨by simp only [List.length_cons,List.length_nil]; omega,?_⟩
   apply Zfr.J7i
   rw [Zbn (by omega)]
   refine hR (g + 1) _ _ _ (by omega) ⟨rfl,by omega,hS2,hl2,?_⟩
   rw [if_pos hb.1,if_pos hb.1,htk,List.filter_append]; simp [hb.2]
  ·apply Zfr.J7i
   rw [Zbn (by omega)]
   refine hR (g + 1) _ _ _ (by omega) ⟨rfl,by omega,hS2,hl2,?_⟩
   cases ht:Znz s with
   | false=>simp
   | true=>rw [ht,Bool.true_and] at hb; rw [htk,List.filter_append]; simp; simpa using hb
 ·apply Zfr.A3x0i
  have:g=6:=by omega
  subst this
  exact ⟨rfl,hS⟩
theorem Yhk {h:Zaa} (x y:List Nat) (hx:x.length≤1048576) (hy:y.length≤1048576):Zae pg Zkq [.str x,.str y] h fun v h'=>v=.bool (x.all fun c=>decide (c∈y))∧h'=h:=by
 apply Zgh.call
 refine Zgh.L2ind _ _ _ _ (J:=fun (g:Nat) x8 h'=>x8=(g:Int)∧g≤x.length∧h'=h∧(x.take g).all (fun c=>decide (c∈y))=true) (fun g=>x.length - g) ?_ 0 _ _ ⟨rfl,by omega,rfl,by simp⟩
 rintro g x8 h' ⟨rfl,hg,rfl,hk⟩ R hR
 unfold Zgh.L2t
 refine Zan (fun hlt=>?_) (fun hge=>?_)
 ·have hg':g < x.length:=by omega
  refine ⟨⟨by omega,by omega⟩,?_⟩
  simp only [Int.toNat_natCast,Zhb hg']
  refine (Zxl y x[g] (by omega)).mono ?_
  rintro v h2 ⟨rfl,rfl⟩
  simp only [Zam]
  have hix:decide (Zoq y x[g] < 0)=!decide (x[g]∈y):=by
   by_cases hm:x[g]∈y
   ·have:=(Zxb y x[g]).2 hm
    simp [hm]; omega
   ·rw [Zru hm]; simp [hm]
  rw [hix]
  refine Zbx (fun hb=>⟨by rw [Zrz hg' hb],by trivial⟩) (fun hb=>?_)
  rw [Zbn (by omega)]
  exact hR (g + 1) _ _ (by omega) ⟨rfl,by omega,rfl,Zgu hg' hk hb⟩
 ·apply Zgh.A2x0i
  have:g=x.length:=by omega
  subst this
  rw [List.take_length] at hk
  exact ⟨by rw [hk],by trivial⟩

theorem Ydy {cs:List Nd} {ct tt:List Nat} {ns:List Nd} (h1:Zic cs=true) (h2:Zhe cs ct=true) (h3:Znz tt=true) (h4:tt.length≤20) (h5:Zpt tt=false) (h6:ns.length≤3):Zlz cs ((ct,tt),ns)=ns.all (Zim cs tt):=by
 unfold Zlz; simp [h1,h2,h3,h4,h5,h6]
theorem Zte {h:Zaa} {a a1 a2:Pt} {n c n1 c1 n2 c2:Nat} {e e1 e2:Bool} {cs ns:List Nd} {ct tt:List Nat} (r:Row h.length h a (n * 2) (Zeu eP cs)) (hc:n≤c) (hn:n≤1048576) (hs:∀ p∈cs,p.2.length≤1048576)
  (r2:Row h.length h a2 (n2 * 2) (Zeu eP ns)) (hn2:n2≤1048576) (hns:∀ p∈ns,p.2.length≤1048576) (htt:tt.length≤1048576) :
  Zae pg Zha [.agg [.slice a n c e,.slice a1 n1 c1 e1],.agg [.str ct,.str tt,.slice a2 n2 c2 e2]] h fun v h'=>v=.bool (Zlz cs ((ct,tt),ns))∧Zaz h.length h h':=by
 have hl:cs.length=n:=by have:=r.1; rw [Zbm Zgz] at this; omega
 have hl2:ns.length=n2:=by have:=r2.1; rw [Zbm Zgz] at this; omega
 apply Zcd.call
 simp only [Zaw]
 generalize hh0:h ++ [Zcj.cells Zao [.slice a n c e,.slice a1 n1 c1 e1] false]=h0
 generalize hh1:h0 ++ [Zcj.cells Zac [.str ct,.str tt,.slice a2 n2 c2 e2] false]=h1
 have s0:Zaz h.length h h0:=by rw [← hh0]; exact Zaq
 have s01:Zaz h0.length h0 h1:=by rw [← hh1]; exact Zaq
 have s1:Zaz h.length h h1:=s0.trans (s01.mono s0.le)
 have hl0:h0.length=h.length + 1:=by rw [← hh0]; simp
 have hl1:h1.length=h.length + 2:=by rw [← hh1]; simp [hl0]
 have w1:h1[h.length]?=some (.cells Zao [.slice a n c e,.slice a1 n1 c1 e1] false):=by rw [← hh1,Zym (by omega),← hh0]; simp
 have i1:h1[h0.length]?=some (.cells Zac [.str ct,.str tt,.slice a2 n2 c2 e2] false):=by rw [← hh1]; simp
 rw [Zer w1 (by simp)]
 simp only [List.drop_zero,List.take_succ_cons,List.take_zero,Zas,Zai,Zag,Zar]
 refine (Zsp (r.same' s1) hc hn hs).mono ?_
 rintro v h2 ⟨rfl,s2⟩
 have S2:Zaz h.length h h2:=s1.trans (s2.mono (by omega))
 have w2:h2[h.length]?=some (.cells Zao [.slice a n c e,.slice a1 n1 c1 e1] false):=by rw [s2.eq _ (by omega)]; exact w1
 have i2:h2[h0.length]?=some (.cells Zac [.str ct,.str tt,.slice a2 n2 c2 e2] false):=by rw [s2.eq _ (by omega)]; exact i1
 simp only [Zah]
 refine Zbx (fun hb=>⟨by unfold Zlz; rw [hb]; rfl,S2⟩) (fun b1=>?_)
 simp only [Nat.add_zero,Nat.zero_add,Zak w2,Zak i2,List.getElem?_cons_succ,List.getElem?_cons_zero,Zag,Zap]
 refine (Zyb (r.same' S2) (by omega)).mono ?_
 rintro v h3 ⟨rfl,s3⟩
 have hle2:=s2.le
 have S3:Zaz h.length h h3:=S2.trans (s3.mono S2.le)
 have i3:h3[h0.length]?=some (.cells Zac [.str ct,.str tt,.slice a2 n2 c2 e2] false):=by rw [s3.eq _ (by omega)]; exact i2
 have w3:h3[h.length]?=some (.cells Zao [.slice a n c e,.slice a1 n1 c1 e1] false):=by rw [s3.eq _ (by omega)]; exact w2
 simp only [Zah]
 refine Zbx (fun hb=>⟨by unfold Zlz; rw [b1,hb]; rfl,S3⟩) (fun b2=>?_)
 simp only [Zak i3,List.getElem?_cons_succ,List.getElem?_cons_zero,Zap]
 refine (Zle tt h3).mono ?_
 rintro v h4 ⟨rfl,s4⟩
 have hle3:=s3.le
 have S4:Zaz h.length h h4:=S3.trans (s4.mono S3.le)
 have i4:h4[h0.length]?=some (.cells Zac [.str ct,.str tt,.slice a2 n2 c2 e2] false):=by rw [s4.eq _ (by omega)]; exact i3
 have w4:h4[h.length]?=some (.cells Zao [.slice a n c e,.slice a1 n1 c1 e1] false):=by rw [s4.eq _ (by omega)]; exact w3
 simp only [Zah]
 refine Zbx (fun hb=>⟨by unfold Zlz; rw [b1,b2,hb]; rfl,S4⟩) (fun b3=>?_)
 simp only [Zak i4,List.getElem?_cons_succ,List.getElem?_cons_zero,Zap]
 refine Zan (fun hb=>⟨by unfold Zlz; rw [b1,b2,b3]; simp [show ¬ tt.length≤20 by omega],S4⟩) (fun b4=>?_)
 refine (Zrl tt).mono ?_
 rintro v h5 ⟨rfl,rfl⟩
 simp only [Zah]
 refine Zds (fun hb=>⟨by unfold Zlz; rw [hb]; simp,S4⟩) (fun b5=>?_)
 simp only [Zak i4,List.getElem?_cons_succ,List.getElem?_cons_zero,Zag]
 refine Zan (fun hb=>⟨by unfold Zlz; simp [show ¬ ns.length≤3 by omega],S4⟩) (fun b6=>?_)
 rw [Ydy b1 b2 b3 (by omega) b5 (by omega)]
 apply Zcd.J3i
 simp only [Nat.zero_add,Zak i4,List.getElem?_cons_succ,List.getElem?_cons_zero,Zag]
 have hle4:=s4.le
 refine Zcd.L4ind _ _ _ _ _ _ _ _ _ _ (J:=fun (g:Nat) x50 h'=>x50=(g:Int)∧g≤n2∧Zaz h5.length h5 h'∧(ns.take g).all (Zim cs tt)=true) (fun g=>n2 - g) ?_ 0 _ _ ⟨rfl,by omega,Zaz.refl _ _,rfl⟩
 rintro g x50 h' ⟨rfl,hg,hS,hk⟩ R hR
 have SS:Zaz h.length h h':=S4.trans (hS.mono S4.le)
 unfold Zcd.L4t
 refine Zan (fun hlt=>?_) (fun hge=>?_)
 ·obtain ⟨i,o,hgl,rfl,hil,hr,_⟩:=(r2.same SS).pr (k:=g) (by omega)
  simp only [Zat,Int.toNat_natCast,hr,Zas,Zai,Zar,Zap,Zaw]
  rw [Zin]
  have hlh:=hS.le
  generalize hq:h' ++ [Zcj.cells Zbv [.str ns[g].1,.str ns[g].2] false]=hq'
  have sq:Zaz h'.length h' hq':=by rw [← hq]; exact Zaq
  have hql:hq'.length=h'.length + 1:=by rw [← hq]; simp
  have nq:hq'[h'.length]?=some (.cells Zbv [.str ns[g].1,.str ns[g].2] false):=by rw [← hq]; simp
  have wq:hq'[h.length]?=some (.cells Zao [.slice a n c e,.slice a1 n1 c1 e1] false):=by rw [sq.eq _ (by omega),hS.eq _ (by omega)]; exact w4
  have iq:hq'[h0.length]?=some (.cells Zac [.str ct,.str tt,.slice (some (i,o)) n2 c2 e2] false):=by rw [sq.eq _ (by omega),hS.eq _ (by omega)]; exact i4
  simp only [Zau,Nat.add_zero,Nat.zero_add,Zak wq,Zak nq,List.getElem?_cons_succ,List.getElem?_cons_zero,Zag,Zap]
  have Sq:Zaz h.length h hq':=SS.trans (sq.mono SS.le)
  refine ⟨by omega,(Zyb (r.same' Sq) (by omega)).mono ?_⟩
  rintro v k3 ⟨rfl,t3⟩
  have T3:=Sq.trans (t3.mono Sq.le)
  have n3:k3[h'.length]?=some (.cells Zbv [.str ns[g].1,.str ns[g].2] false):=by rw [t3.eq _ (by omega)]; exact nq
  simp only [Zah]
  have fail:∀ hx,Zaz h.length h hx→Zim cs tt ns[g]=false→(Zal.bool false=Zal.bool (ns.all (Zim cs tt))∧Zaz h.length h hx):=fun hx hs hf=>⟨by rw [Zrz hgl hf],hs⟩
  refine Zbx (fun hb=>fail _ T3 (by unfold Zim; rw [hb]; rfl)) (fun m1=>?_)
  simp only [Zak n3,List.getElem?_cons_succ,List.getElem?_cons_zero,Zap]
  refine (Zle _ k3).mono ?_
  rintro v k4 ⟨rfl,t4⟩
  have ht3:=t3.le
  have T4:=T3.trans (t4.mono T3.le)
  have n4:k4[h'.length]?=some (.cells Zbv [.str ns[g].1,.str ns[g].2] false):=by rw [t4.eq _ (by omega)]; exact n3
  simp only [Zah]
  refine Zbx (fun hb=>fail _ T4 (by unfold Zim; rw [m1,hb]; rfl)) (fun m2=>?_)
  simp only [Zak n4,List.getElem?_cons_succ,List.getElem?_cons_zero,Zap]
  refine Zan (fun hb=>fail _ T4 (by unfold Zim; simp [show ¬ ns[g].2.length≤20 by omega])) (fun m3=>?_)
  apply Zcd.J8i
  simp only [Nat.zero_add,Zak n4,List.getElem?_cons_succ,List.getElem?_cons_zero,Zap]
  refine (Yoh _ k4).mono ?_
  rintro v k5 ⟨t5,av,nv,cv,ev,rfl,hrow⟩
  simp only [Zag]
  have ht4:=t4.le
  have ht5:=t5.le
  have T5:=T4.trans (t5.mono T4.le)
  have hvl:(Zqn ns[g].2).length=nv:=by have:=hrow.1; simpa using this
  have hv6:(Zqn ns[g].2).length≤6:=List.length_filter_le _ _
  have hni:Zim cs tt ns[g]=(Zqn ns[g].2).all fun v=>decide (v∈tt):=by unfold Zim; rw [m1,m2]; simp [show ns[g].2.length≤20 by omega]
  have i5:k5[h0.length]?=some (.cells Zac [.str ct,.str tt,.slice (some (i,o)) n2 c2 e2] false):=by rw [t5.eq _ (by omega),t4.eq _ (by omega),t3.eq _ (by omega)]; exact iq
  refine Zcd.L9ind _ _ _ _ _ _ _ _ _ _ _ _ _ _ _ _ _ (J:=fun (q:Nat) x76 h6=>x76=(q:Int)∧q≤nv∧h6=k5∧((Zqn ns[g].2).take q).all (fun v=>decide (v∈tt))=true) (fun q=>nv - q) ?_ 0 _ _ ⟨rfl,by omega,rfl,rfl⟩
  rintro q x76 h6 ⟨rfl,hq6,rfl,hk6⟩ R9 hR9
  unfold Zcd.L9t
  refine Zan (fun hlt6=>?_) (fun hge6=>?_)
  ·obtain ⟨iv,ov,rfl,_,hcv⟩:=hrow.at (k:=q) (by omega)
   rw [Yeg,List.getElem?_map,List.getElem?_eq_getElem (show q < (Zqn ns[g].2).length by omega)] at hcv
   simp only [Option.map_some] at hcv
   simp only [Zat,Int.toNat_natCast,Nat.mul_one,hcv,Zap,Nat.add_zero,Nat.zero_add,Zak i5,List.getElem?_cons_succ,List.getElem?_cons_zero,one]
   refine ⟨by omega,Zll.mono ?_⟩
   rintro v k7 ⟨rfl,rfl⟩
   simp only [Zah]
   refine Zbx (fun hb=>fail _ T5 (by rw [hni]; exact Zrz (by omega) hb)) (fun d1=>?_)
   rw [Zbn (by omega)]
   exact hR9 (q + 1) _ _ (by omega) ⟨rfl,by omega,rfl,Zgu (by omega) hk6 d1⟩
  ·apply Zcd.A9x2i
   apply Zcd.J14i
   have:q=nv:=by omega
   subst this
   rw [List.take_of_length_le (by omega)] at hk6
   rw [Zbn (by omega)]
   refine hR (g + 1) _ _ (by omega) ⟨rfl,by omega,?_,Zgu hgl hk (by rw [hni]; exact hk6)⟩
   exact hS.trans ((sq.mono hS.le).trans ((t3.mono (by omega)).trans ((t4.mono (by omega)).trans (t5.mono (by omega)))))
 ·apply Zcd.A4x0i
  have:g=n2:=by omega
  subst this
  rw [List.take_of_length_le (by omega)] at hk
  exact ⟨by rw [hk],SS⟩
end Go.Sim

set_option linter.unusedVariables false
set_option linter.unusedSimpArgs false
set_option maxRecDepth 20000
namespace Go.Sim
open Go Go.RowKit

theorem Ybh (x t:List Nat):((Zqn x).all fun c=>decide (c∈Zqn t))=(Zqn x).all fun c=>decide (c∈t):=by
 rw [Bool.eq_iff_iff,List.all_eq_true,List.all_eq_true]
 constructor
 ·intro h c hc
  have:=h c hc
  simp only [Zqn,decide_eq_true_eq,List.mem_filter] at this ⊢
  exact this.2
 ·intro h c hc
  have h1:=h c hc
  have hv:c∈Zel:=(List.mem_filter.1 hc).1
  simp only [Zqn,decide_eq_true_eq,List.mem_filter] at h1 ⊢
  exact ⟨hv,h1⟩
theorem Zsi {h:Zaa} {a a1 a2:Pt} {n c n1 c1 n2 c2:Nat} {e e1 e2:Bool} {cs ns:List Nd} {ct tt:List Nat} (r:Row h.length h a (n * 2) (Zeu eP cs)) (hc:n≤c) (hn:n≤1048576) (hs:∀ p∈cs,p.2.length≤1048576) (hb256:∀ p∈cs,∀ b∈p.1,b < 256)
  (r2:Row h.length h a2 (n2 * 2) (Zeu eP ns)) (hn2:n2≤1048576) (hns:∀ p∈ns,p.2.length≤1048576) (htt:tt.length≤1048576) :
  Zae pg Zhc [.agg [.slice a n c e,.slice a1 n1 c1 e1],.agg [.str ct,.str tt,.slice a2 n2 c2 e2]] h fun v h'=>v=.bool (Zlz cs ((ct,tt),ns))∧Zaz h.length h h':=by
 have hl:cs.length=n:=by have:=r.1; rw [Zbm Zgz] at this; omega
 have hl2:ns.length=n2:=by have:=r2.1; rw [Zbm Zgz] at this; omega
 apply Zdg.call
 simp only [Zaw]
 generalize hh0:h ++ [Zcj.cells Zao [.slice a n c e,.slice a1 n1 c1 e1] false]=h0
 generalize hh1:h0 ++ [Zcj.cells Zac [.str ct,.str tt,.slice a2 n2 c2 e2] false]=h1
 have s0:Zaz h.length h h0:=by rw [← hh0]; exact Zaq
 have s01:Zaz h0.length h0 h1:=by rw [← hh1]; exact Zaq
 have s1:Zaz h.length h h1:=s0.trans (s01.mono s0.le)
 have hl0:h0.length=h.length + 1:=by rw [← hh0]; simp
 have hl1:h1.length=h.length + 2:=by rw [← hh1]; simp [hl0]
 have w1:h1[h.length]?=some (.cells Zao [.slice a n c e,.slice a1 n1 c1 e1] false):=by rw [← hh1,Zym (by omega),← hh0]; simp
 have i1:h1[h0.length]?=some (.cells Zac [.str ct,.str tt,.slice a2 n2 c2 e2] false):=by rw [← hh1]; simp
 simp only [Nat.add_zero,Zak w1,List.getElem?_cons_zero,Zag]
 refine (Zso (r.same' s1) hc hn hs hb256).mono ?_
 rintro v h2 ⟨rfl,s2⟩
 have S2:Zaz h.length h h2:=s1.trans (s2.mono (by omega))
 have w2:h2[h.length]?=some (.cells Zao [.slice a n c e,.slice a1 n1 c1 e1] false):=by rw [s2.eq _ (by omega)]; exact w1
 have i2:h2[h0.length]?=some (.cells Zac [.str ct,.str tt,.slice a2 n2 c2 e2] false):=by rw [s2.eq _ (by omega)]; exact i1
 simp only [Zah]
 refine Zbx (fun hb=>⟨by unfold Zlz; rw [hb]; rfl,S2⟩) (fun b1=>?_)
 rw [Zer w2 (by simp)]
 simp only [List.drop_zero,List.take_succ_cons,List.take_zero,Zas,Zai,Zar,Nat.zero_add,Zak i2,List.getElem?_cons_succ,List.getElem?_cons_zero,Zag,Zap]
 refine (Zry (r.same' S2) (by omega)).mono ?_
 rintro v h3 ⟨rfl,s3⟩
 have hle2:=s2.le
 have S3:Zaz h.length h h3:=S2.trans (s3.mono S2.le)
 have i3:h3[h0.length]?=some (.cells Zac [.str ct,.str tt,.slice a2 n2 c2 e2] false):=by rw [s3.eq _ (by omega)]; exact i2
 have w3:h3[h.length]?=some (.cells Zao [.slice a n c e,.slice a1 n1 c1 e1] false):=by rw [s3.eq _ (by omega)]; exact w2
 simp only [Zam,Zvg]
 refine Zbx (fun hb=>⟨by unfold Zlz; rw [b1,hb]; rfl,S3⟩) (fun b2=>?_)
 simp only [Zak i3,List.getElem?_cons_succ,List.getElem?_cons_zero,Zap]
 refine (Zmz tt (by omega) h3).mono ?_
 rintro v h4 ⟨rfl,s4⟩
 have hle3:=s3.le
 have S4:Zaz h.length h h4:=S3.trans (s4.mono S3.le)
 have i4:h4[h0.length]?=some (.cells Zac [.str ct,.str tt,.slice a2 n2 c2 e2] false):=by rw [s4.eq _ (by omega)]; exact i3
 have w4:h4[h.length]?=some (.cells Zao [.slice a n c e,.slice a1 n1 c1 e1] false):=by rw [s4.eq _ (by omega)]; exact w3
 simp only [Zah]
 refine Zbx (fun hb=>⟨by unfold Zlz; rw [b1,b2,hb]; rfl,S4⟩) (fun b3=>?_)
 simp only [Zak i4,List.getElem?_cons_succ,List.getElem?_cons_zero,Zap]
 refine Zan (fun hb=>⟨by unfold Zlz; rw [b1,b2,b3]; simp [show ¬ tt.length≤20 by omega],S4⟩) (fun b4=>?_)
 have hvh:=Ypq b3
 have hne:=Ynx b3
 have htl:0 < tt.length:=by cases tt with | nil=>exact absurd rfl hne | cons=>simp
 refine ⟨⟨by omega,by omega⟩,?_⟩
 have hgd:tt.getD (Int.toNat 0) 0=tt.headD 0:=by cases tt <;> rfl
 rw [hgd]
 refine (Zrk _).mono ?_
 rintro v h5 ⟨rfl,rfl⟩
 simp only [Zah,← hvh]
 refine Zds (fun hb=>⟨by unfold Zlz; rw [hb]; simp,S4⟩) (fun b5=>?_)
 simp only [Zak i4,List.getElem?_cons_succ,List.getElem?_cons_zero,Zag]
 refine Zan (fun hb=>⟨by unfold Zlz; simp [show ¬ ns.length≤3 by omega],S4⟩) (fun b6=>?_)
 rw [Ydy b1 b2 b3 (by omega) b5 (by omega)]
 apply Zdg.J3i
 simp only [Nat.zero_add,Zak i4,List.getElem?_cons_succ,List.getElem?_cons_zero,Zag]
 have hle4:=s4.le
 refine Zdg.L4ind _ _ _ _ _ _ _ _ _ _ (J:=fun (g:Nat) x50 h'=>x50=(g:Int)∧g≤n2∧Zaz h5.length h5 h'∧(ns.take g).all (Zim cs tt)=true) (fun g=>n2 - g) ?_ 0 _ _ ⟨rfl,by omega,Zaz.refl _ _,rfl⟩
 rintro g x50 h' ⟨rfl,hg,hS,hk⟩ R hR
 have SS:Zaz h.length h h':=S4.trans (hS.mono S4.le)
 unfold Zdg.L4t
 refine Zan (fun hlt=>?_) (fun hge=>?_)
 ·obtain ⟨i,o,hgl,rfl,hil,hr,_⟩:=(r2.same SS).pr (k:=g) (by omega)
  simp only [Zat,Int.toNat_natCast,hr,Zas,Zai,Zar,Zap,Zaw]
  rw [Zin]
  have hlh:=hS.le
  generalize hq:h' ++ [Zcj.cells Zbv [.str ns[g].1,.str ns[g].2] false]=hq'
  have sq:Zaz h'.length h' hq':=by rw [← hq]; exact Zaq
  have hql:hq'.length=h'.length + 1:=by rw [← hq]; simp
  have nq:hq'[h'.length]?=some (.cells Zbv [.str ns[g].1,.str ns[g].2] false):=by rw [← hq]; simp
  have wq:hq'[h.length]?=some (.cells Zao [.slice a n c e,.slice a1 n1 c1 e1] false):=by rw [sq.eq _ (by omega),hS.eq _ (by omega)]; exact w4
  have iq:hq'[h0.length]?=some (.cells Zac [.str ct,.str tt,.slice (some (i,o)) n2 c2 e2] false):=by rw [sq.eq _ (by omega),hS.eq _ (by omega)]; exact i4
  have row:∀ {hx:Zaa},hx[h.length]?=some (.cells Zao [.slice a n c e,.slice a1 n1 c1 e1] false)→Zbf hx (.ptr (some (h.length,0))) 2=some [.slice a n c e,.slice a1 n1 c1 e1]:=fun w=>by rw [Zer w (by simp)]; rfl
  simp only [Zau,Nat.add_zero,Nat.zero_add,row wq,Zak nq,List.getElem?_cons_succ,List.getElem?_cons_zero,Zas,Zai,Zar,Zag,Zap,true_and]
  have Sq:Zaz h.length h hq':=SS.trans (sq.mono SS.le)
  refine ⟨by omega,(Zry (r.same' Sq) (by omega)).mono ?_⟩
  rintro v k3 ⟨rfl,t3⟩
  have T3:=Sq.trans (t3.mono Sq.le)
  have n3:k3[h'.length]?=some (.cells Zbv [.str ns[g].1,.str ns[g].2] false):=by rw [t3.eq _ (by omega)]; exact nq
  have w3':k3[h.length]?=some (.cells Zao [.slice a n c e,.slice a1 n1 c1 e1] false):=by rw [t3.eq _ (by omega)]; exact wq
  have i3':k3[h0.length]?=some (.cells Zac [.str ct,.str tt,.slice (some (i,o)) n2 c2 e2] false):=by rw [t3.eq _ (by omega)]; exact iq
  have ht3:=t3.le
  simp only [Zam,Zvg,row w3',Zak n3,List.getElem?_cons_succ,List.getElem?_cons_zero,Zap,true_and]
  have fail:∀ hx,Zaz h.length h hx→Zim cs tt ns[g]=false→(Zal.bool false=Zal.bool (ns.all (Zim cs tt))∧Zaz h.length h hx):=fun hx hs hf=>⟨by rw [Zrz hgl hf],hs⟩
  refine Zbx (fun hb=>fail _ T3 (by unfold Zim; rw [hb]; rfl)) (fun m1=>?_)
  have hnl:=hns ns[g] (List.getElem_mem hgl)
  refine (Zmz _ (by omega) k3).mono ?_
  rintro v k4 ⟨rfl,t4⟩
  have T4:=T3.trans (t4.mono T3.le)
  have ht4:=t4.le
  have n4:k4[h'.length]?=some (.cells Zbv [.str ns[g].1,.str ns[g].2] false):=by rw [t4.eq _ (by omega)]; exact n3
  have w4':k4[h.length]?=some (.cells Zao [.slice a n c e,.slice a1 n1 c1 e1] false):=by rw [t4.eq _ (by omega)]; exact w3'
  have i4':k4[h0.length]?=some (.cells Zac [.str ct,.str tt,.slice (some (i,o)) n2 c2 e2] false):=by rw [t4.eq _ (by omega)]; exact i3'
  simp only [Zah,row w4',Zak n4,Zak i4',List.getElem?_cons_succ,List.getElem?_cons_zero,Zap,true_and]
  refine Zbx (fun hb=>fail _ T4 (by unfold Zim; rw [m1,hb]; rfl)) (fun m2=>?_)
  refine Zan (fun hb=>fail _ T4 (by unfold Zim; simp [show ¬ ns[g].2.length≤20 by omega])) (fun m3=>?_)
  refine (Zwy _ hnl).mono ?_
  rintro v k5 ⟨rfl,t5⟩
  have T5:=T4.trans (t5.mono T4.le)
  have ht5:=t5.le
  have n5:k5[h'.length]?=some (.cells Zbv [.str ns[g].1,.str ns[g].2] false):=by rw [t5.eq _ (by omega)]; exact n4
  have w5':k5[h.length]?=some (.cells Zao [.slice a n c e,.slice a1 n1 c1 e1] false):=by rw [t5.eq _ (by omega)]; exact w4'
  have i5':k5[h0.length]?=some (.cells Zac [.str ct,.str tt,.slice (some (i,o)) n2 c2 e2] false):=by rw [t5.eq _ (by omega)]; exact i4'
  simp only [row w5',Zak n5,Zak i5',List.getElem?_cons_succ,List.getElem?_cons_zero,Zap,true_and]
  refine (Zwy _ htt).mono ?_
  rintro v k6 ⟨rfl,t6⟩
  have T6:=T5.trans (t6.mono T5.le)
  have ht6:=t6.le
  have n6:k6[h'.length]?=some (.cells Zbv [.str ns[g].1,.str ns[g].2] false):=by rw [t6.eq _ (by omega)]; exact n5
  have w6':k6[h.length]?=some (.cells Zao [.slice a n c e,.slice a1 n1 c1 e1] false):=by rw [t6.eq _ (by omega)]; exact w5'
  have i6':k6[h0.length]?=some (.cells Zac [.str ct,.str tt,.slice (some (i,o)) n2 c2 e2] false):=by rw [t6.eq _ (by omega)]; exact i5'
  simp only [row w6',Zak n6,Zak i6',List.getElem?_cons_succ,List.getElem?_cons_zero,Zap,true_and]
  rw [if_pos m2,if_pos b3]
  have hvb:∀ s,(Zqn s).length≤6:=fun s=>List.length_filter_le _ _
  have hv1:=hvb ns[g].2
  have hv2:=hvb tt
  refine (Yhk _ _ (by omega) (by omega)).mono ?_
  rintro v k7 ⟨rfl,rfl⟩
  have hni:Zim cs tt ns[g]=(Zqn ns[g].2).all fun v=>decide (v∈tt):=by unfold Zim; rw [m1,m2]; simp [show ns[g].2.length≤20 by omega]
  simp only [Zah,row w6',Zak n6,Zak i6',List.getElem?_cons_succ,List.getElem?_cons_zero,Zap,true_and,Ybh,← hni]
  refine Zbx (fun hb=>fail _ T6 hb) (fun m4=>?_)
  apply Zdg.J8i
  rw [Zbn (by omega)]
  refine hR (g + 1) _ _ (by omega) ⟨rfl,by omega,?_,Zgu hgl hk m4⟩
  exact hS.trans ((sq.mono hS.le).trans ((t3.mono (by omega)).trans ((t4.mono (by omega)).trans ((t5.mono (by omega)).trans (t6.mono (by omega))))))
 ·apply Zdg.A4x0i
  have:g=n2:=by omega
  subst this
  rw [List.take_of_length_le (by omega)] at hk
  exact ⟨by rw [hk],SS⟩
end Go.Sim

set_option linter.unusedVariables false
set_option linter.unusedSimpArgs false
set_option maxRecDepth 20000
namespace Go.Sim
open Go Go.RowKit

structure WB (w:Wd):Prop where
 lc:w.cs.length≤1048576
 li:w.is.length≤1048576
 cs:∀ p∈w.cs,p.1.length≤1048576∧p.2.length≤1048576∧∀ b∈p.1,b < 256
 is:∀ i∈w.is,i.1.1.length≤1048576∧i.1.2.length≤1048576∧i.2.length≤1048576∧∀ p∈i.2,p.1.length≤1048576∧p.2.length≤1048576
def Zsq (a0:Pt) (n0 c0:Nat) (e0:Bool) (a1:Pt) (n1 c1:Nat) (e1:Bool):Zcj:=.cells Zao [.slice a0 n0 c0 e0,.slice a1 n1 c1 e1] false
theorem Ydp {h:Zaa} {j:Nat} {a0 a1:Pt} {n0 c0 n1 c1:Nat} {e0 e1:Bool} (hj:h[j]?=some (Zsq a0 n0 c0 e0 a1 n1 c1 e1)):Zbf h (.ptr (some (j,0))) 2=some [.slice a0 n0 c0 e0,.slice a1 n1 c1 e1]:=by
 rw [Zer (show h[j]?=some (.cells Zao [.slice a0 n0 c0 e0,.slice a1 n1 c1 e1] false) from hj) (by simp)]; rfl
theorem Zht {h:Zaa} {j o:Nat} {a0 a1:Pt} {n0 c0 n1 c1:Nat} {e0 e1:Bool} (hj:h[j]?=some (Zsq a0 n0 c0 e0 a1 n1 c1 e1)):Zad h (.ptr (some (j,o)))=([.slice a0 n0 c0 e0,.slice a1 n1 c1 e1]:List Zal)[o]?:=Zak (show h[j]?=some (.cells Zao [.slice a0 n0 c0 e0,.slice a1 n1 c1 e1] false) from hj)
theorem Zaz.get {b:Nat} {h h':Zaa} {j:Nat} {x:Zcj} (s:Zaz b h h') (hj:h[j]?=some x) (hb:j < b):h'[j]?=some x:=by rw [s.eq j hb]; exact hj
theorem Zaz.cat {h h1 h2:Zaa} (a:Zaz h.length h h1) (b:Zaz h1.length h1 h2):Zaz h.length h h2:=a.trans (b.mono a.le)

theorem Ygb {h:Zaa} {t:TypeId} {x y:Zal}:Zbf (h ++ [.cells t [x,y] false]) (.ptr (some (h.length,0))) 2=some [x,y]:=Zzs rfl
theorem Ypj {h:Zaa} {t:TypeId} {x y z:Zal}:Zbf (h ++ [.cells t [x,y,z] false]) (.ptr (some (h.length,0))) 3=some [x,y,z]:=Zzs rfl
theorem Yco {h:Zaa} {a0 a1 a2:Pt} {n0 c0 n1 c1 n2 c2 j:Nat} {e0 e1 e2:Bool} {w:Wd} {ns:List Nd} {ct tt:List Nat} (r:Zph h a0 n0 c0 a1 n1 c1 w) (b:WB w) (hj:h[j]?=some (Zsq a0 n0 c0 e0 a1 n1 c1 e1))
  (r2:Row h.length h a2 (n2 * 2) (Zeu eP ns)) (hn2:n2≤1048576) (hns:∀ p∈ns,p.2.length≤1048576) (htt:tt.length≤1048576) :
  Zae pg Zbu [.agg [.str ct,.str tt,.slice a2 n2 c2 e2],.ptr (some (j,0))] h fun v h'=>v=.bool (!Zlz w.cs ((ct,tt),ns))∧Zaz h.length h h':=by
 apply Zio.call
 simp only [Zaw]
 have s1:Zaz h.length h (h ++ [.cells Zac [.str ct,.str tt,.slice a2 n2 c2 e2] false]):=Zaq
 rw [Ydp (s1.get hj (Own.lt hj)),Ypj]
 simp only [Zas,Zai,Zar,Zag,Zap]
 have hlc:=b.lc
 have hl0:=r.len0
 refine (Zte (r.cls.same' s1) r.le0 (by omega) (fun p hp=>(b.cs p hp).2.1) (r2.same' s1) hn2 hns htt).mono ?_
 rintro v h2 ⟨rfl,s2⟩
 simp only [Zah]
 exact ⟨by trivial,s1.cat s2⟩
theorem Ybz {h:Zaa} {a0 a1:Pt} {n0 c0 n1 c1 j:Nat} {e0 e1:Bool} {w:Wd} (r:Zph h a0 n0 c0 a1 n1 c1 w) (b:WB w) (hj:h[j]?=some (Zsq a0 n0 c0 e0 a1 n1 c1 e1)) :
  Zae pg Zcp [.slice a1 n1 c1 e1,.fn Zbu [.ptr (some (j,0))]] h fun v h'=>(∃ z:Int,v=.int .i64 z∧decide (z ≥ 0)=!w.is.all (Zlz w.cs))∧Zaz h.length h h':=by
 have hl:=r.len1
 have hli:=b.li
 apply Zay.call
 refine Zay.L2ind _ _ _ _ _ _ _ (J:=fun (g:Nat) x8 h'=>x8=(g:Int)∧g≤n1∧Zaz h.length h h'∧(w.is.take g).all (Zlz w.cs)=true) (fun g=>n1 - g) ?_ 0 _ _ ⟨rfl,by omega,Zaz.refl _ _,rfl⟩
 rintro g x8 h' ⟨rfl,hg,hS,hk⟩ R hR
 unfold Zay.L2t
 refine Zan (fun hlt=>?_) (fun hge=>?_)
 ·obtain ⟨i,o,hgl,a2,n2,c2,e2,rfl,_,hr,_,_,_,hrow,hn⟩:=(r.same hS).inst (k:=g) (by omega)
  simp only [Zat,Int.toNat_natCast,hr,Zas,Zai,Zar,Zap,Zag]
  have hb:=b.is _ (List.getElem_mem hgl)
  refine ⟨by omega,(Yco (r.same hS) b (hS.get hj (Own.lt hj)) hrow (by omega) (fun p hp=>(hb.2.2.2 p hp).2) hb.2.1).mono ?_⟩
  rintro v h2 ⟨rfl,s2⟩
  simp only [Zah]
  have hS2:=hS.cat s2
  refine Zbx (fun he=>?_) (fun he=>?_)
  ·exact ⟨⟨_,rfl,by rw [Zrz hgl he]; simp⟩,hS2⟩
  ·rw [Zbn (by omega)]
   exact hR (g + 1) _ _ (by omega) ⟨rfl,by omega,hS2,Zgu hgl hk he⟩
 ·apply Zay.A2x0i
  have:g=n1:=by omega
  subst this
  rw [List.take_of_length_le (by omega)] at hk
  exact ⟨⟨_,rfl,by rw [hk]; rfl⟩,hS⟩
theorem Zyh {h:Zaa} {a0 a1:Pt} {n0 c0 n1 c1:Nat} {e0 e1:Bool} {w:Wd} (r:Zph h a0 n0 c0 a1 n1 c1 w) (b:WB w) :
  Zae pg Zir [.agg [.slice a0 n0 c0 e0,.slice a1 n1 c1 e1]] h fun v h'=>v=.bool (Zdw w)∧Zaz h.length h h':=by
 have hl0:=r.len0
 have hl1:=r.len1
 have hlc:=b.lc
 apply Zmg.call
 simp only [Zaw]
 generalize hh0:h ++ [Zcj.cells Zao [.slice a0 n0 c0 e0,.slice a1 n1 c1 e1] false]=h0
 have s0:Zaz h.length h h0:=by rw [← hh0]; exact Zaq
 have w0:h0[h.length]?=some (Zsq a0 n0 c0 e0 a1 n1 c1 e1):=by rw [← hh0]; simp [Zsq]
 rw [Ydp w0]
 simp only [Zas,Zai,Zar,Zag]
 refine (Zsp (r.cls.same' s0) r.le0 (by omega) (fun p hp=>(b.cs p hp).2.1)).mono ?_
 rintro v h2 ⟨rfl,s2⟩
 have S2:=s0.cat s2
 have w2:=s2.get w0 (Own.lt w0)
 simp only [Zah]
 refine Zds (fun b1=>?_) (fun b1=>⟨by unfold Zdw; rw [b1]; rfl,S2⟩)
 simp only [Zht w2,Nat.zero_add,List.getElem?_cons_succ,List.getElem?_cons_zero,Zag]
 refine Zan (fun b2=>?_) (fun b2=>⟨by unfold Zdw; rw [b1]; simp [show ¬ w.is.length≤10 by omega],S2⟩)
 apply Zcc.call
 refine (Ybz (r.same S2) b w2).mono ?_
 rintro v h3 ⟨⟨z,rfl,hz⟩,s3⟩
 simp only [Zam,Zah]
 refine ⟨?_,S2.cat s3⟩
 rw [hz,Bool.not_not]
 unfold Zdw
 rw [b1]; simp [show w.is.length≤10 by omega]
theorem Zpw {h:Zaa} {a0 a1:Pt} {n0 c0 n1 c1:Nat} {e0 e1:Bool} {w:Wd} (r:Zph h a0 n0 c0 a1 n1 c1 w) (b:WB w) :
  Zae pg Zgv [.agg [.slice a0 n0 c0 e0,.slice a1 n1 c1 e1]] h fun v h'=>v=.bool (Zdw w)∧Zaz h.length h h':=by
 have hl0:=r.len0
 have hl1:=r.len1
 have hlc:=b.lc
 have hli:=b.li
 apply Zfj.call
 simp only [Zaw]
 generalize hh0:h ++ [Zcj.cells Zao [.slice a0 n0 c0 e0,.slice a1 n1 c1 e1] false]=h0
 have s0:Zaz h.length h h0:=by rw [← hh0]; exact Zaq
 have w0:h0[h.length]?=some (Zsq a0 n0 c0 e0 a1 n1 c1 e1):=by rw [← hh0]; simp [Zsq]
 simp only [Zht w0,Nat.zero_add,List.getElem?_cons_succ,List.getElem?_cons_zero,Zag]
 refine Zfj.L2ind _ _ _ _ _ _ _ _ (J:=fun (g:Nat) x8 h'=>x8=(g:Int)∧g≤n1∧Zaz h0.length h0 h'∧(w.is.take g).all (Zlz w.cs)=true) (fun g=>n1 - g) ?_ 0 _ _ ⟨rfl,by omega,Zaz.refl _ _,rfl⟩
 rintro g x8 h' ⟨rfl,hg,hS,hk⟩ R hR
 have SS:=s0.cat hS
 have w1:=hS.get w0 (Own.lt w0)
 unfold Zfj.L2t
 refine Zan (fun hlt=>?_) (fun hge=>?_)
 ·obtain ⟨i,o,hgl,a2,n2,c2,e2,rfl,_,hr,_,_,_,hrow,hn⟩:=(r.same SS).inst (k:=g) (by omega)
  simp only [Zat,Int.toNat_natCast,hr,Zas,Zai,Zar,Zap,Zag,Zaw]
  rw [Ypu]
  generalize hq:h' ++ [Zcj.cells Zac [.str w.is[g].1.1,.str w.is[g].1.2,.slice a2 n2 c2 e2] false]=hq'
  have sq:Zaz h'.length h' hq':=by rw [← hq]; exact Zaq
  simp only [Zau]
  rw [Ydp (sq.get w1 (Own.lt w1)),← hq,Ypj,hq]
  simp only [Zas,Zai,Zar,Zap,Zag]
  have hb:=b.is _ (List.getElem_mem hgl)
  have Sq:=SS.cat sq
  refine ⟨by omega,(Zsi (r.cls.same' Sq) r.le0 (by omega) (fun p hp=>(b.cs p hp).2.1) (fun p hp=>(b.cs p hp).2.2) (hrow.same' sq) (by omega) (fun p hp=>(hb.2.2.2 p hp).2) hb.2.1).mono ?_⟩
  rintro v h2 ⟨rfl,s2⟩
  simp only [Zah]
  refine Zbx (fun he=>?_) (fun he=>?_)
  ·exact ⟨by unfold Zdw; rw [Zrz hgl he]; simp,Sq.cat s2⟩
  ·rw [Zbn (by omega)]
   exact hR (g + 1) _ _ (by omega) ⟨rfl,by omega,(hS.cat sq).cat s2,Zgu hgl hk he⟩
 ·apply Zfj.A2x0i
  have:g=n1:=by omega
  subst this
  rw [List.take_of_length_le (by omega)] at hk
  simp only [Zht w1,Nat.zero_add,List.getElem?_cons_zero,Zag]
  refine (Zso (r.cls.same' SS) r.le0 (by omega) (fun p hp=>(b.cs p hp).2.1) (fun p hp=>(b.cs p hp).2.2)).mono ?_
  rintro v h2 ⟨rfl,s2⟩
  simp only [Zah]
  have w2:=s2.get w1 (Own.lt w1)
  refine Zds (fun b1=>?_) (fun b1=>⟨by unfold Zdw; rw [b1]; rfl,SS.cat s2⟩)
  simp only [Zht w2,Nat.zero_add,List.getElem?_cons_succ,List.getElem?_cons_zero,Zag]
  refine ⟨?_,SS.cat s2⟩
  unfold Zdw
  rw [b1,hk]; congr 1; rw [Bool.eq_iff_iff]; simp; omega
end Go.Sim

set_option linter.unusedVariables false
set_option linter.unusedSimpArgs false
set_option maxRecDepth 20000
namespace Go.Sim
open Go Go.RowKit

end Go.Sim
