/- A part of the proof of a statement of this seat: see the text that holds the theorem. No condition. -/
import Derived.Test.YtdglddliggejdaaSimX
import Derived.Test.YtdglddliggejdaaNm
import Derived.Test.YtdglddliggejdaaShelf
import Derived.Test.YtdglddliggejdaaPTCGrE
set_option linter.unusedVariables false
set_option linter.unusedSimpArgs false
set_option linter.all false
set_option linter.unusedVariables false
set_option linter.unusedSimpArgs false
namespace Go.Sim
open Go Go.RowKit

theorem Zek {x y:Int} {A B:Prop} (ha:x=y→A) (hb:x≠y→B):bcase (x == y) A B:=by
 by_cases h:x=y
 ·rw [beq_iff_eq.2 h]; exact ha h
 ·rw [beq_eq_false_iff_ne.2 h]; exact hb h
theorem Zfp {x y:Int} {A B:Prop} (ha:x≠y→A) (hb:x=y→B):bcase (!(x == y)) A B:=by
 by_cases h:x=y
 ·rw [beq_iff_eq.2 h]; exact hb h
 ·rw [beq_eq_false_iff_ne.2 h]; exact ha h
theorem Zck {b:Bool} {A B:Prop} (ha:b=false→A) (hb:b=true→B):bcase (!b) A B:=by
 cases b
 ·exact ha rfl
 ·exact hb rfl
theorem Zrd {p:Prop} [Decidable p] {A B:Prop} (ha:¬ p→A) (hb:p→B):bcase (!decide p) A B:=by
 by_cases h:p
 ·simp [h]; exact hb h
 ·simp [h]; exact ha h
theorem Zcc {h:Zaa} {i:Nat} {x y:Zcp} (hi:h[i]?=some y):(h.set i x)[i]?=some x:=List.getElem?_set_self (List.getElem?_eq_some_iff.1 hi).1
theorem Zbv {h:Zaa} {i j:Nat} {x:Zcp} (hne:i≠j):(h.set i x)[j]?=h[j]?:=List.getElem?_set_ne hne
theorem Zyf {h l:Zaa} {i:Nat} (hi:i < h.length):(h ++ l)[i]?=h[i]?:=List.getElem?_append_left hi
theorem Zkz {h l:Zaa} {i:Nat} {x:Zcp} (hi:h[i]?=some x):(h ++ l)[i]?=some x:=by rw [Zyf (List.getElem?_eq_some_iff.1 hi).1]; exact hi
theorem Zan {h:Zaa} {i o:Nat} {t:TypeId} {cs:List Zag} {ro:Bool} (hi:h[i]?=some (.cells t cs ro)):Zaf h (.ptr (some (i,o)))=cs[o]?:=by simp only [Zaf,hi]
theorem Zfv {h:Zaa} {i o n:Nat} {t:TypeId} {cs:List Zag} {ro:Bool} (hi:h[i]?=some (.cells t cs ro)) (hle:o + n≤cs.length):Zbo h (.ptr (some (i,o))) n=some ((cs.drop o).take n):=by simp only [Zbo,hi]; rw [if_pos hle]
theorem Zbk {h:Zaa} {i o:Nat} {t:TypeId} {cs vs:List Zag} (hi:h[i]?=some (.cells t cs false)) (hle:o + vs.length≤cs.length):Zbd h (.ptr (some (i,o))) vs=some (h.set i (.cells t (Zbm cs o vs) false)):=by simp only [Zbd,hi]; rw [if_pos hle]
theorem Zif.of {i:Nat} {h h':Zaa} (hl:h.length≤h'.length) (he:∀ j,j < h.length→j≠i→h'[j]?=h[j]?):Zif i h h':=⟨hl,he⟩
theorem Zif.trans {i:Nat} {h h1 h2:Zaa} (a:Zif i h h1) (b:Zif i h1 h2):Zif i h h2:=⟨Nat.le_trans a.le b.le,fun j hj hne=>by rw [b.eq j (by have:=a.le; omega) hne]; exact a.eq j hj hne⟩
theorem Zif.app (i:Nat) (h l:Zaa):Zif i h (h ++ l):=⟨by simp,fun j hj _=>List.getElem?_append_left hj⟩
theorem Zif.set (i:Nat) (h:Zaa) (x:Zcp):Zif i h (h.set i x):=⟨by simp,fun j hj hne=>List.getElem?_set_ne (by omega)⟩
theorem Zif.trans' {i:Nat} {h h1 h2:Zaa} (a:Zif i h h1) (b:∀ j,j < h.length→h2[j]?=h1[j]?) (hl:h1.length≤h2.length:=by simp):Zif i h h2:=⟨Nat.le_trans a.le hl,fun j hj hne=>by rw [b j hj]; exact a.eq j hj hne⟩
def Vec (ty:TypeId) (h:Zaa) (a:Pt) (n c:Nat) (cs:List Zag):Prop:=
 (a=none∧n=0∧c=0∧cs=[]) ∨ (∃ i,a=some (i,0)∧h[i]?=some (.cells ty cs false))
theorem Vec.mk0 {ty:TypeId} {h:Zaa}:Vec ty h none 0 0 []:=.inl ⟨rfl,rfl,rfl,rfl⟩
theorem Vec.mk1 {ty:TypeId} {h:Zaa} {i n c:Nat} {cs:List Zag} (hi:h[i]?=some (.cells ty cs false)):Vec ty h (some (i,0)) n c cs:=.inr ⟨i,rfl,hi⟩
theorem Vec.agree {ty:TypeId} {h h':Zaa} {a:Pt} {n c:Nat} {cs:List Zag} (x:Vec ty h a n c cs) (hh:∀ i,a=some (i,0)→h'[i]?=h[i]?):Vec ty h' a n c cs:=by
 rcases x with x | ⟨i,ha,hi⟩
 ·exact .inl x
 ·exact .inr ⟨i,ha,by rw [hh i ha]; exact hi⟩
theorem Vec.same {ty:TypeId} {h h':Zaa} {a:Pt} {n c:Nat} {cs:List Zag} (x:Vec ty h a n c cs) (s:Zbb h.length h h'):Vec ty h' a n c cs:=by
 rcases x with x | ⟨i,ha,hi⟩
 ·exact .inl x
 ·exact .inr ⟨i,ha,by rw [s.eq i (Own.lt hi)]; exact hi⟩
theorem Vec.row {ty:TypeId} {h:Zaa} {a:Pt} {n c m:Nat} {cs:List Zag} (x:Vec ty h a n c cs) (hm:cs.length=m):Row h.length h a m cs:=by
 rcases x with ⟨rfl,rfl,rfl,rfl⟩ | ⟨i,rfl,hi⟩
 ·simp at hm; subst hm; exact Row.nil
 ·exact ⟨hm,.inr ⟨i,0,ty,cs,false,rfl,Own.lt hi,hi,by omega,by subst hm; simp⟩⟩
theorem Vec.lt {ty:TypeId} {h:Zaa} {i n c:Nat} {cs:List Zag} (x:Vec ty h (some (i,0)) n c cs):i < h.length:=by
 rcases x with ⟨h0,_⟩ | ⟨j,hj,hi⟩
 ·cases h0
 ·cases hj; exact Own.lt hi
theorem Vec.app {P:Program} {t ty:TypeId} {h:Zaa} {n c sz:Nat} {a:Pt} {e:Bool} {xa:Pt} {m c':Nat} {e':Bool} {cs new:List Zag} {K:Zag→Zaa→Prop} (x:Vec ty h a n c cs)
  (hu:P.underlying t=some (.slice ty)) (hc:P.cellsOf ty=sz) (hok:P.okElem ty=true) (hby:P.bytesOf ty≤127) (hn:cs.length=n * sz) (hx:rowOf h xa (m * sz)=some new) (hl:new.all Zag.leaf=true)
  (hm:m≠0) (hle:n + m≤1099511627776) (hk:∀ h',h'.length=h.length + 1→h'[h.length]?=some (.cells ty (cs ++ new) false)→(∀ j,j < h.length→(∀ i,a=some (i,0)→j≠i)→h'[j]?=h[j]?) →
   K (.slice (some (h.length,0)) (n + m) (n + m) false) h'):Zdv P t h (.slice a n c e) (.slice xa m c' e') K:=by
 unfold Zdv
 simp only [hu,hc,hx,Zas]
 refine ⟨⟨hok,?_,hl⟩,?_⟩
 ·have:(n + m) * (P.bytesOf ty + 1)≤(n + m) * 128:=Nat.mul_le_mul_left _ (by omega)
  omega
 ·rcases x with ⟨rfl,rfl,rfl,rfl⟩ | ⟨i,rfl,hi⟩
  ·refine ⟨fun h0=>absurd h0 hm,fun _=>⟨rfl,?_⟩⟩
   have:=hk (h ++ [.cells ty new false]) (by simp) (by simp) (fun j hj _=>List.getElem?_append_left hj)
   simpa using this
  ·refine .inl ⟨rfl,?_⟩
   simp only [Zon,hi,true_and]
   refine ⟨hn,hk _ (by simp) (by rw [List.getElem?_append_right (by simp)]; simp) fun j hj hne=>?_⟩
   rw [List.getElem?_append_left (by simpa using hj),List.getElem?_set_ne (fun e=>hne i rfl e.symm)]
theorem Vec.push {P:Program} {t ty:TypeId} {h:Zaa} {n c:Nat} {a:Pt} {e:Bool} {cs:List Zag} {v:Zag} {K:Zag→Zaa→Prop} (x:Vec ty h a n c cs)
  (hu:P.underlying t=some (.slice ty)) (hc:P.cellsOf ty=1) (hok:P.okElem ty=true) (hby:P.bytesOf ty≤127) (hn:cs.length=n) (hl:v.leaf=true)
  (hle:n + 1≤1099511627776) (hk:∀ h',h'.length=h.length + 2→h'[h.length + 1]?=some (.cells ty (cs ++ [v]) false)→(∀ j,j < h.length→(∀ i,a=some (i,0)→j≠i)→h'[j]?=h[j]?) →
   K (.slice (some (h.length + 1,0)) (n + 1) (n + 1) false) h'):Zdv P t (h ++ [.cells ty [v] false]) (.slice a n c e) (.slice (some (h.length,0)) 1 1 true) K:=by
 refine Vec.app (sz:=1) (new:=[v]) (x.same (Zbb.app (Nat.le_refl _) _)) hu hc hok hby (by omega) ?_ (by simp [hl]) (by omega) hle ?_
 ·simp [rowOf,Zbo]
 ·intro h' hl' hi hj
  simp at hl' hi hj
  have key:=hk h' (by omega) (by simpa using hi) (fun j hlt hne=>by rw [hj j (by omega) hne,List.getElem?_append_left hlt])
  simpa using key
theorem Vec.pushN {P:Program} {t ty:TypeId} {h:Zaa} {n c sz:Nat} {a:Pt} {e:Bool} {cs vs:List Zag} {K:Zag→Zaa→Prop} (x:Vec ty h a n c cs)
  (hu:P.underlying t=some (.slice ty)) (hc:P.cellsOf ty=sz) (hok:P.okElem ty=true) (hby:P.bytesOf ty≤127) (hn:cs.length=n * sz) (hv:vs.length=sz) (hz:sz≠0) (hl:vs.all Zag.leaf=true)
  (hle:n + 1≤1099511627776) (hk:∀ h',h'.length=h.length + 2→h'[h.length + 1]?=some (.cells ty (cs ++ vs) false)→(∀ j,j < h.length→(∀ i,a=some (i,0)→j≠i)→h'[j]?=h[j]?) →
   K (.slice (some (h.length + 1,0)) (n + 1) (n + 1) false) h'):Zdv P t (h ++ [.cells ty vs false]) (.slice a n c e) (.slice (some (h.length,0)) 1 1 true) K:=by
 refine Vec.app (sz:=sz) (new:=vs) (x.same (Zbb.app (Nat.le_refl _) _)) hu hc hok hby hn ?_ hl (by omega) hle ?_
 ·simp [rowOf,Zbo,hv,hz]
  rw [← hv,List.take_length]
 ·intro h' hl' hi hj
  simp at hl' hi hj
  have key:=hk h' (by omega) (by simpa using hi) (fun j hlt hne=>by rw [hj j (by omega) hne,List.getElem?_append_left hlt])
  simpa using key
end Go.Sim

set_option linter.unusedVariables false
set_option linter.unusedSimpArgs false
namespace Go.Sim
open Go Go.RowKit

section
variable {α:Type} (enc:α→List Zag)
def Zdo (l:List α):List Zag:=l.flatMap enc
@[simp] theorem Yja:Zdo enc []=[]:=rfl
@[simp] theorem Zew (x:α) (l:List α):Zdo enc (x :: l)=enc x ++ Zdo enc l:=rfl
@[simp] theorem Zij (a b:List α):Zdo enc (a ++ b)=Zdo enc a ++ Zdo enc b:=by simp [Zdo]
variable {enc} {w:Nat}
theorem Zbg (hw:∀ x,(enc x).length=w) (l:List α):(Zdo enc l).length=l.length * w:=by
 induction l with
 | nil=>simp
 | cons x l ih=>rw [Zew,List.length_append,hw,ih,List.length_cons,Nat.succ_mul]; omega
theorem Yaj (hw:∀ x,(enc x).length=w):∀ (l:List α) (k:Nat),(Zdo enc l).drop (k * w)=Zdo enc (l.drop k)
 | l,0=>by simp
 | [],k + 1=>by simp
 | x :: l,k + 1=>by
  have h1:(enc x ++ Zdo enc l).drop w=Zdo enc l:=by rw [← hw x,List.drop_left]
  rw [Zew,List.drop_succ_cons,← Yaj hw l k,Nat.succ_mul,Nat.add_comm,← List.drop_drop,h1]
theorem Yff (hw:∀ x,(enc x).length=w):∀ (l:List α) (k:Nat),(Zdo enc l).take (k * w)=Zdo enc (l.take k)
 | l,0=>by simp
 | [],k + 1=>by simp
 | x :: l,k + 1=>by
  have h1:∀ m,(enc x ++ Zdo enc l).take (w + m)=enc x ++ (Zdo enc l).take m:=fun m=>by rw [← hw x,List.take_length_add_append]
  rw [Zew,List.take_succ_cons,Zew,← Yff hw l k,Nat.succ_mul,Nat.add_comm,h1]
theorem Row.el (hw:∀ x,(enc x).length=w) {b:Nat} {h:Zaa} {a:Pt} {n:Nat} {l:List α} (r:Row b h a (n * w) (Zdo enc l)) (hl:l.length=n) {k:Nat} (hk:k < n) (hw0:w≠0) :
  ∃ i o,∃ hk':k < l.length,a=some (i,o)∧i < b∧Zbo h (.ptr (some (i,o + k * w))) w=some (enc l[k])∧∀ j,j < w→Zaf h (.ptr (some (i,o + k * w + j)))=(enc l[k])[j]?:=by
 obtain ⟨_,r⟩:=r
 have hnw:k * w + w≤n * w:=by rw [← Nat.succ_mul]; exact Nat.mul_le_mul_right _ hk
 rcases r with h0 | ⟨i,o,t,all,ro,ha,hb,hi,hle,hcs⟩
 ·omega
 ·have hd:(all.drop (o + k * w)).take w=enc l[k]:=by
   have h1:((all.drop o).take (n * w)).drop (k * w)=Zdo enc (l.drop k):=by rw [← hcs,Yaj hw]
   rw [List.drop_take,List.drop_drop] at h1
   have h2:(all.drop (o + k * w)).take w=((all.drop (o + k * w)).take (n * w - k * w)).take w:=by rw [List.take_take,Nat.min_eq_left (by omega)]
   rw [h2,h1,List.drop_eq_getElem_cons (by omega),Zew,List.take_append_of_le_length (by rw [hw]; omega),List.take_of_length_le (by rw [hw]; omega)]
  refine ⟨i,o,by omega,ha,hb,?_,fun j hj=>?_⟩
  ·simp only [Zbo,hi]
   rw [if_pos (by omega),hd]
  ·simp only [Zaf,hi]
   rw [← hd,List.getElem?_take,if_pos hj,List.getElem?_drop]
theorem Row.el1 (hw:∀ x,(enc x).length=1) {b:Nat} {h:Zaa} {a:Pt} {n:Nat} {l:List α} (r:Row b h a n (Zdo enc l)) {k:Nat} (hk:k < n) :
  ∃ i o,∃ hk':k < l.length,a=some (i,o)∧i < b∧Zaf h (.ptr (some (i,o + k * 1)))=(enc l[k])[0]?:=by
 have hl:l.length=n:=by have:=r.1; rw [Zbg hw] at this; omega
 obtain ⟨i,o,hk',ha,hb,_,hc⟩:=Row.el hw (n:=n) (by simpa using r) hl hk (by omega)
 exact ⟨i,o,hk',ha,hb,by simpa using hc 0 (by omega)⟩
end
def eI (n:Int):List Zag:=[.int .i64 n]
def eP (p:List Nat × List Nat):List Zag:=[.str p.1,.str p.2]
theorem Zrm (x:Int):(eI x).length=1:=rfl
theorem Zha (x:List Nat × List Nat):(eP x).length=2:=rfl
theorem Zbp {k:Nat} (hn:k + 1≤9223372036854775807):IntKind.wrap .i64 ((k:Int) + 1)=((k + 1:Nat):Int):=by rw [IntWalk.i64_in _ (by omega)]; omega
end Go.Sim

set_option linter.unusedSimpArgs false
namespace Go.Sim

inductive Ty where
 | k (c:Nat)
 | u (c:Nat) (a:Ty)
 | w (c:Nat) (a b:Ty)
 deriving DecidableEq,Inhabited

namespace Ty
def hd:Ty→Nat | k c=>c | u c _=>c | w c _ _=>c
def ps:Ty→List Ty | k _=>[] | u _ a=>[a] | w _ a b=>[a,b]
def txt:Ty→List Nat
 | k c=>[c]
 | u c a=>c :: 40 :: (a.txt ++ [41])
 | w c a b=>c :: 40 :: (a.txt ++ 44 :: (b.txt ++ [41]))
def size:Ty→Nat | k _=>1 | u _ a=>a.size + 1 | w _ a b=>a.size + b.size + 1
end Ty

def Zbc (c:Nat):Bool:=c == 120 || c == 121 || c == 122 || c == 88 || c == 89 || c == 90
def Zfi (c:Nat):Bool:=c == 105 || c == 98 || c == 117 || Zbc c
def arN (c:Nat):Int:=if Zfi c then 0 else if c == 108 || c == 109 then 1 else if c == 112 then 2 else -1
namespace Ty
def ok:Ty→Bool
 | k c=>Zfi c
 | u c a=>(c == 108 || c == 109) && a.ok
 | w c a b=>(c == 112) && a.ok && b.ok
theorem ok_ar {t:Ty} (h:t.ok=true):arN t.hd=t.ps.length:=by
 cases t with
 | k c=>simp only [ok] at h; simp [arN,hd,ps,h]
 | u c a=>simp only [ok,Bool.and_eq_true,Bool.or_eq_true,beq_iff_eq] at h; rcases h.1 with rfl | rfl <;> rfl
 | w c a b=>simp only [ok,Bool.and_eq_true,beq_iff_eq] at h; rcases h.1.1 with rfl; rfl
theorem ok_ps {t:Ty} (h:t.ok=true):∀ p∈t.ps,p.ok=true:=by
 cases t with
 | k c=>simp [ps]
 | u c a=>simp only [ok,Bool.and_eq_true] at h; simp [ps,h.2]
 | w c a b=>simp only [ok,Bool.and_eq_true] at h; simp [ps,h.2,h.1.2]
theorem txt_cons (t:Ty):∃ r,t.txt=t.hd :: r:=by cases t <;> simp [txt,hd]
theorem txt_ne (t:Ty):t.txt≠[]:=by cases t <;> simp [txt]
theorem txt_pos (t:Ty):1≤t.txt.length:=by have:=t.txt_ne; cases h:t.txt <;> simp_all
theorem Yhw {s t:Ty} {r r':List Nat} (h:s.txt ++ r=t.txt ++ r'):s.hd=t.hd:=by
 obtain ⟨a,ha⟩:=s.txt_cons; obtain ⟨b,hb⟩:=t.txt_cons
 rw [ha,hb] at h; simp at h; exact h.1
theorem txt_inj:∀ {s t:Ty} {r r':List Nat},s.ok=true→t.ok=true→s.txt ++ r=t.txt ++ r'→s=t∧r=r':=by
 intro s
 induction s with
 | k c=>
  intro t r r' hs ht h
  have e:=Yhw h
  have h1:=ok_ar hs; have h2:=ok_ar ht
  rw [e,h2] at h1
  cases t with
  | k d=>simp [txt] at h; simp [h.1,h.2]
  | u d a=>simp [ps] at h1
  | w d a b=>simp [ps] at h1
 | u c a ih=>
  intro t r r' hs ht h
  have e:=Yhw h
  have h1:=ok_ar hs; have h2:=ok_ar ht
  rw [e,h2] at h1
  cases t with
  | k d=>simp [ps] at h1
  | u d a'=>
   simp only [ok,Bool.and_eq_true] at hs ht
   simp only [txt,List.cons_append,List.append_assoc,List.cons.injEq,true_and] at h
   obtain ⟨rfl,h⟩:=h
   obtain ⟨rfl,h⟩:=ih hs.2 ht.2 h
   simp at h; simp [h]
  | w d a' b'=>simp [ps] at h1
 | w c a b iha ihb=>
  intro t r r' hs ht h
  have e:=Yhw h
  have h1:=ok_ar hs; have h2:=ok_ar ht
  rw [e,h2] at h1
  cases t with
  | k d=>simp [ps] at h1
  | u d a'=>simp [ps] at h1
  | w d a' b'=>
   simp only [ok,Bool.and_eq_true] at hs ht
   simp only [txt,List.cons_append,List.append_assoc,List.cons.injEq,true_and] at h
   obtain ⟨rfl,h⟩:=h
   obtain ⟨rfl,h5⟩:=iha hs.1.2 ht.1.2 h
   simp only [List.cons.injEq,true_and] at h5
   obtain ⟨rfl,h3⟩:=ihb hs.2 ht.2 h5
   simp at h3; simp [h3]
theorem txt_inj' {s t:Ty} (hs:s.ok=true) (ht:t.ok=true) (h:s.txt=t.txt):s=t:=
 (txt_inj (r:=[]) (r':=[]) hs ht (by simpa using h)).1
end Ty

def Zxc:List Ty→List Nat
 | []=>[]
 | [a]=>40 :: a.txt
 | a :: b :: _=>40 :: (a.txt ++ 44 :: b.txt)
def Zqy (i:Nat):Nat:=if i=0 then 40 else 44
def Zga (s:List Nat) (t:Ty) (r:List Nat):Prop:=t.ok=true∧s=t.txt ++ r
theorem Zga.unique {s:List Nat} {t t':Ty} {r r':List Nat} (h:Zga s t r) (h':Zga s t' r'):t=t'∧r=r':=
 Ty.txt_inj h.1 h'.1 (by rw [← h.2,← h'.2])
theorem Zga.nil {t:Ty} {r:List Nat}:¬ Zga [] t r:=by
 rintro ⟨_,h⟩; have:=t.txt_ne; simp at h; exact this h.1
theorem Zga.step {c:Nat} {l:List Ty} {s r:List Nat} {t:Ty} (hl:∀ p∈l,p.ok=true) (h:Zga (c :: (Zxc l ++ s)) t r) (hn:l.length≤t.ps.length) :
  t.hd=c∧l=t.ps.take l.length∧(l.length < t.ps.length→∃ p s',s=Zqy l.length :: s'∧∃ r',Zga s' p r')∧(l.length=t.ps.length→s=(if t.ps=[] then r else 41 :: r)):=by
 obtain ⟨ht,h⟩:=h
 match l,hn with
 | [],_=>
  simp only [Zxc,List.nil_append] at h
  cases t with
  | k d=>simp [Ty.txt] at h; simp [Ty.hd,Ty.ps,h]
  | u d a=>
   simp [Ty.txt] at h; simp only [Ty.ok,Bool.and_eq_true] at ht
   exact ⟨h.1.symm,rfl,fun _=>⟨a,_,h.2,_,ht.2,rfl⟩,fun e=>by simp [Ty.ps] at e⟩
  | w d a b=>
   simp [Ty.txt] at h; simp only [Ty.ok,Bool.and_eq_true] at ht
   exact ⟨h.1.symm,rfl,fun _=>⟨a,_,h.2,_,ht.1.2,rfl⟩,fun e=>by simp [Ty.ps] at e⟩
 | [x],hn=>
  have hx:=hl x (by simp)
  cases t with
  | k d=>simp [Ty.ps] at hn
  | u d a=>
   simp only [Ty.ok,Bool.and_eq_true] at ht
   simp only [Zxc,Ty.txt,List.cons_append,List.append_assoc,List.cons.injEq,true_and] at h
   obtain ⟨rfl,h⟩:=h
   obtain ⟨rfl,h2⟩:=Ty.txt_inj hx ht.2 h
   exact ⟨rfl,rfl,fun e=>by simp [Ty.ps] at e,fun _=>by simp [Ty.ps,h2]⟩
  | w d a b=>
   simp only [Ty.ok,Bool.and_eq_true] at ht
   simp only [Zxc,Ty.txt,List.cons_append,List.append_assoc,List.cons.injEq,true_and] at h
   obtain ⟨rfl,h⟩:=h
   obtain ⟨rfl,h2⟩:=Ty.txt_inj hx ht.1.2 h
   exact ⟨rfl,rfl,fun _=>⟨b,_,h2,_,ht.2,rfl⟩,fun e=>by simp [Ty.ps] at e⟩
 | [x,y],hn=>
  have hx:=hl x (by simp)
  have hy:=hl y (by simp)
  cases t with
  | k d=>simp [Ty.ps] at hn
  | u d a=>simp [Ty.ps] at hn
  | w d a b=>
   simp only [Ty.ok,Bool.and_eq_true] at ht
   simp only [Zxc,Ty.txt,List.cons_append,List.append_assoc,List.cons.injEq,true_and] at h
   obtain ⟨rfl,h⟩:=h
   obtain ⟨rfl,h2⟩:=Ty.txt_inj hx ht.1.2 h
   simp only [List.cons.injEq,true_and] at h2
   obtain ⟨rfl,h3⟩:=Ty.txt_inj hy ht.2 h2
   exact ⟨rfl,rfl,fun e=>by simp [Ty.ps] at e,fun _=>by simp [Ty.ps,h3]⟩
 | _ :: _ :: _ :: _,hn=>cases t <;> simp [Ty.ps] at hn

open Classical in
noncomputable def Ztt (s:List Nat):Option Ty:=if h:∃ t:Ty,t.ok=true∧s=t.txt then some h.choose else none
theorem Zzg {t:Ty} (h:t.ok=true):Ztt t.txt=some t:=by
 have hex:∃ u:Ty,u.ok=true∧t.txt=u.txt:=⟨t,h,rfl⟩
 unfold Ztt
 rw [dif_pos hex]
 exact congrArg some (Ty.txt_inj' h hex.choose_spec.1 hex.choose_spec.2).symm
theorem Zrc {s:List Nat} {t:Ty}:Ztt s=some t ↔ t.ok=true∧s=t.txt:=by
 constructor
 ·intro h
  unfold Ztt at h
  split at h
  ·rename_i hex
   have e:=(Option.some.inj h)
   have:=hex.choose_spec
   rw [e] at this; exact this
  ·cases h
 ·rintro ⟨h,rfl⟩; exact Zzg h
theorem Zod {s:List Nat}:Ztt s=none ↔ ∀ t:Ty,t.ok=true→s≠t.txt:=by
 constructor
 ·intro h t ht e
  rw [e,Zzg ht] at h; cases h
 ·intro h
  cases e:Ztt s with
  | none=>rfl
  | some t=>obtain ⟨h1,h2⟩:=Zrc.1 e; exact absurd h2 (h t h1)
noncomputable def Zjb (s:List Nat):Option Ty:=if s.length≤60 then Ztt s else none
theorem Zim {s:List Nat} {t:Ty}:Zjb s=some t ↔ t.ok=true∧s=t.txt∧s.length≤60:=by
 unfold Zjb
 by_cases h:s.length≤60
 ·simp only [h,if_true,and_true]; exact Zrc
 ·simp [h]
noncomputable def Zos (s:List Nat):Bool:=(Zjb s).isSome
theorem Ybo {s:List Nat}:Zos s=true ↔ ∃ t:Ty,t.ok=true∧s=t.txt∧s.length≤60:=by
 unfold Zos; rw [Option.isSome_iff_exists]; simp only [Zim]
theorem Ymg {s:List Nat} (h:Zos s=true):s≠[]:=by obtain ⟨t,_,rfl,_⟩:=Ybo.1 h; exact t.txt_ne

namespace Ty
end Ty
end Go.Sim

set_option linter.unusedSimpArgs false
namespace Go.Sim

end Go.Sim

set_option linter.unusedVariables false
namespace Go.Sim
open Go Go.RowKit
theorem Zkx {h:Zaa} {s:List Nat} {c:Nat}:Zad pg Zeq [.str s,.str [c]] h fun v h'=>v=.bool (decide (c∈s))∧h'=h:=
 Zad.contains1 ⟨_,Go.Proofs.Try.func138,by kernel_rfl,by kernel_rfl⟩ Go.Proofs.Try.strings_Contains_one
theorem Zqc {h:Zaa} {s p:List Nat}:Zad pg Zhn [.str s,.str p] h fun v h'=>v=.bool (p.isPrefixOf s)∧h'=h:=
 Zad.hasPrefix ⟨_,Go.Proofs.Try.func144,by kernel_rfl,by kernel_rfl⟩ Go.Proofs.Try.strings_HasPrefix
end Go.Sim

set_option linter.unusedVariables false
set_option linter.unusedSimpArgs false
namespace Go.Sim
open Go Go.RowKit

@[simp] theorem Ykk (c:Nat) (s:List Nat):sub (c :: s) 0 1=[c]:=by simp [sub]
@[simp] theorem Ykr (c:Nat) (s:List Nat):sub (c :: s) 1 ((c :: s).length:Int)=s:=by
 simp only [sub,Int.toNat_natCast,List.take_length]; rfl
theorem Ygb {s s':List Nat} {c:Nat} (h:s=c :: s'):sub s 1 (s.length:Int)=s':=by subst h; exact Ykr c s'
theorem Yjo (c:Nat):decide (c∈[105,98,117,120,121,122,88,89,90])=Zfi c:=by
 rw [Bool.eq_iff_iff]; simp [Zfi,Zbc,or_assoc]
def arS (s:List Nat):Int:=match s with | [c]=>arN c | _=>-1
theorem Yce {h:Zaa} (s:List Nat):Zad pg Zkt [.str s] h fun v h'=>v=.int .i64 (arS s)∧h'=h:=by
 apply Znt.call
 match s with
 | []=>simp [arS]
 | [c]=>
  simp only [List.length_cons,List.length_nil]
  simp only [show ((0 + 1:Nat):Int)=1 from rfl,beq_self_eq_true,Bool.not_true,Zay]
  refine Zkx.mono ?_
  rintro v h' ⟨rfl,rfl⟩
  simp only [Zah,Yjo]
  unfold arS
  cases hl:Zfi c with
  | true=>simp [arN,hl]
  | false=>
   simp only [Zay,if_false,Bool.false_eq_true]
   refine Zaj (fun e=>by simp at e; subst e; exact ⟨rfl,by trivial⟩) fun e1=>Zaj (fun e=>by simp at e; subst e; exact ⟨rfl,by trivial⟩) fun e2=>Zaj (fun e=>by simp at e; subst e; exact ⟨rfl,by trivial⟩) fun e3=>?_
   simp at e1 e2 e3
   apply Znt.J9i
   simp [arN,hl,e1,e2,e3]
 | _ :: _ :: r=>
  simp [arS]
  rw [show ((r.length:Int) + 1 + 1 == 1)=false by simp; omega]; simp

def Zpm (S:Nat→Prop) (h:Zaa):Ty→Pt→Prop
 | .k d,p=>∃ i a c e,p=some (i,0)∧S i∧h[i]?=some (.cells Zbs [.str [d],.slice a 0 c e,.ptr none] false)
 | .u d x,p=>∃ i j c e q,p=some (i,0)∧S i∧h[i]?=some (.cells Zbs [.str [d],.slice (some (j,0)) 1 c e,.ptr none] false)∧S j∧h[j]?=some (.cells Zcx [.ptr q] false)∧Zpm S h x q
 | .w d x y,p=>∃ i j c e q r,p=some (i,0)∧S i∧h[i]?=some (.cells Zbs [.str [d],.slice (some (j,0)) 2 c e,.ptr none] false)∧S j∧h[j]?=some (.cells Zcx [.ptr q,.ptr r] false)∧Zpm S h x q∧Zpm S h y r
theorem Zpm.mono {S S':Nat→Prop} {h:Zaa} (hs:∀ i,S i→S' i):∀ {t:Ty} {p:Pt},Zpm S h t p→Zpm S' h t p
 | .k d,p,⟨i,a,c,e,hp,si,hi⟩=>⟨i,a,c,e,hp,hs _ si,hi⟩
 | .u d x,p,⟨i,j,c,e,q,hp,si,hi,sj,hj,hq⟩=>⟨i,j,c,e,q,hp,hs _ si,hi,hs _ sj,hj,hq.mono hs⟩
 | .w d x y,p,⟨i,j,c,e,q,r,hp,si,hi,sj,hj,hq,hr⟩=>⟨i,j,c,e,q,r,hp,hs _ si,hi,hs _ sj,hj,hq.mono hs,hr.mono hs⟩
theorem Zpm.agree {S:Nat→Prop} {h h':Zaa} (hh:∀ i,S i→h'[i]?=h[i]?):∀ {t:Ty} {p:Pt},Zpm S h t p→Zpm S h' t p
 | .k d,p,⟨i,a,c,e,hp,si,hi⟩=>⟨i,a,c,e,hp,si,by rw [hh i si]; exact hi⟩
 | .u d x,p,⟨i,j,c,e,q,hp,si,hi,sj,hj,hq⟩=>⟨i,j,c,e,q,hp,si,by rw [hh i si]; exact hi,sj,by rw [hh j sj]; exact hj,hq.agree hh⟩
 | .w d x y,p,⟨i,j,c,e,q,r,hp,si,hi,sj,hj,hq,hr⟩=>⟨i,j,c,e,q,r,hp,si,by rw [hh i si]; exact hi,sj,by rw [hh j sj]; exact hj,hq.agree hh,hr.agree hh⟩
theorem Zpm.lt {S:Nat→Prop} {h:Zaa}:∀ {t:Ty} {p:Pt},Zpm S h t p→∃ i,p=some (i,0)∧S i∧i < h.length
 | .k d,p,⟨i,a,c,e,hp,si,hi⟩=>⟨i,hp,si,Own.lt hi⟩
 | .u d x,p,⟨i,j,c,e,q,hp,si,hi,_⟩=>⟨i,hp,si,Own.lt hi⟩
 | .w d x y,p,⟨i,j,c,e,q,r,hp,si,hi,_⟩=>⟨i,hp,si,Own.lt hi⟩
theorem Zpm.parts {S:Nat→Prop} {h:Zaa} {t:Ty} {p:Pt} (r:Zpm S h t p):∃ i a c e,∃ qs:List Pt,p=some (i,0)∧S i∧h[i]?=some (.cells Zbs [.str [t.hd],.slice a t.ps.length c e,.ptr none] false) ∧
  Row h.length h a t.ps.length (qs.map .ptr)∧(∀ j o,t.ps.length≠0→a=some (j,o)→S j)∧qs.length=t.ps.length∧∀ (k:Nat) (q:Pt) (x:Ty),qs[k]?=some q→t.ps[k]?=some x→Zpm S h x q:=by
 cases t with
 | k d=>
  obtain ⟨i,a,c,e,hp,si,hi⟩:=r
  exact ⟨i,a,c,e,[],hp,si,hi,Row.nil,fun _ _ h=>absurd rfl h,rfl,by simp⟩
 | u d x=>
  obtain ⟨i,j,c,e,q,hp,si,hi,sj,hj,hq⟩:=r
  refine ⟨i,_,c,e,[q],hp,si,hi,⟨rfl,.inr ⟨j,0,_,_,_,rfl,Own.lt hj,hj,by simp [Ty.ps],by simp [Ty.ps]⟩⟩,?_,rfl,?_⟩
  ·rintro j' o' _ e; cases e; exact sj
  ·intro k q' x' h1 h2
   cases k with
   | zero=>simp [Ty.ps] at h1 h2; subst h1; subst h2; exact hq
   | succ k=>simp at h1
 | w d x y=>
  obtain ⟨i,j,c,e,q,r,hp,si,hi,sj,hj,hq,hr⟩:=r
  refine ⟨i,_,c,e,[q,r],hp,si,hi,⟨rfl,.inr ⟨j,0,_,_,_,rfl,Own.lt hj,hj,by simp [Ty.ps],by simp [Ty.ps]⟩⟩,?_,rfl,?_⟩
  ·rintro j' o' _ e; cases e; exact sj
  ·intro k q' x' h1 h2
   match k with
   | 0=>simp [Ty.ps] at h1 h2; subst h1; subst h2; exact hq
   | 1=>simp [Ty.ps] at h1 h2; subst h1; subst h2; exact hr
   | k + 2=>simp at h1
theorem Zpm.make {S:Nat→Prop} {h:Zaa} {t:Ty} {i:Nat} {a:Pt} {n c:Nat} {e:Bool} {qs:List Pt} (si:S i) (hi:h[i]?=some (.cells Zbs [.str [t.hd],.slice a n c e,.ptr none] false)) (hn:n=t.ps.length)
  (hv:Vec Zcx h a n c (qs.map .ptr)) (hl:qs.length=n) (ha:∀ j,a=some (j,0)→S j) (hq:∀ (k:Nat) (q:Pt) (x:Ty),qs[k]?=some q→t.ps[k]?=some x→Zpm S h x q):Zpm S h t (some (i,0)):=by
 subst hn
 cases t with
 | k d=>exact ⟨i,a,c,e,rfl,si,hi⟩
 | u d x=>
  rcases hv with ⟨_,h0,_⟩ | ⟨j,rfl,hj⟩
  ·simp [Ty.ps] at h0
  ·match qs,hl with
   | [q],_=>exact ⟨i,j,c,e,q,rfl,si,hi,ha j rfl,hj,hq 0 q x rfl rfl⟩
 | w d x y=>
  rcases hv with ⟨_,h0,_⟩ | ⟨j,rfl,hj⟩
  ·simp [Ty.ps] at h0
  ·match qs,hl with
   | [q,r],_=>exact ⟨i,j,c,e,q,r,rfl,si,hi,ha j rfl,hj,hq 0 q x rfl rfl,hq 1 r y rfl rfl⟩

theorem Zvc:pg.underlying Zkj=some (.slice Zcx):=by kernel_rfl
theorem Ycr:pg.cellsOf Zcx=1:=by kernel_rfl
theorem Ybr:pg.okElem Zcx=true:=by kernel_rfl
theorem Ybn:pg.bytesOf Zcx≤127:=Nat.le_of_ble_eq_true (by kernel_rfl)

theorem Yjr {g:Nat} (hg:g < 2):sub [40,44] (g:Int) (IntKind.wrap .i64 ((g:Int) + 1))=[Zqy g]:=by
 rcases g with _ | _ | g
 ·rfl
 ·rfl
 ·omega
theorem Zof (c:Nat) (s:List Nat):([c]:List Nat).isPrefixOf s=true ↔ ∃ r,s=c :: r:=by
 cases s with
 | nil=>exact ⟨fun h=>(by cases h),fun ⟨r,h⟩=>(by cases h)⟩
 | cons d r=>
  have:([c]:List Nat).isPrefixOf (d :: r)=(c == d):=by show (c == d && _)=_; exact Bool.and_true _
  rw [this,beq_iff_eq]
  exact ⟨fun h=>⟨r,by rw [h]⟩,fun ⟨r',h⟩=>(by cases h; rfl)⟩
def Btw (lo hi:Nat):Nat→Prop:=fun i=>lo≤i∧i < hi
set_option maxRecDepth 20000 in
theorem Zsu:∀ (N:Nat) (s:List Nat),s.length≤N→∀ h:Zaa,Zad pg Zgj [.str s] h fun v h'=>Zbb h.length h h'∧∃ p r,v=.tup [.ptr p,.str r] ∧
  ((∃ t,Zga s t r∧Zpm (Btw h.length h'.length) h' t p) ∨ (p=none∧∀ t r',¬ Zga s t r')):=by
 intro N
 induction N with
 | zero=>
  intro s hs h
  have:s=[]:=List.eq_nil_of_length_eq_zero (by omega)
  subst this
  apply Zdq.call
  simp
  exact ⟨Zbb.refl _ _,none,[],⟨rfl,rfl⟩,.inr ⟨rfl,fun t r'=>Zga.nil⟩⟩
 | succ N ih=>
  intro s hs h
  apply Zdq.call
  match s,hs with
  | [],_=>simp; exact ⟨Zbb.refl _ _,none,[],⟨rfl,rfl⟩,.inr ⟨rfl,fun t r'=>Zga.nil⟩⟩
  | c :: s,hs=>
  simp only [List.length_cons] at hs
  simp only [reduceCtorEq,decide_false,Zay]
  refine ⟨⟨by omega,by omega,by simp; omega⟩,?_⟩
  rw [Ykk]
  refine (Yce [c]).mono ?_
  rintro v h1 ⟨rfl,rfl⟩
  simp only [Zal,arS]
  refine Zaj (fun hneg=>?_) (fun hge=>?_)
  ·refine ⟨Zbb.refl _ _,_,_,rfl,.inr ⟨rfl,?_⟩⟩
   rintro t r' ⟨ht,he⟩
   have:=Ty.ok_ar ht
   obtain ⟨r,hr⟩:=t.txt_cons
   rw [hr] at he; simp at he
   rw [← he.1] at this; omega
  ·apply Zdq.J3i
   refine ⟨⟨by omega,by omega,by simp; omega⟩,?_⟩
   simp only [Zba]
   refine ⟨⟨by omega,by simp; omega,by simp⟩,?_⟩
   rw [Ykk,Ykr]
   have hc0:Zaf (h1 ++ [Zcp.cells Zbs [.str [c],.slice none 0 0 true,.ptr none] false]) (.ptr (some (h1.length,0 + 0)))=some (.str [c]):=by simp [Zaf]
   rw [hc0]
   simp only [Zap]
   refine (Yce [c]).mono ?_
   rintro v h2 ⟨rfl,rfl⟩
   simp only [Zal,arS]
   obtain ⟨m,hm⟩:∃ m:Nat,arN c=m:=⟨(arN c).toNat,by omega⟩
   have hm2 : m ≤ 2 := by unfold arN at hm; split at hm <;> try split at hm
                          all_goals try split at hm
                          all_goals omega
   rw [hm]
   refine Zdq.L6ind _ _ _ _ (J:=fun (g:Nat) x0 x28 h'=>x28=(g:Int)∧g≤m∧Zbb h1.length h1 h'∧h1.length < h'.length∧x0.length≤N∧∃ (ps:List Ty) (qs:List Pt) (a:Pt) (cp:Nat) (e:Bool),ps.length=g∧qs.length=g∧(∀ p∈ps,p.ok=true)∧s=Zxc ps ++ x0 ∧
    h'[h1.length]?=some (.cells Zbs [.str [c],.slice a g cp e,.ptr none] false)∧Vec Zcx h' a g cp (qs.map .ptr)∧(∀ j,a=some (j,0)→h1.length < j) ∧
    ∀ (k:Nat) (q:Pt) (x:Ty),qs[k]?=some q→ps[k]?=some x→∃ lo hi,h1.length < lo∧hi≤h'.length∧(∀ j,a=some (j,0)→¬ Btw lo hi j)∧Zpm (Btw lo hi) h' x q)
    (fun g=>m - g) ?_ 0 _ _ _ ⟨rfl,by omega,Zbb.app (Nat.le_refl _) _,by simp,by omega,[],[],none,0,true,rfl,rfl,by simp,by simp [Zxc],by simp,Vec.mk0,by simp,by simp⟩
   rintro g x0 x28 h' ⟨rfl,hg,hS,hlt1,hx0,ps,qs,a,cp,e,hps,hqs,hok,hs0,hnode,hvec,ha,hrep⟩ R hR
   unfold Zdq.L6t
   have fail:∀ (h2:Zaa),Zbb h'.length h' h2→(∀ t r',¬ Zga (c :: s) t r')→Zbb h1.length h1 h2∧∃ p r,(Zag.tup [.ptr none,.str x0])=.tup [.ptr p,.str r] ∧
     ((∃ t,Zga (c :: s) t r∧Zpm (Btw h1.length h2.length) h2 t p) ∨ (p=none∧∀ t r',¬ Zga (c :: s) t r')):=
    fun h2 s2 hno=>⟨hS.trans (s2.mono hS.le),none,x0,rfl,.inr ⟨rfl,hno⟩⟩
   have step:∀ t r',Zga (c :: s) t r'→t.hd=c∧t.ps.length=m∧ps=t.ps.take ps.length∧(ps.length < t.ps.length→∃ p s',x0=Zqy ps.length :: s'∧∃ r',Zga s' p r')∧(ps.length=t.ps.length→x0=(if t.ps=[] then r' else 41 :: r')):=by
    intro t r' ho
    have h1:=Ty.ok_ar ho.1
    have hhd:t.hd=c:=by
     obtain ⟨r,hr⟩:=t.txt_cons
     have:=ho.2; rw [hr] at this; simp at this; exact this.1.symm
    rw [hhd,hm] at h1
    rw [hs0] at ho
    have:=ho.step hok (by omega)
    exact ⟨hhd,by omega,this.2⟩
   refine Zaj (fun hlt=>?_) (fun hge2=>?_)
   ·have hlt':g < m:=by omega
    refine ⟨⟨by omega,?_,?_⟩,?_⟩
    ·rw [IntWalk.i64_in _ (by omega)]; omega
    ·rw [IntWalk.i64_in _ (by omega)]; simp; omega
    rw [Yjr (by omega)]
    refine Zqc.mono ?_
    rintro v h2 ⟨rfl,rfl⟩
    simp only [Zah]
    cases hp:([Zqy g]:List Nat).isPrefixOf x0 with
    | false=>
     simp only [Bool.not_false,Zcs]
     refine fail _ (Zbb.refl _ _) fun t r' ho=>?_
     obtain ⟨_,hl,_,hst,_⟩:=step t r' ho
     obtain ⟨p,s',hx,_⟩:=hst (by omega)
     rw [hps] at hx
     have:([Zqy g]:List Nat).isPrefixOf x0=true:=(Zof _ _).2 ⟨_,hx⟩
     rw [hp] at this; cases this
    | true=>
     obtain ⟨s',hx⟩:=(Zof _ _).1 hp
     simp only [Bool.not_true,Zay]
     refine ⟨⟨by omega,by rw [hx]; simp; omega,by omega⟩,?_⟩
     rw [Ygb hx]
     have hsl:s'.length≤N:=by rw [hx] at hx0; simp at hx0; omega
     refine (ih s' hsl h2).mono ?_
     rintro v h3 ⟨hS3,p,r,rfl,hres⟩
     simp only [Zdw,Zak,Zdj,Zap,Zar]
     rcases hres with ⟨t,ho,hn⟩ | ⟨rfl,hno⟩
     ·obtain ⟨i,rfl,hbi,hil⟩:=hn.lt
      simp only [Option.isNone_some,Zay]
      have hn3:h3[h1.length]?=some (.cells Zbs [.str [c],.slice a g cp e,.ptr none] false):=by rw [hS3.eq _ hlt1]; exact hnode
      have hcell:Zaf h3 (.ptr (some (h1.length,0 + 1)))=some (.slice a g cp e):=by simp [Zaf,hn3]
      rw [hcell]
      simp only [Zai,Zba]
      refine (hvec.same hS3).push Zvc Ycr Ybr Ybn (by simp [hqs]) rfl (by omega) (fun h4 hl4 hi4 hk4=>?_)
      simp only [Zai]
      have hn4:h4[h1.length]?=some (.cells Zbs [.str [c],.slice a g cp e,.ptr none] false):=by
       rw [hk4 _ (Own.lt hn3) fun i hi=>by have:=ha i hi; omega]; exact hn3
      have hst:Zbd h4 (.ptr (some (h1.length,0 + 1))) [.slice (some (h3.length + 1,0)) (g + 1) (g + 1) false]=some (h4.set h1.length (.cells Zbs [.str [c],.slice (some (h3.length + 1,0)) (g + 1) (g + 1) false,.ptr none] false)):=by
       simp [Zbd,hn4,Zbm]
      rw [hst]
      simp only [Zaq]
      rw [IntWalk.i64_in _ (by omega)]
      have hle3:=hS3.le
      have hset:∀ j,j≠h1.length→(h4.set h1.length (Zcp.cells Zbs [.str [c],.slice (some (h3.length + 1,0)) (g + 1) (g + 1) false,.ptr none] false))[j]?=h4[j]?:=fun j hj=>List.getElem?_set_ne (by omega)
      have hsame:∀ j,j < h1.length→h4[j]?=h1[j]?:=fun j hj=>by
       rw [hk4 j (by omega) fun i hi=>by have:=ha i hi; omega,hS3.eq j (by omega),hS.eq j hj]
      refine hR (g + 1) _ _ _ (by omega) ⟨by omega,by omega,⟨by simp; omega,fun j hj=>by rw [hset j (by omega)]; exact hsame j hj⟩,by simp; omega,?_,ps ++ [t],qs ++ [some (i,0)],some (h3.length + 1,0),g + 1,false,by simp [hps],by simp [hqs],?_,?_,?_,?_,?_,?_⟩
      ·have:=ho.2; have hl:=congrArg List.length this; simp at hl; omega
      ·intro p hp
       rcases List.mem_append.1 hp with hp | hp
       ·exact hok p hp
       ·simp at hp; subst hp; exact ho.1
      ·rw [hs0,hx,ho.2]
       match ps,hps,hlt' with
       | [],hps,_=>subst hps; simp [Zxc,Zqy]
       | [x],hps,_=>subst hps; simp [Zxc,Zqy]
       | x :: y :: l,hps,_=>simp at hps; omega
      ·rw [List.getElem?_set_self (by omega)]
      ·refine Vec.mk1 ?_
       rw [hset _ (by omega)]
       simpa using hi4
      ·intro j hj; cases hj; omega
      ·intro k q x hq hx'
       by_cases hkg:k < g
       ·rw [List.getElem?_append_left (by omega)] at hq hx'
        obtain ⟨lo,hi,hlo,hhi,hbt,hnr⟩:=hrep k q x hq hx'
        refine ⟨lo,hi,hlo,by simp; omega,fun j hj hb=>by cases hj; have:=hb.2; omega,hnr.agree fun j hb=>?_⟩
        have:=hb.1; have:=hb.2
        rw [hset j (by omega),hk4 j (by omega) fun i hi=>fun e=>hbt i hi (e ▸ hb),hS3.eq j (by omega)]
       ·have hkg':k=g:=by
         have:=(List.getElem?_eq_some_iff.1 hq).1; simp at this; omega
        subst hkg'
        rw [List.getElem?_append_right (by omega)] at hq hx'
        simp [hps,hqs] at hq hx'
        subst hq; subst hx'
        refine ⟨h2.length,h3.length,by omega,by simp; omega,fun j hj hb=>by cases hj; have:=hb.2; omega,hn.agree fun j hb=>?_⟩
        have:=hb.1; have:=hb.2
        rw [hset j (by omega),hk4 j (by omega) fun i hi=>fun e=>by
         subst e
         rw [hi] at hvec
         have:=hvec.lt
         omega]
     ·simp only [Option.isNone_none,Zcs]
      refine fail _ hS3 fun t r' ho=>?_
      obtain ⟨_,hl,_,hst,_⟩:=step t r' ho
      obtain ⟨p,s2,hx2,r2,ho2⟩:=hst (by omega)
      rw [hps,hx] at hx2
      simp at hx2
      rw [← hx2] at ho2
      exact hno _ _ ho2
   ·have hgm:g=m:=by omega
    subst hgm
    apply Zdq.A6x0i
    have hcell:Zaf h' (.ptr (some (h1.length,0 + 1)))=some (.slice a g cp e):=by simp [Zaf,hnode]
    rw [hcell]
    simp only [Zai]
    have mk:∀ t r',Zga (c :: s) t r'→Zpm (Btw h1.length h'.length) h' t (some (h1.length,0)):=by
     intro t r' ho
     obtain ⟨hhd,hl,htk,_⟩:=step t r' ho
     rw [hps,← hl,List.take_length] at htk
     refine Zpm.make (S:=Btw h1.length h'.length) (a:=a) (n:=g) (c:=cp) (e:=e) (qs:=qs) ⟨Nat.le_refl _,hlt1⟩ (by rw [hhd]; exact hnode) (by omega) hvec hqs (fun j hj=>⟨by have:=ha j hj; omega,by subst hj; exact hvec.lt⟩) fun k q x hq hx=>?_
     rw [← htk] at hx
     obtain ⟨lo,hi,hlo,hhi,hbt,hnr⟩:=hrep k q x hq hx
     exact hnr.mono fun i hb=>⟨by have:=hb.1; omega,by have:=hb.2; omega⟩
    -- the type that was read
    have hty:∃ t:Ty,t.ok=true∧t.hd=c∧t.ps=ps:=by
     match ps,hps,hok with
     | [],hps,_=>
      have h0:arN c=0:=by simp at hps; omega
      refine ⟨.k c,?_,rfl,rfl⟩
      simp only [Ty.ok]
      cases hl:Zfi c with
      | true=>rfl
      | false => unfold arN at h0; rw [hl] at h0; simp at h0; split at h0 <;> try split at h0
                 all_goals omega
     | [x],hps,hok=>
      have h0:arN c=1:=by simp at hps; omega
      refine ⟨.u c x,?_,rfl,rfl⟩
      simp only [Ty.ok,hok x (by simp),Bool.and_true,Bool.or_eq_true,beq_iff_eq]
      unfold arN at h0; split at h0
      ·omega
      ·split at h0
       ·rename_i h; simpa using h
       ·split at h0 <;> omega
     | [x,y],hps,hok=>
      have h0:arN c=2:=by simp at hps; omega
      refine ⟨.w c x y,?_,rfl,rfl⟩
      simp only [Ty.ok,hok x (by simp),hok y (by simp),Bool.and_true,beq_iff_eq]
      unfold arN at h0; split at h0
      ·omega
      ·split at h0
       ·omega
       ·split at h0
        ·rename_i h; simpa using h
        ·omega
     | _ :: _ :: _ :: _,hps,_=>simp at hps; omega
    obtain ⟨t,htok,hthd,htps⟩:=hty
    refine Zaj (fun hpos=>?_) (fun hz=>?_)
    ·refine Zqc.mono ?_
     rintro v h2 ⟨rfl,rfl⟩
     simp only [Zah]
     have hne:ps≠[]:=by intro e; subst e; simp at hps; omega
     cases hp:([41]:List Nat).isPrefixOf x0 with
     | false=>
      simp only [Bool.not_false,Zcs]
      refine fail _ (Zbb.refl _ _) fun t r' ho=>?_
      obtain ⟨_,hl,htk,_,hst⟩:=step t r' ho
      have:=hst (by omega)
      have hne:t.ps≠[]:=by intro e; rw [e] at hl; simp at hl; omega
      rw [if_neg hne] at this
      have:([41]:List Nat).isPrefixOf x0=true:=(Zof _ _).2 ⟨_,this⟩
      rw [hp] at this; cases this
     | true=>
      obtain ⟨s',hx⟩:=(Zof _ _).1 hp
      simp only [Bool.not_true,Zay]
      refine ⟨⟨by omega,by rw [hx]; simp; omega,by omega⟩,?_⟩
      rw [Ygb hx]
      apply Zdq.J20i
      have ho:Zga (c :: s) t s':=by
       refine ⟨htok,?_⟩
       rw [hs0,hx]
       cases t with
       | k d=>simp [Ty.ps] at htps; subst htps; exact absurd rfl hne
       | u d x=>simp [Ty.ps] at htps; subst htps; simp [Ty.hd] at hthd; subst hthd; simp [Zxc,Ty.txt]
       | w d x y=>simp [Ty.ps] at htps; subst htps; simp [Ty.hd] at hthd; subst hthd; simp [Zxc,Ty.txt]
      exact ⟨hS,_,_,rfl,.inl ⟨t,ho,mk _ _ ho⟩⟩
    ·apply Zdq.J20i
     have h0:ps=[]:=List.eq_nil_of_length_eq_zero (by omega)
     subst h0
     have ho:Zga (c :: s) t x0:=by
      refine ⟨htok,?_⟩
      rw [hs0]
      cases t with
      | k d=>simp [Ty.hd] at hthd; subst hthd; simp [Zxc,Ty.txt]
      | u d x=>simp [Ty.ps] at htps
      | w d x y=>simp [Ty.ps] at htps
     exact ⟨hS,_,_,rfl,.inl ⟨t,ho,mk _ _ ho⟩⟩

theorem Yfw (s:List Nat) (h:Zaa):Zad pg Zmk [.str s] h fun v h'=>Zbb h.length h h'∧∃ p,v=.ptr p∧(match Zjb s with | some t=>Zpm (Btw h.length h'.length) h' t p | none=>p=none):=by
 apply Zpt.call
 refine Zaj (fun hl=>?_) (fun hl=>?_)
 ·have:Zjb s=none:=by unfold Zjb; rw [if_neg (by omega)]
  rw [this]
  exact ⟨Zbb.refl _ _,none,rfl,rfl⟩
 ·refine (Zsu s.length s (Nat.le_refl _) h).mono ?_
  rintro v h1 ⟨hS,p,r,rfl,hres⟩
  simp only [Zdw,Zak,Zdj,Zap,Zar]
  have hof:Zjb s=Ztt s:=by unfold Zjb; rw [if_pos (by omega)]
  rw [hof]
  rcases hres with ⟨t,ho,hn⟩ | ⟨rfl,hno⟩
  ·by_cases hr:r=[]
   ·subst hr
    have:Ztt s=some t:=Zrc.2 ⟨ho.1,by simpa using ho.2⟩
    simp [this]; exact ⟨hS,hn⟩
   ·have:Ztt s=none:=Zod.2 fun t' ht' e=>by
     have:=Zga.unique ho ⟨ht',show s=t'.txt ++ [] by simpa using e⟩
     exact hr this.2
    simp [hr,this]; exact hS
  ·have:Ztt s=none:=Zod.2 fun t' ht' e=>hno t' [] ⟨ht',by simpa using e⟩
   rw [this]
   by_cases hr:r=[]
   ·simp [hr]; exact hS
   ·simp [hr]; exact hS
theorem Zky (s:List Nat) (h:Zaa):Zad pg Zem [.str s] h fun v h'=>v=.bool (Zos s)∧Zbb h.length h h':=by
 apply Znc.call
 refine (Yfw s h).mono ?_
 rintro v h1 ⟨hS,p,rfl,hp⟩
 simp only [Zdj]
 unfold Zos
 cases ho:Zjb s with
 | none=>rw [ho] at hp; subst hp; simp; exact hS
 | some t=>rw [ho] at hp; obtain ⟨i,rfl,_⟩:=hp.lt; simp; exact hS
end Go.Sim

set_option linter.unusedVariables false
set_option linter.unusedSimpArgs false
set_option maxRecDepth 20000
namespace Go.Sim
open Go Go.RowKit

theorem Yln {s:List Nat} {c g:Nat} (h:s[g]?=some c) (hn:c ∉ s.take g):Zno s c=g:=by
 induction s generalizing g with
 | nil=>simp at h
 | cons b s ih=>
  cases g with
  | zero=>simp at h; subst h; simp [Zno]
  | succ g=>
   simp at h hn
   have:=ih h hn.2
   have hb:¬ b=c:=fun e=>hn.1 e.symm
   simp only [Zno,beq_iff_eq,hb,if_false,this]
   rw [if_neg (by omega)]; omega
theorem Zqq {s:List Nat} {c:Nat} (hn:c ∉ s):Zno s c=-1:=by
 have:=(Yij s c).2 hn; have:=Yga s c; omega
theorem Ycj {s:List Nat} {g:Nat} (h:g < s.length):s.getD g 0=s[g]:=by simp [List.getD,h]
theorem Zvu {h:Zaa} (s:List Nat) (c:Nat) (hs:s.length≤9223372036854775807):Zad pg Zfq [.str s,.int .u8 (c:Int)] h fun v h'=>v=.int .i64 (Zno s c)∧h'=h:=by
 apply Zhh.call
 refine Zhh.L2ind _ _ _ (J:=fun (g:Nat) x5 h'=>x5=(g:Int)∧h'=h∧g≤s.length∧c ∉ s.take g) (fun g=>s.length - g) ?_ 0 _ _ ⟨rfl,rfl,by omega,by simp⟩
 rintro g x5 h' ⟨rfl,rfl,hg,hn⟩ R hR
 unfold Zhh.L2t
 refine Zaj (fun hlt=>?_) (fun hge=>?_)
 ·have hlt':g < s.length:=by omega
  refine ⟨⟨by omega,by omega⟩,?_⟩
  rw [Int.toNat_natCast,Ycj hlt']
  refine Zek (fun he=>?_) (fun he=>?_)
  ·exact ⟨by rw [Yln (g:=g) (by rw [List.getElem?_eq_getElem hlt',Int.ofNat.inj he]) hn],rfl⟩
  ·rw [IntWalk.i64_in _ (by omega)]
   refine hR (g + 1) _ _ (by omega) ⟨by omega,rfl,by omega,?_⟩
   rw [List.take_succ_eq_append_getElem hlt']
   simp only [List.mem_append,List.mem_singleton,not_or]
   exact ⟨hn,fun e=>he (by rw [e])⟩
 ·have:g=s.length:=by omega
  subst this
  rw [List.take_length] at hn
  apply Zhh.A2x0i
  rw [Zqq hn]; exact ⟨rfl,rfl⟩
theorem Yom (c:Nat):(if Zno [105,98,117,108,109,112,120,121,122,88,89,90] c < 0 then (-1:Int) else if Zno [105,98,117,108,109,112,120,121,122,88,89,90] c=3 then 1 else if Zno [105,98,117,108,109,112,120,121,122,88,89,90] c=4 then 1 else if Zno [105,98,117,108,109,112,120,121,122,88,89,90] c=5 then 2 else 0)=arN c:=by
 by_cases h:c∈[105,98,117,108,109,112,120,121,122,88,89,90]
 ·simp at h
  rcases h with rfl | rfl | rfl | rfl | rfl | rfl | rfl | rfl | rfl | rfl | rfl | rfl <;> rfl
 ·rw [Zqq h]
  simp at h
  simp [arN,Zfi,Zbc,h]
theorem Ykv (c:Nat):decide (Zno [105,98,117,108,109,112,120,121,122,88,89,90] c ≥ 6)=Zbc c:=by
 by_cases h:c∈[105,98,117,108,109,112,120,121,122,88,89,90]
 ·simp at h
  rcases h with rfl | rfl | rfl | rfl | rfl | rfl | rfl | rfl | rfl | rfl | rfl | rfl <;> rfl
 ·rw [Zqq h]
  simp at h
  simp [Zbc,h]
theorem Yek {h:Zaa} (c:Nat):Zad pg Ziz [.int .u8 (c:Int)] h fun v h'=>v=.int .i64 (arN c)∧h'=h:=by
 apply Zln.call
 refine (Zvu _ c (by simp)).mono ?_
 rintro v h1 ⟨rfl,rfl⟩
 simp only [Zal]
 rw [← Yom c]
 generalize Zno [105,98,117,108,109,112,120,121,122,88,89,90] c=k
 refine Zaj (fun hk=>?_) (fun hk=>?_)
 ·rw [if_pos hk]; exact ⟨rfl,by trivial⟩
 ·rw [if_neg hk]
  refine Zek (fun h3=>?_) (fun h3=>?_)
  ·rw [if_pos h3]; exact ⟨rfl,by trivial⟩
  ·rw [if_neg h3]
   refine Zek (fun h4=>?_) (fun h4=>?_)
   ·rw [if_pos h4]; exact ⟨rfl,by trivial⟩
   ·rw [if_neg h4]
    refine Zek (fun h5=>?_) (fun h5=>?_)
    ·rw [if_pos h5]; exact ⟨rfl,by trivial⟩
    ·rw [if_neg h5]; apply Zln.J8i; exact ⟨rfl,by trivial⟩

def rdr (s:List Nat) (k:Nat) (b:Bool):Zcp:=.cells Zct [.str s,.int .i64 (k:Int),.bool b] false
theorem Yhb {s:List Nat} {k:Nat} (h:k < s.length):s.drop k=s[k] :: s.drop (k + 1):=List.drop_eq_getElem_cons h
theorem Yae {h:Zaa} {i:Nat} {s:List Nat} {k:Nat} {b:Bool} (hi:h[i]?=some (rdr s k b)) (hk:k≤s.length) (hs:s.length≤9223372036854775807):Zad pg Zeg [.ptr (some (i,0))] h fun v h'=>
  (∃ c:Nat,s.drop k=c :: s.drop (k + 1)∧k < s.length∧v=.int .u8 (c:Int)∧h'=h.set i (rdr s (k + 1) b)) ∨ (s.drop k=[]∧v=.int .u8 0∧h'=h.set i (rdr s k true)):=by
 unfold rdr at hi
 apply Zjl.call
 simp only [Zau,Zan hi,Nat.zero_add,List.getElem?_cons_zero,List.getElem?_cons_succ,Zal,Zap]
 refine ⟨by trivial,Zaj (fun hge=>?_) (fun hl=>?_)⟩
 ·rw [Zbk hi (by simp)]
  exact .inr ⟨List.drop_eq_nil_of_le (by omega),by trivial,rfl⟩
 ·have hl':k < s.length:=by omega
  rw [Zbk hi (by simp)]
  simp only [Zaq,Zan (Zcc hi)]
  rw [IntWalk.i64_in _ (by omega)]
  simp only [Zbm,List.take_succ_cons,List.take_zero,List.length_cons,List.length_nil,List.cons_append,List.nil_append,List.drop_succ_cons,List.drop_zero,List.getElem?_cons_zero,List.getElem?_cons_succ,Zal,Zap]
  rw [IntWalk.i64_in _ (by omega)]
  refine ⟨by trivial,⟨by omega,by omega⟩,.inl ⟨s[k],Yhb hl',hl',?_,?_⟩⟩
  ·have:((k:Int) + 1 - 1).toNat=k:=by omega
   rw [this,Ycj hl']
  ·simp [rdr]
def Zei (S:Nat→Prop) (h:Zaa):Ty→List Zag→Prop
 | .k d,v=>∃ a c e,v=[.int .u8 (d:Int),.slice a 0 c e]
 | .u d x,v=>∃ j c e r,v=[.int .u8 (d:Int),.slice (some (j,0)) 1 c e]∧S j∧h[j]?=some (.cells Zab r false)∧Zei S h x r
 | .w d x y,v=>∃ j c e r r',v=[.int .u8 (d:Int),.slice (some (j,0)) 2 c e]∧S j∧h[j]?=some (.cells Zab (r ++ r') false)∧Zei S h x r∧Zei S h y r'
theorem Zei.mono {S S':Nat→Prop} {h:Zaa} (hs:∀ i,S i→S' i):∀ {t:Ty} {v:List Zag},Zei S h t v→Zei S' h t v
 | .k d,_,h=>h
 | .u d x,_,⟨j,c,e,r,hv,sj,hj,hr⟩=>⟨j,c,e,r,hv,hs _ sj,hj,hr.mono hs⟩
 | .w d x y,_,⟨j,c,e,r,r',hv,sj,hj,hr,hr'⟩=>⟨j,c,e,r,r',hv,hs _ sj,hj,hr.mono hs,hr'.mono hs⟩
theorem Zei.agree {S:Nat→Prop} {h h':Zaa} (hh:∀ i,S i→h'[i]?=h[i]?):∀ {t:Ty} {v:List Zag},Zei S h t v→Zei S h' t v
 | .k d,_,h=>h
 | .u d x,_,⟨j,c,e,r,hv,sj,hj,hr⟩=>⟨j,c,e,r,hv,sj,by rw [hh j sj]; exact hj,hr.agree hh⟩
 | .w d x y,_,⟨j,c,e,r,r',hv,sj,hj,hr,hr'⟩=>⟨j,c,e,r,r',hv,sj,by rw [hh j sj]; exact hj,hr.agree hh,hr'.agree hh⟩
theorem Zei.shape {S:Nat→Prop} {h:Zaa} {t:Ty} {v:List Zag} (r:Zei S h t v):∃ a c e,v=[.int .u8 (t.hd:Int),.slice a t.ps.length c e]:=by
 cases t with
 | k d=>exact r
 | u d x=>obtain ⟨j,c,e,r,hv,_⟩:=r; exact ⟨_,c,e,hv⟩
 | w d x y=>obtain ⟨j,c,e,r,r',hv,_⟩:=r; exact ⟨_,c,e,hv⟩
theorem Zei.len {S:Nat→Prop} {h:Zaa} {t:Ty} {v:List Zag} (r:Zei S h t v):v.length=2:=by obtain ⟨a,c,e,rfl⟩:=r.shape; rfl
theorem Zei.leaf {S:Nat→Prop} {h:Zaa} {t:Ty} {v:List Zag} (r:Zei S h t v):v.all Zag.leaf=true:=by obtain ⟨a,c,e,rfl⟩:=r.shape; rfl
theorem Zei.parts {S:Nat→Prop} {h:Zaa} {t:Ty} {v:List Zag} (r:Zei S h t v):∃ a c e,∃ vs:List (List Zag),v=[.int .u8 (t.hd:Int),.slice a t.ps.length c e]∧Row h.length h a (t.ps.length * 2) vs.flatten ∧
  (∀ j o,t.ps.length≠0→a=some (j,o)→S j)∧vs.length=t.ps.length∧∀ (k:Nat) (w:List Zag) (x:Ty),vs[k]?=some w→t.ps[k]?=some x→Zei S h x w:=by
 cases t with
 | k d=>obtain ⟨a,c,e,rfl⟩:=r; exact ⟨a,c,e,[],rfl,Row.nil,fun _ _ h=>absurd rfl h,rfl,by simp⟩
 | u d x=>
  obtain ⟨j,c,e,r,rfl,sj,hj,hr⟩:=r
  have hl:=hr.len
  refine ⟨_,c,e,[r],rfl,⟨by simp [Ty.ps,hl],.inr ⟨j,0,_,_,_,rfl,Own.lt hj,hj,by simp [Ty.ps,hl],by simp [Ty.ps]; rw [List.take_of_length_le (by omega)]⟩⟩,fun j' o' _ e=>by cases e; exact sj,rfl,?_⟩
  intro k w x' h1 h2
  cases k with
  | zero=>simp [Ty.ps] at h1 h2; subst h1; subst h2; exact hr
  | succ k=>simp at h1
 | w d x y=>
  obtain ⟨j,c,e,r,r',rfl,sj,hj,hr,hr'⟩:=r
  have hl:=hr.len
  have hl':=hr'.len
  refine ⟨_,c,e,[r,r'],rfl,⟨by simp [Ty.ps,hl,hl'],.inr ⟨j,0,_,_,_,rfl,Own.lt hj,hj,by simp [Ty.ps,hl,hl'],by simp [Ty.ps]; rw [List.take_of_length_le (by simp; omega)]⟩⟩,fun j' o' _ e=>by cases e; exact sj,rfl,?_⟩
  intro k w x' h1 h2
  match k with
  | 0=>simp [Ty.ps] at h1 h2; subst h1; subst h2; exact hr
  | 1=>simp [Ty.ps] at h1 h2; subst h1; subst h2; exact hr'
  | k + 2=>simp at h1
theorem Zei.make {S:Nat→Prop} {h:Zaa} {t:Ty} {j n c:Nat} {e:Bool} {vs:List (List Zag)} (hn:n=t.ps.length) (sj:S j) (hj:h[j]?=some (.cells Zab vs.flatten false)) (hl:vs.length=n)
  (hq:∀ (k:Nat) (w:List Zag) (x:Ty),vs[k]?=some w→t.ps[k]?=some x→Zei S h x w):Zei S h t [.int .u8 (t.hd:Int),.slice (some (j,0)) n c e]:=by
 subst hn
 cases t with
 | k d=>exact ⟨_,c,e,rfl⟩
 | u d x=>
  match vs,hl with
  | [r],_=>exact ⟨j,c,e,r,rfl,sj,by simpa using hj,hq 0 r x rfl rfl⟩
 | w d x y=>
  match vs,hl with
  | [r,r'],_=>exact ⟨j,c,e,r,r',rfl,sj,by simpa using hj,hq 0 r x rfl rfl,hq 1 r' y rfl rfl⟩

theorem Yel:pg.underlying Zgg=some (.slice Zab):=by kernel_rfl
theorem Yjk:pg.cellsOf Zab=2:=by kernel_rfl
theorem Yjl:pg.okElem Zab=true:=by kernel_rfl
theorem Yjj:pg.bytesOf Zab≤127:=Nat.le_of_ble_eq_true (by kernel_rfl)
theorem Yfb (vs:List (List Zag)) (r:List Zag):(vs ++ [r]).flatten=vs.flatten ++ r:=by simp
theorem Yio {vs:List (List Zag)} (h:∀ v∈vs,v.length=2):vs.flatten.length=vs.length * 2:=by
 induction vs with
 | nil=>rfl
 | cons v vs ih=>rw [List.flatten_cons,List.length_append,h v (by simp),ih fun w hw=>h w (by simp [hw]),List.length_cons]; omega
theorem Ypg {c:Nat} {ps:List Ty} (hok:∀ p∈ps,p.ok=true) (ha:arN c=ps.length):∃ t:Ty,t.ok=true∧t.hd=c∧t.ps=ps:=by
 match ps,ha,hok with
 | [],h0,_=>
  refine ⟨.k c,?_,rfl,rfl⟩
  simp only [Ty.ok]
  cases hl:Zfi c with
  | true=>rfl
  | false => unfold arN at h0; rw [hl] at h0; simp at h0; split at h0 <;> try split at h0
             all_goals omega
 | [x],h0,hok=>
  refine ⟨.u c x,?_,rfl,rfl⟩
  simp only [Ty.ok,hok x (by simp),Bool.and_true,Bool.or_eq_true,beq_iff_eq]
  simp at h0
  unfold arN at h0; split at h0
  ·omega
  ·split at h0
   ·rename_i h; simpa using h
   ·split at h0 <;> omega
 | [x,y],h0,hok=>
  refine ⟨.w c x y,?_,rfl,rfl⟩
  simp only [Ty.ok,hok x (by simp),hok y (by simp),Bool.and_true,beq_iff_eq]
  simp at h0
  unfold arN at h0; split at h0
  ·omega
  ·split at h0
   ·omega
   ·split at h0
    ·rename_i h; simpa using h
    ·omega
 | _ :: _ :: _ :: r,h0,_=>
  simp at h0; unfold arN at h0; split at h0 <;> try split at h0
  all_goals try split at h0
  all_goals omega
theorem Ynd (t:Ty) (r:List Nat):t.txt ++ r=t.hd :: (Zxc t.ps ++ (if t.ps=[] then r else 41 :: r)):=by
 cases t <;> simp [Ty.txt,Ty.hd,Ty.ps,Zxc]
def Ztm (i:Nat) (s:List Nat) (k:Nat) (h:Zaa) (v:Zag) (h':Zaa):Prop:=
 Zif i h h'∧∃ (d:Nat) (a:Pt) (n c:Nat) (e:Bool) (k':Nat) (bad:Bool),v=.agg [.int .u8 (d:Int),.slice a n c e]∧h'[i]?=some (rdr s k' bad)∧k'≤s.length ∧
  ((bad=false∧∃ t,Zga (s.drop k) t (s.drop k')∧Zei (Btw h.length h'.length) h' t [.int .u8 (d:Int),.slice a n c e]) ∨ (bad=true∧∀ t r,¬ Zga (s.drop k) t r))

theorem Zsd {s:List Nat} {k i:Nat} {h h':Zaa} {k1 c i2 i3 n cp:Nat} {bad e:Bool} {a:Pt} {x y:Zag} (hil:i < h.length) (hK:Zif i h h') (hgi:h'[i]?=some (rdr s k1 bad)) (hk1:k1≤s.length)
  (hi2:h'[i2]?=some (.cells Zab [x,y] false)) (hl2:h.length≤i2) (hne:i2≠i3) (hi3:h'[i3]?=some (.cells Zab [.int .u8 (c:Int),.slice a n cp e] false))
  (hfin:(bad=false∧∃ t,Zga (s.drop k) t (s.drop k1)∧Zei (fun x=>Btw h.length h'.length x∧x≠i2) h' t [.int .u8 (c:Int),.slice a n cp e]) ∨ (bad=true∧∀ t r,¬ Zga (s.drop k) t r)) :
  Zaz.J12 (Ztm i s k h) i3 0 i2 0 h':=by
 apply Zaz.J12i
 rw [Zfv hi3 (by simp)]
 simp only [List.drop_zero,List.take_succ_cons,List.take_zero,Zas,Zak,Zal,Zai,Zar]
 rw [Zbk hi2 (by simp)]
 simp only [Zaq]
 rw [Zfv (Zcc hi2) (by simp [Zbm])]
 simp only [Zbm,List.take_zero,List.nil_append,List.length_cons,List.length_nil,List.cons_append,List.drop_succ_cons,List.drop_zero,List.drop_nil,List.append_nil,List.take_succ_cons,Zas,Zak,Zal,Zai,Zar]
 refine ⟨hK.trans' ?_,c,a,n,cp,e,k1,bad,rfl,by rw [Zbv (by omega)]; exact hgi,hk1,?_⟩
 ·exact fun j hj=>Zbv (by omega)
 ·rcases hfin with ⟨hb,t,ho,hr⟩ | hb
  ·refine .inl ⟨hb,t,ho,?_⟩
   refine Zei.mono (S:=fun x=>Btw h.length h'.length x∧x≠i2) (fun z hz=>by simpa using hz.1) (hr.agree fun z hz=>Zbv (fun e=>hz.2 e.symm))
  ·exact .inr hb
theorem Ymn {s:List Nat} (hs:s.length≤9223372036854775807) {k i:Nat} {h:Zaa} (hil:i < h.length)
  (ih:∀ k',k < k'→k'≤s.length→∀ (h:Zaa),h[i]?=some (rdr s k' false)→Zad pg Zdr [.ptr (some (i,0))] h (Ztm i s k' h))
  {g:Zaa} {c k1 i2 i3 j0:Nat} {bad:Bool} (hK:Zif i h g) (hgi:g[i]?=some (rdr s k1 bad)) (hk1:k1≤s.length) (hl2:h.length≤i2) (hl3:h.length≤i3) (hlj:h.length≤j0)
  (hne:i2≠i3) (hne2:i2≠j0) (hne3:i3≠j0) (hi2:g[i2]?=some (.cells Zab [.int .u8 0,.slice none 0 0 true] false)) (hi3:g[i3]?=some (.cells Zab [.int .u8 (c:Int),.slice (some (j0,0)) 0 0 true] false))
  (hj0:g[j0]?=some (.cells Zab [] false))
  (hcase:(bad=false∧k < k1∧s.drop k=c :: s.drop k1∧0≤arN c) ∨ (bad=true∧∀ t r,¬ Zga (s.drop k) t r)) :
  Zaz.J4 (Ztm i s k h) (some (i,0)) i2 0 i3 0 (arN c) g:=by
 apply Zaz.J4i
 have hm2 : arN c ≤ 2 := by unfold arN; split <;> try split
                            all_goals try split
                            all_goals omega
 have hi2l:=Own.lt hi2
 have hi3l:=Own.lt hi3
 refine Zaz.L5ind _ _ _ _ _ _ _ (J:=fun (q:Nat) x5 h'=>x5=(q:Int)∧∃ (bad:Bool) (k1 n cp:Nat) (e:Bool) (j:Nat),Zif i h h'∧h'[i]?=some (rdr s k1 bad)∧k1≤s.length ∧
   h'[i2]?=some (.cells Zab [.int .u8 0,.slice none 0 0 true] false)∧h'[i3]?=some (.cells Zab [.int .u8 (c:Int),.slice (some (j,0)) n cp e] false)∧h.length≤j∧i2≠j∧i3≠j∧i2 < h'.length∧i3 < h'.length ∧
   ((bad=true∧∀ t r,¬ Zga (s.drop k) t r) ∨ (bad=false∧k < k1∧n=q∧(q:Int)≤arN c∧∃ (ps:List Ty) (vs:List (List Zag)),ps.length=q∧vs.length=q∧(∀ p∈ps,p.ok=true)∧s.drop k=c :: (Zxc ps ++ s.drop k1) ∧
    h'[j]?=some (.cells Zab vs.flatten false)∧(∀ v∈vs,v.length=2)∧∀ (kk:Nat) (v:List Zag) (x:Ty),vs[kk]?=some v→ps[kk]?=some x→∃ lo hi,h.length≤lo∧i2 < lo∧i3 < lo∧hi≤h'.length∧¬ Btw lo hi j∧Zei (Btw lo hi) h' x v)))
  (fun q=>(arN c).toNat - q) ?_ 0 _ _ ⟨rfl,bad,k1,0,0,true,j0,hK,hgi,hk1,hi2,hi3,hlj,hne2,hne3,hi2l,hi3l,?_⟩
 ·rintro q x5 h' ⟨rfl,bad,k1,n,cp,e,j,hK,hgi,hk1,hi2,hi3,hlj,hn2,hn3,hl2',hl3',hst⟩ R hR
  have over:¬ (bad=false∧(q:Int) < arN c)→Zaz.A5x0 (Ztm i s k h) (arN c) (some (i,0)) i3 0 i2 0 h':=by
   intro hgo
   ·skip
    apply Zaz.A5x0i
    rcases hst with ⟨hb,hno⟩ | ⟨hb,hkk,rfl,hq,ps,vs,hps,hvs,hok,hdr,hj,hv2,hrep⟩
    ·subst hb
     have hend:=Zsd hil hK hgi hk1 hi2 hl2 hne hi3 (.inr ⟨rfl,hno⟩)
     refine Zaj (fun _=>?_) (fun _=>hend)
     unfold rdr at hgi
     simp only [Zau,Zan hgi,Nat.zero_add,List.getElem?_cons_zero,List.getElem?_cons_succ,Zah,Bool.not_true,Zay]
     exact hend
    ·subst hb
     have hqa:(n:Int)=arN c:=by have:¬ (n:Int) < arN c:=fun hlt=>hgo ⟨rfl,hlt⟩; omega
     obtain ⟨t,htok,hthd,htps⟩:=Ypg (c:=c) hok (by omega)
     have hrT:Zei (fun x=>Btw h.length h'.length x∧x≠i2) h' t [.int .u8 (c:Int),.slice (some (j,0)) n cp e]:=by
      rw [← hthd]
      refine Zei.make (vs:=vs) (by rw [htps]; exact hps.symm) ⟨⟨hlj,Own.lt hj⟩,fun e=>hn2 e.symm⟩ hj hvs fun kk v x hv hx=>?_
      rw [htps] at hx
      obtain ⟨lo,hi,h1,h2,h3,h4,h5,h6⟩:=hrep kk v x hv hx
      exact h6.mono fun z hz=>⟨⟨by have:=hz.1; omega,by have:=hz.2; omega⟩,by have:=hz.1; omega⟩
     have hno:(∀ r,s.drop k1≠(if t.ps=[] then r else 41 :: r))→∀ t' r,¬ Zga (s.drop k) t' r:=by
      intro hx t' r ho
      rw [hdr] at ho
      have h1:=Ty.ok_ar ho.1
      have hhd:t'.hd=c:=by
       obtain ⟨r',hr⟩:=t'.txt_cons
       have:=ho.2; rw [hr] at this; simp at this; exact this.1.symm
      rw [hhd] at h1
      have:=ho.step hok (by omega)
      have h3:=this.2.2.2 (by omega)
      have hemp:t'.ps=[] ↔ t.ps=[]:=by
       rw [← List.length_eq_zero_iff,← List.length_eq_zero_iff,htps]; omega
      simp only [hemp] at h3
      exact hx _ h3
     have hyes:∀ r,s.drop k1=(if t.ps=[] then r else 41 :: r)→Zga (s.drop k) t r:=by
      intro r hr
      refine ⟨htok,?_⟩
      rw [Ynd,hthd,hdr,hr,htps]
     refine Zaj (fun hpos=>?_) (fun hz=>?_)
     ·have hne0:t.ps≠[]:=by rw [htps]; intro e0; rw [e0] at hps; simp at hps; omega
      simp only [if_neg hne0] at hno hyes
      have hgi':=hgi
      unfold rdr at hgi'
      simp only [Zau,Zan hgi',Nat.zero_add,List.getElem?_cons_zero,List.getElem?_cons_succ,Zah,Bool.not_false,Zcs]
      refine (Yae hgi hk1 hs).mono ?_
      have hK2:∀ b' k2,Zif i h (h'.set i (rdr s k2 b')):=fun b' k2=>hK.trans (Zif.set _ _ _)
      have hin2:i≠i2:=by omega
      have hin3:i≠i3:=by omega
      have badEnd:∀ k2,k2≤s.length→(∀ r,s.drop k1≠41 :: r)→Zaz.J12 (Ztm i s k h) i3 0 i2 0 (h'.set i (rdr s k2 true)):=fun k2 hk2 hx=>
       Zsd hil (hK2 _ _) (Zcc hgi) hk2 (by rw [Zbv hin2]; exact hi2) hl2 hne (by rw [Zbv hin3]; exact hi3) (.inr ⟨rfl,hno hx⟩)
      rintro v h2 (⟨d,hd,hlt,rfl,rfl⟩ | ⟨hnil,rfl,rfl⟩)
      ·simp only [Zal]
       have hg2:(h'.set i (rdr s (k1 + 1) false))[i]?=some (.cells Zct [.str s,.int .i64 ((k1 + 1:Nat):Int),.bool false] false):=Zcc hgi
       refine Zfp (fun hne41=>?_) (fun he41=>?_)
       ·try simp only [Zau]
        rw [Zbk hg2 (by simp)]
        simp only [Zaq]
        have:=badEnd (k1 + 1) (by omega) (fun r hr=>by rw [hd] at hr; simp at hr; omega)
        simpa [rdr,Zbm,List.set_set] using this
       ·have hd41:d=41:=by omega
        try simp only [Zau]
        rw [Zan hg2]
        simp only [Nat.zero_add,List.getElem?_cons_zero,List.getElem?_cons_succ,Zah]
        rw [Zbk hg2 (by simp)]
        simp only [Zaq]
        have:=Zsd (bad:=false) (k1:=k1 + 1) hil (hK2 false (k1 + 1)) (Zcc hgi) (by omega) (by rw [Zbv hin2]; exact hi2) hl2 hne (by rw [Zbv hin3]; exact hi3)
         (.inl ⟨rfl,t,hyes _ (by rw [hd,hd41]),Zei.mono (fun z hz=>by simpa using hz) (hrT.agree fun z hz=>Zbv (by have:=hz.1.1; omega))⟩)
        simpa [rdr,Zbm,List.set_set] using this
      ·simp only [Zal]
       have hg2:(h'.set i (rdr s k1 true))[i]?=some (.cells Zct [.str s,.int .i64 (k1:Int),.bool true] false):=Zcc hgi
       simp only [show ((0:Int) == 41)=false from rfl,Bool.not_false,Zcs,Zau]
       rw [Zbk hg2 (by simp)]
       simp only [Zaq]
       have:=badEnd k1 hk1 (fun r hr=>by rw [hnil] at hr; cases hr)
       simpa [rdr,Zbm,List.set_set] using this
     ·have he0:t.ps=[]:=by rw [htps]; exact List.eq_nil_of_length_eq_zero (by omega)
      refine Zsd hil hK hgi hk1 hi2 hl2 hne hi3 (.inl ⟨rfl,t,hyes _ (by rw [if_pos he0]),hrT⟩)
  unfold Zaz.L5t
  have hgi':=hgi
  unfold rdr at hgi'
  refine Zaj (fun hlt=>?_) (fun hge=>over fun hx=>hge hx.2)
  simp only [Zau,Zan hgi',Nat.zero_add,List.getElem?_cons_zero,List.getElem?_cons_succ,Zah]
  refine Zck (fun hb=>?_) (fun hb=>over fun hx=>by rw [hb] at hx; cases hx.1)
  subst hb
  rcases hst with ⟨hb,_⟩ | ⟨_,hkk,rfl,hq,ps,vs,hps,hvs,hok,hdr,hj,hv2,hrep⟩
  ·cases hb
  have hin2:i≠i2:=by omega
  have hin3:i≠i3:=by omega
  have hn2':n < 2:=by omega
  have hstep:∀ t r,Zga (s.drop k) t r→∃ p s',s.drop k1=Zqy n :: s'∧∃ r',Zga s' p r':=by
   intro t r ho
   rw [hdr] at ho
   have h1:=Ty.ok_ar ho.1
   have hhd:t.hd=c:=by
    obtain ⟨r',hr⟩:=t.txt_cons
    have:=ho.2; rw [hr] at this; simp at this; exact this.1.symm
   rw [hhd] at h1
   have:=ho.step hok (by omega)
   rw [← hps]
   exact this.2.2.1 (by omega)
  apply Zaz.J7i
  refine ⟨⟨by omega,by simp; omega⟩,?_⟩
  have hmk:([40,44]:List Nat).getD ((n:Int).toNat) 0=Zqy n:=by
   rw [Int.toNat_natCast]
   rcases n with _ | _ | n
   ·rfl
   ·rfl
   ·omega
  rw [hmk]
  refine (Yae hgi hk1 hs).mono ?_
  have badGo:∀ k2,k2≤s.length→(∀ t r,¬ Zga (s.drop k) t r)→Zaz.J8 (Ztm i s k h) R (some (i,0)) i3 0 (n:Int) (arN c) i2 0 (h'.set i (rdr s k2 true)):=by
   intro k2 hk2 hno
   apply Zaz.J8i
   have hg:=Zcc (x:=rdr s k2 true) hgi
   have hg':(h'.set i (rdr s k2 true))[i]?=some (.cells Zct [.str s,.int .i64 (k2:Int),.bool true] false):=hg
   simp only [Zau]
   rw [Zan hg']
   simp only [Nat.zero_add,List.getElem?_cons_zero,List.getElem?_cons_succ,Zah,Bool.not_true,Zay]
   apply Zaz.J6i
   rw [IntWalk.i64_in _ (by omega)]
   refine hR (n + 1) _ _ (by omega) ⟨by omega,true,k2,n,cp,e,j,hK.trans (Zif.set _ _ _),hg,hk2,by rw [Zbv hin2]; exact hi2,by rw [Zbv hin3]; exact hi3,hlj,hn2,hn3,by simp; omega,by simp; omega,.inl ⟨rfl,hno⟩⟩
  rintro v h2 (⟨d,hd,hlt1,rfl,rfl⟩ | ⟨hnil,rfl,rfl⟩)
  ·simp only [Zal]
   have hg3:=Zcc (x:=rdr s (k1 + 1) false) hgi
   have hg2:(h'.set i (rdr s (k1 + 1) false))[i]?=some (.cells Zct [.str s,.int .i64 ((k1 + 1:Nat):Int),.bool false] false):=hg3
   refine Zfp (fun hne1=>?_) (fun he1=>?_)
   ·simp only [Zau]
    rw [Zbk hg2 (by simp)]
    simp only [Zaq]
    have:=badGo (k1 + 1) (by omega) (fun t r ho=>by
     obtain ⟨p,s',hx,_⟩:=hstep t r ho
     rw [hd] at hx; simp at hx; omega)
    simpa [rdr,Zbm,List.set_set] using this
   ·have hdm:d=Zqy n:=by omega
    simp only [Zau]
    rw [Zan hg2]
    simp only [Nat.zero_add,List.getElem?_cons_zero,List.getElem?_cons_succ,Zah]
    rw [Zbk hg2 (by simp)]
    simp only [Zaq]
    have hsame:(h'.set i (rdr s (k1 + 1) false)).set i (Zcp.cells Zct (Zbm [Zag.str s,Zag.int .i64 ((k1 + 1:Nat):Int),Zag.bool false] 2 [Zag.bool false]) false)=h'.set i (rdr s (k1 + 1) false):=by
     simp [rdr,Zbm,List.set_set]
    rw [hsame]
    apply Zaz.J8i
    simp only [Zau]
    rw [Zan hg2]
    simp only [Nat.zero_add,List.getElem?_cons_zero,List.getElem?_cons_succ,Zah,Bool.not_false,Zcs]
    have hi3a:(h'.set i (rdr s (k1 + 1) false))[i3]?=some (.cells Zab [.int .u8 (c:Int),.slice (some (j,0)) n cp e] false):=by rw [Zbv hin3]; exact hi3
    rw [Zan hi3a]
    simp only [List.getElem?_cons_zero,List.getElem?_cons_succ,Zai]
    refine (ih (k1 + 1) (by omega) (by omega) _ hg3).mono ?_
    rintro v h3 ⟨hK3,d3,a3,n3,c3,e3,k3,bad3,rfl,hg4,hk3,hres⟩

    have hl3:=hK3.le
    simp only [List.length_set] at hl3
    have hold3:∀ z,z < h'.length→z≠i→h3[z]?=h'[z]?:=fun z hz hzi=>by rw [hK3.eq z (by simpa using hz) hzi,Zbv (by omega)]
    have hi33:h3[i3]?=some (.cells Zab [.int .u8 (c:Int),.slice (some (j,0)) n cp e] false):=by rw [hold3 _ hl3' (by omega)]; exact hi3
    have hj3:h3[j]?=some (.cells Zab vs.flatten false):=by rw [hold3 _ (Own.lt hj) (by omega)]; exact hj
    simp only [Zcw,Zak,Zal,Zai,Zar]
    refine ⟨by rw [Zan hi33]; rfl,?_⟩
    simp only [Zba]
    refine ⟨by rw [Zan (Zkz hi33),Zan hi33],?_⟩
    refine (Vec.mk1 hj3).pushN Yel Yjk Yjl Yjj (by rw [Yio hv2,hvs]) rfl (by omega) (by simp [Zag.leaf]) (by omega) (fun h4 hl4 hi4 hk4=>?_)
    simp only [Zai]
    have hold4:∀ z,z < h3.length→z≠j→h4[z]?=h3[z]?:=fun z hz hzj=>hk4 z hz fun w hw=>by cases hw; exact hzj
    have hi34:h4[i3]?=some (.cells Zab [.int .u8 (c:Int),.slice (some (j,0)) n cp e] false):=by rw [hold4 _ (by omega) hn3]; exact hi33
    rw [Zbk hi34 (by simp)]
    simp only [Zaq]
    apply Zaz.J6i
    rw [IntWalk.i64_in _ (by omega)]
    have hiL:i < h'.length:=Own.lt hgi
    have hold5:∀ (x:Zcp) z,z≠i3→z≠j→z < h3.length→(h4.set i3 x)[z]?=h3[z]?:=fun x z h1 h2 h3=>by rw [Zbv (by omega),hold4 _ h3 h2]
    refine hR (n + 1) _ _ (by omega) ⟨by omega,bad3,k3,n + 1,n + 1,false,h3.length + 1,?_,?_,hk3,?_,?_,by omega,by omega,by omega,by simp; omega,by simp; omega,?_⟩
    ·refine ⟨by simp; have:=hK.le; omega,fun z hz hzi=>?_⟩
     have:=hK.le
     rw [hold5 _ _ (by omega) (by omega) (by omega),hold3 _ (by omega) hzi]; exact hK.eq z hz hzi
    ·rw [hold5 _ _ hin3 (by omega) (by omega)]; exact hg4
    ·rw [hold5 _ _ hne hn2 (by omega),hold3 _ hl2' (by omega)]; exact hi2
    ·rw [Zcc hi34]; simp [Zbm]
    ·rcases hres with ⟨hb3,t,ho,hr⟩ | ⟨hb3,hno⟩
     ·refine .inr ⟨hb3,?_,rfl,by omega,ps ++ [t],vs ++ [[.int .u8 (d3:Int),.slice a3 n3 c3 e3]],by simp [hps],by simp [hvs],?_,?_,?_,?_,?_⟩
      ·have:=ho.2
       have hl:=congrArg List.length this
       simp at hl; have:=t.txt_pos; omega
      ·intro p hp
       rcases List.mem_append.1 hp with hp | hp
       ·exact hok p hp
       ·simp at hp; subst hp; exact ho.1
      ·rw [hdr,hd,hdm,ho.2]
       match ps,hps,hn2' with
       | [],hps,_=>subst hps; simp [Zxc,Zqy]
       | [x],hps,_=>subst hps; simp [Zxc,Zqy]
       | x :: y :: l,hps,_=>simp at hps; omega
      ·rw [Zbv (by omega),hi4,Yfb]
      ·intro v hv
       rcases List.mem_append.1 hv with hv | hv
       ·exact hv2 v hv
       ·simp at hv; subst hv; rfl
      ·intro kk v x hv hx
       by_cases hkn:kk < n
       ·rw [List.getElem?_append_left (by omega)] at hv hx
        obtain ⟨lo,hi,h1,h2,h2',h3',h4',h5⟩:=hrep kk v x hv hx
        refine ⟨lo,hi,h1,h2,h2',by simp; omega,fun hb=>by have:=hb.2; omega,h5.agree fun z hz=>?_⟩
        have:=hz.1; have:=hz.2
        rw [hold5 _ _ (by omega) (fun e=>h4' (e ▸ hz)) (by omega),hold3 _ (by omega) (by omega)]
       ·have hk':kk=n:=by
         have:=(List.getElem?_eq_some_iff.1 hv).1; simp at this; omega
        subst hk'
        rw [List.getElem?_append_right (by omega)] at hv hx
        simp [hps,hvs] at hv hx
        subst hv; subst hx
        refine ⟨h'.length,h3.length,by have:=hK.le; omega,by omega,by omega,by simp; omega,fun hb=>by have:=hb.2; omega,?_⟩
        have hr':Zei (Btw h'.length h3.length) h3 t [.int .u8 (d3:Int),.slice a3 n3 c3 e3]:=by simpa using hr
        refine hr'.agree fun z hz=>?_
        have:=hz.1; have:=hz.2; have:=Own.lt hj
        rw [hold5 _ _ (by omega) (by omega) (by omega)]
     ·refine .inl ⟨hb3,fun t r ho=>?_⟩
      obtain ⟨p,s',hx,r',ho'⟩:=hstep t r ho
      rw [hd] at hx; simp at hx
      rw [← hx.2] at ho'
      exact hno _ _ ho'
  ·simp only [Zal]
   have hg2:(h'.set i (rdr s k1 true))[i]?=some (.cells Zct [.str s,.int .i64 (k1:Int),.bool true] false):=Zcc hgi
   refine Zfp (fun _=>?_) (fun he1=>by exfalso; unfold Zqy at he1; split at he1 <;> omega)
   simp only [Zau]
   rw [Zbk hg2 (by simp)]
   simp only [Zaq]
   have:=badGo k1 hk1 (fun t r ho=>by
    obtain ⟨p,s',hx,_⟩:=hstep t r ho
    rw [hnil] at hx; cases hx)
   simpa [rdr,Zbm,List.set_set] using this
 ·rcases hcase with ⟨hb,hkk,hdr,ha⟩ | hb
  ·exact .inr ⟨hb,hkk,rfl,by simpa using ha,[],[],rfl,rfl,by simp,by simpa [Zxc] using hdr,by simpa using hj0,by simp,by simp⟩
  ·exact .inl hb

theorem Ylm {s:List Nat} (hs:s.length≤9223372036854775807) (i:Nat):∀ (N k:Nat),s.length - k≤N→k≤s.length→∀ (h:Zaa),h[i]?=some (rdr s k false) →
  Zad pg Zdr [.ptr (some (i,0))] h (Ztm i s k h):=by
 intro N
 induction N using Nat.strongRecOn with
 | _ N ihN=>
 intro k hN hk h hi
 have hil:=Own.lt hi
 have ih:∀ k',k < k'→k'≤s.length→∀ (h:Zaa),h[i]?=some (rdr s k' false)→Zad pg Zdr [.ptr (some (i,0))] h (Ztm i s k' h):=
  fun k' h1 h2=>ihN (s.length - k') (by omega) k' (Nat.le_refl _) h2
 apply Zaz.call
 simp only [Zba]
 refine (Yae (Zkz hi) hk hs).mono ?_
 have main:∀ (c k1:Nat) (b1:Bool),k1≤s.length→((b1=false∧k < k1∧s.drop k=c :: s.drop k1) ∨ (b1=true∧arN c < 0∧s.drop k=[]))→∀ h2,h2=(h ++ [Zcp.cells Zab [.int .u8 0,.slice none 0 0 true] false]).set i (rdr s k1 b1) →
   Zcf (Zbd (h2 ++ [Zcp.cells Zab [] false] ++ [Zcp.cells Zab [.int .u8 0,.slice none 0 0 true] false]) (.ptr (some (List.length (h2 ++ [Zcp.cells Zab [] false]),0))) [.int .u8 (c:Int),.slice (some (List.length h2,0)) 0 0 true]) fun h_6=>Zco .u8 (Zaf h_6 (.ptr (some (List.length (h2 ++ [Zcp.cells Zab [] false]),0 + 0)))) fun x_7=>Zad pg Ziz [.int .u8 x_7] h_6 fun v_8 h_9=>
    Zco .i64 (some v_8) fun x_10=>Zbf (some (i,0)) fun i_11 o_12=>Zbw (Zaf h_9 (.ptr (some (i_11,o_12 + 2)))) fun b_13=>bcase b_13 (Zbf (some (i,0)) fun i_14 o_15=>Zcf (Zbd h_9 (.ptr (some (i_14,o_15 + 2))) [.bool true]) fun h_16=>Zaz.J4 (Ztm i s k h) (some (i,0)) (List.length h) 0 (List.length (h2 ++ [Zcp.cells Zab [] false])) 0 x_10 h_16) (Zbf (some (i,0)) fun i_17 o_18=>Zcf (Zbd h_9 (.ptr (some (i_17,o_18 + 2))) [.bool (decide ((x_10:Int) < 0))]) fun h_19=>Zaz.J4 (Ztm i s k h) (some (i,0)) (List.length h) 0 (List.length (h2 ++ [Zcp.cells Zab [] false])) 0 x_10 h_19):=by
  intro c k1 b1 hk1 hc h2 hh2
  have hl2:h2.length=h.length + 1:=by rw [hh2]; simp
  have hi2:h2[i]?=some (rdr s k1 b1):=by rw [hh2]; exact Zcc (Zkz hi)
  have hz2:h2[h.length]?=some (.cells Zab [.int .u8 0,.slice none 0 0 true] false):=by rw [hh2,Zbv (by omega)]; simp
  have hK2:Zif i h h2:=by rw [hh2]; exact (Zif.app i h _).trans (Zif.set _ _ _)
  generalize hg:h2 ++ [Zcp.cells Zab [] false]=g
  have hgl:g.length=h.length + 2:=by rw [← hg]; simp [hl2]
  have hgi:g[i]?=some (rdr s k1 b1):=by rw [← hg]; exact Zkz hi2
  have hgz:g[h.length]?=some (.cells Zab [.int .u8 0,.slice none 0 0 true] false):=by rw [← hg]; exact Zkz hz2
  have hga:g[h2.length]?=some (.cells Zab [] false):=by rw [← hg]; simp
  have hKg:Zif i h g:=by rw [← hg]; exact hK2.trans (Zif.app i _ _)
  have hn:(g ++ [Zcp.cells Zab [.int .u8 0,.slice none 0 0 true] false])[g.length]?=some (Zcp.cells Zab [.int .u8 0,.slice none 0 0 true] false):=by simp
  rw [Zbk hn (by simp)]
  simp only [Zaq]
  rw [Zan (Zcc hn)]
  simp only [Zbm,List.take_zero,List.nil_append,List.cons_append,Nat.add_zero,List.getElem?_cons_zero,Zal]
  refine (Yek c).mono ?_
  rintro v h9 ⟨rfl,rfl⟩
  have hold:∀ (x:Zcp) z w,g[z]?=some w→((g ++ [Zcp.cells Zab [.int .u8 0,.slice none 0 0 true] false]).set g.length x)[z]?=some w:=fun x z w hz=>by rw [Zbv (by have:=Own.lt hz; omega)]; exact Zkz hz
  simp only [Zal,Zau]
  have h9i:=hold (Zcp.cells Zab [.int .u8 (c:Int),.slice (some (List.length h2,0)) 0 0 true] false) i _ hgi
  have h9i':((g ++ [Zcp.cells Zab [.int .u8 0,.slice none 0 0 true] false]).set g.length (Zcp.cells Zab [.int .u8 (c:Int),.slice (some (List.length h2,0)) 0 0 true] false))[i]?=some (.cells Zct [.str s,.int .i64 (k1:Int),.bool b1] false):=h9i
  rw [show (Zag.int IntKind.u8 (c:Int) :: Zag.slice (some (List.length h2,0)) 0 0 true :: List.drop (0 + [Zag.int IntKind.u8 (c:Int),Zag.slice (some (List.length h2,0)) 0 0 true].length) [Zag.int IntKind.u8 0,Zag.slice none 0 0 true])=[.int .u8 (c:Int),.slice (some (List.length h2,0)) 0 0 true] from rfl]
  have tail:∀ b2,((b2=false∧k < k1∧s.drop k=c :: s.drop k1∧0≤arN c) ∨ (b2=true∧∀ t r,¬ Zga (s.drop k) t r))→∀ g2,g2=(((g ++ [Zcp.cells Zab [.int .u8 0,.slice none 0 0 true] false]).set g.length (Zcp.cells Zab [.int .u8 (c:Int),.slice (some (List.length h2,0)) 0 0 true] false)).set i (rdr s k1 b2)) →
    Zaz.J4 (Ztm i s k h) (some (i,0)) (List.length h) 0 (List.length g) 0 (arN c) g2:=by
   intro b2 hb g2 hg2
   refine Ymn hs hil ih (c:=c) (k1:=k1) (bad:=b2) (j0:=h2.length) ?_ ?_ hk1 (Nat.le_refl _) (by omega) (by omega) (by omega) (by omega) (by omega) ?_ ?_ ?_ hb
   ·rw [hg2]; exact ((hKg.trans (Zif.app i _ _)).trans' (fun j hj=>Zbv (by omega))).trans (Zif.set _ _ _)
   ·rw [hg2]; exact Zcc h9i
   ·rw [hg2,Zbv (by omega)]; exact hold _ _ _ hgz
   ·rw [hg2,Zbv (by omega)]; exact Zcc hn
   ·rw [hg2,Zbv (by omega)]; exact hold _ _ _ hga
  rw [Zan h9i']
  simp only [Nat.zero_add,List.getElem?_cons_zero,List.getElem?_cons_succ,Zah]
  rw [Zbk h9i' (by simp),Zbk h9i' (by simp)]
  simp only [Zaq]
  rcases hc with ⟨rfl,h1,h2'⟩ | ⟨rfl,h1,h2'⟩
  ·simp only [Zay]
   by_cases ha:arN c < 0
   ·refine tail true (.inr ⟨rfl,?_⟩) _ (by simp [rdr,Zbm,ha])
    intro t r ho
    have h3:=Ty.ok_ar ho.1
    have hhd:t.hd=c:=by
     obtain ⟨r',hr⟩:=t.txt_cons
     have:=ho.2; rw [hr,h2'] at this; simp at this; exact this.1.symm
    rw [hhd] at h3; omega
   ·exact tail false (.inl ⟨rfl,h1,h2',by omega⟩) _ (by simp [rdr,Zbm,ha])
  ·simp only [Zcs]
   refine tail true (.inr ⟨rfl,?_⟩) _ (by simp [rdr,Zbm])
   intro t r ho
   rw [h2'] at ho; exact Zga.nil ho
 rintro v h2 (⟨c,hd,hlt,rfl,hh⟩ | ⟨hnil,rfl,hh⟩)
 ·simp only [Zal]
  exact main c (k + 1) false (by omega) (.inl ⟨rfl,by omega,hd⟩) h2 hh
 ·simp only [Zal]
  exact main 0 k true hk (.inr ⟨rfl,by decide,hnil⟩) h2 hh

theorem Zsp (s:List Nat) (hs:s.length≤9223372036854775807) (h:Zaa):Zad pg Zhu [.str s] h fun v h'=>Zbb h.length h h'∧∃ vs:List Zag,v=.tup [.agg vs,.bool (Zos s)] ∧
  (match Zjb s with | some t=>Zei (Btw h.length h'.length) h' t vs | none=>vs=[.int .u8 0,.slice none 0 0 true]):=by
 apply Zmz.call
 simp only [Zba]
 generalize hg:h ++ [Zcp.cells Zab [.int .u8 0,.slice none 0 0 true] false]=g
 have hgl:g.length=h.length + 1:=by rw [← hg]; simp
 have hgz:g[h.length]?=some (.cells Zab [.int .u8 0,.slice none 0 0 true] false):=by rw [← hg]; simp
 have hgs:Zbb h.length h g:=by rw [← hg]; exact Zbb.app (Nat.le_refl _) _
 have hr:(g ++ [Zcp.cells Zct [.str s,.int .i64 0,.bool false] false])[g.length]?=some (rdr s 0 false):=by simp [rdr]
 refine (Ylm hs g.length _ 0 (Nat.le_refl _) (Nat.zero_le _) _ hr).mono ?_
 rintro v h3 ⟨hK,d,a,n,c,e,k',bad,rfl,hi,hk',hres⟩
 simp only [Zcw,Zak,Zal,Zai,Zar,Zba]
 have hl3:=hK.le
 simp at hl3
 have hz3:h3[h.length]?=some (.cells Zab [.int .u8 0,.slice none 0 0 true] false):=by rw [hK.eq _ (by simp; omega) (by omega)]; exact Zkz hgz
 have hs3:Zbb h.length h h3:=⟨by omega,fun j hj=>by rw [hK.eq _ (by simp; omega) (by omega),Zyf (by omega)]; exact hgs.eq j hj⟩
 have hn:(h3 ++ [Zcp.cells Zab [.int .u8 0,.slice none 0 0 true] false])[h3.length]?=some (.cells Zab [.int .u8 0,.slice none 0 0 true] false):=by simp
 rw [Zbk hn (by simp)]
 simp only [Zaq]
 generalize h5e:(h3 ++ [Zcp.cells Zab [.int .u8 0,.slice none 0 0 true] false]).set h3.length (.cells Zab (Zbm [.int .u8 0,.slice none 0 0 true] 0 [.int .u8 (d:Int),.slice a n c e]) false)=h5
 have h5o:∀ z,z < h3.length→h5[z]?=h3[z]?:=fun z hz=>by rw [← h5e,Zbv (by omega),Zyf hz]
 have h5l:h5.length=h3.length + 1:=by rw [← h5e]; simp
 have h5n:h5[h3.length]?=some (.cells Zab [.int .u8 (d:Int),.slice a n c e] false):=by rw [← h5e,Zcc hn]; simp [Zbm]
 have h5i:h5[g.length]?=some (.cells Zct [.str s,.int .i64 (k':Int),.bool bad] false):=by rw [h5o _ (Own.lt hi)]; exact hi
 have h5z:h5[h.length]?=some (.cells Zab [.int .u8 0,.slice none 0 0 true] false):=by rw [h5o _ (Own.lt hz3)]; exact hz3
 have h5s:Zbb h.length h h5:=⟨by omega,fun j hj=>by rw [h5o _ (by omega)]; exact hs3.eq j hj⟩
 rw [Zan h5i]
 simp only [Nat.zero_add,List.getElem?_cons_zero,List.getElem?_cons_succ,Zah]
 have fail:Zjb s=none→Zcf (Zbd h5 (.ptr (some (List.length h,0))) [.int .u8 0,.slice none 0 0 true]) fun h_17=>Zcy (Zbo h_17 (.ptr (some (List.length h,0))) 2) fun cs_18=>Zam cs_18 fun c_19 r_20=>Zco .u8 (some c_19) fun x_21=>Zam r_20 fun c_22 r_23=>xSl (some c_22) fun a_24 n_25 c_26 e_27=>Zcq r_23 (Zbb h.length h h_17∧∃ vs:List Zag,(Zag.tup [.agg [.int .u8 x_21,.slice a_24 n_25 c_26 e_27],.bool false])=.tup [.agg vs,.bool (Zos s)] ∧
  (match Zjb s with | some t=>Zei (Btw h.length h_17.length) h_17 t vs | none=>vs=[.int .u8 0,.slice none 0 0 true])):=by
  intro hno
  rw [Zbk h5z (by simp)]
  simp only [Zaq]
  rw [Zfv (Zcc h5z) (by simp [Zbm])]
  simp only [Zbm,List.take_zero,List.nil_append,List.length_cons,List.length_nil,List.cons_append,List.drop_succ_cons,List.drop_zero,List.drop_nil,List.append_nil,List.take_succ_cons,Zas,Zak,Zal,Zai,Zar]
  refine ⟨⟨by simp; omega,fun j hj=>by rw [Zbv (by omega)]; exact h5s.eq j hj⟩,_,by simp only [Zos,hno]; rfl,by rw [hno]⟩
 rw [List.drop_zero] at hres
 rcases hres with ⟨rfl,t,ho,hrep⟩ | ⟨rfl,hno⟩
 ·simp only [Zay,Zan h5i,Nat.zero_add,List.getElem?_cons_zero,List.getElem?_cons_succ,Zal]
  refine Zfp (fun hne=>fail ?_) (fun he=>?_)
  ·unfold Zjb
   split
   ·exact Zod.2 fun t' ht' e'=>by
     have:=(ho.unique ⟨ht',show s=t'.txt ++ [] by simpa using e'⟩).2
     have:=congrArg List.length this
     simp at this; omega
   ·rfl
  ·have hk:k'=s.length:=by omega
   subst hk
   rw [List.drop_length] at ho
   have hs':s=t.txt:=by simpa using ho.2
   refine Zaj (fun hl=>fail ?_) (fun hl=>?_)
   ·unfold Zjb; rw [if_neg (by omega)]
   ·have hof:Zjb s=some t:=Zim.2 ⟨ho.1,hs',by omega⟩
    apply Zmz.J5i
    rw [Zfv h5n (by simp)]
    simp only [List.drop_zero,List.take_succ_cons,List.take_zero,Zas,Zak,Zal,Zai,Zar]
    rw [Zbk h5z (by simp)]
    simp only [Zaq]
    rw [Zfv (Zcc h5z) (by simp [Zbm])]
    simp only [Zbm,List.take_zero,List.nil_append,List.length_cons,List.length_nil,List.cons_append,List.drop_succ_cons,List.drop_zero,List.drop_nil,List.append_nil,List.take_succ_cons,Zas,Zak,Zal,Zai,Zar]
    refine ⟨⟨by simp; omega,fun j hj=>by rw [Zbv (by omega)]; exact h5s.eq j hj⟩,_,by simp only [Zos,hof]; rfl,?_⟩
    rw [hof]
    refine Zei.mono (S:=Btw (g ++ [Zcp.cells Zct [.str s,.int .i64 0,.bool false] false]).length h3.length) (fun z hz=>⟨by have:=hz.1; simp at this; omega,by have:=hz.2; simp; omega⟩) (hrep.agree fun z hz=>?_)
    have h1:=hz.1; have h2:=hz.2
    simp at h1
    rw [Zbv (by omega),h5o _ h2]
 ·simp only [Zcs]
  refine fail ?_
  unfold Zjb
  split
  ·exact Zod.2 fun t' ht' e'=>hno t' [] ⟨ht',by simpa using e'⟩
  ·rfl
theorem Zmj (s:List Nat) (hs:s.length≤9223372036854775807) (h:Zaa):Zad pg Zfk [.str s] h fun v h'=>v=.bool (Zos s)∧Zbb h.length h h':=by
 apply Zne.call
 refine (Zsp s hs h).mono ?_
 rintro v h1 ⟨hS,vs,rfl,hm⟩
 have hvs:∃ (d:Int) (a:Pt) (n c:Nat) (e:Bool),vs=[.int .u8 d,.slice a n c e]:=by
  split at hm
  ·obtain ⟨a,c,e,rfl⟩:=hm.shape; exact ⟨_,_,_,_,_,rfl⟩
  ·exact ⟨_,_,_,_,_,hm⟩
 obtain ⟨d,a,n,c,e,rfl⟩:=hvs
 simp only [Zdw,Zak,Zcw,Zal,Zai,Zar,Zah,Zba]
 have hn:(h1 ++ [Zcp.cells Zab [.int .u8 0,.slice none 0 0 true] false])[h1.length]?=some (.cells Zab [.int .u8 0,.slice none 0 0 true] false):=by simp
 rw [Zbk hn (by simp)]
 simp only [Zaq]
 exact ⟨by trivial,hS.trans ((Zbb.app hS.le _).trans (Zbb.set hS.le _))⟩
end Go.Sim

set_option linter.unusedVariables false
namespace Go.Sim
open Go Go.RowKit

theorem c9:pg.cellsOf Zdx=1:=by kernel_rfl
theorem Zls {k n:Nat} (h:k < n) (hn:n≤4611686018427387904):IntKind.wrap .i64 ((k:Int) + 1)=((k + 1:Nat):Int):=by rw [IntWalk.i64_in _ (by omega)]; omega

def Yjv (k:Nat) (acc:List Nat):List Nat:=if h:k=0 then acc else Yjv (k / 10) ((48 + k % 10) :: acc)
 termination_by k
 decreasing_by omega
theorem Ygj (acc:List Nat):Yjv 0 acc=acc:=by unfold Yjv; simp
theorem Yis {k:Nat} (h:k≠0) (acc:List Nat):Yjv k acc=Yjv (k / 10) ((48 + k % 10) :: acc):=by
 conv=>lhs; unfold Yjv
 rw [dif_neg h]
def Zkq (k:Int):List Nat:=if k≤0 then [109,48] else 109 :: Yjv k.toNat []
theorem Ydx {h:Zaa} {t:TypeId} {cs:List Zag} {n:Nat} (hn:cs.length=n):rowOf (h ++ [.cells t cs false]) (some (h.length,0)) n=some cs:=by
 subst hn
 exact (Own.row (b:=0) (t:=t) ⟨h.length,rfl,by omega,by simp⟩).rowOf
theorem Ygo {h:Zaa} {t:TypeId} {v:Zag}:rowOf (h ++ [.cells t [v] false]) (some (h.length,0)) 1=some [v]:=Ydx rfl
theorem Zir {h:Zaa} {k:Int} (hk:k≤4611686018427387904):Zad pg Zee [.int .i64 k] h fun v h'=>v=.str (Zkq k)∧Zbb h.length h h':=by
 apply Zfy.call
 refine Zaj (fun hle=>?_) (fun hgt=>?_)
 ·exact ⟨by simp [Zkq,hle],Zbb.refl _ _⟩
 ·refine Zfy.L4ind _ (J:=fun (g:Nat) x0 x3 h'=>x0=(g:Int)∧Zbb h.length h h'∧Yjv g x3=Yjv k.toNat []∧(x3.length:Int) + g≤k) (fun g=>g) ?_ k.toNat k [] h ⟨by omega,Zbb.refl _ _,rfl,by simp; omega⟩
  rintro g x0 x3 h' ⟨rfl,hs,hd,hb⟩ R hR
  unfold Zfy.L4t
  refine Zaj (fun hlt=>?_) (fun hge=>?_)
  ·have h1:Int.tmod (g:Int) 10=((g % 10:Nat):Int):=by rw [Int.tmod_eq_emod_of_nonneg (by omega)]; omega
   have h2:Int.tdiv (g:Int) 10=((g / 10:Nat):Int):=by rw [Int.tdiv_eq_ediv_of_nonneg (by omega)]; omega
   rw [h1,h2,IntWalk.i64_in _ (by omega),IntWalk.u8_in _ (by omega),IntWalk.i64_in _ (by omega)]
   simp only [Zba,Ygo,Zas]
   refine ⟨by omega,?_⟩
   simp only [Znw,chk,decide_true]
   refine ⟨by omega,?_,by omega,hR (g / 10) _ _ _ (by omega) ⟨rfl,hs.trans (Zbb.app hs.le _),?_,?_⟩⟩
   ·simp; omega
   ·rw [← hd,Yis (k:=g) (by omega)]
    congr 2
   ·simp; omega
  ·have:g=0:=by omega
   subst this
   refine Zfy.A4x0i _ _ _ ⟨by simp; omega,?_,hs⟩
   rw [Ygj] at hd
   unfold Zkq
   rw [if_neg (by omega),← hd]; rfl

theorem Zlo {h:Zaa} {i:Nat} {x y:Zcp} (hi:h[i]?=some y):(h.set i x)[i]?=some x:=by
 have:=Own.lt hi
 simp [this]
def Yfr (k:Int) (n:Nat):List (List Nat):=(List.range n).map fun (j:Nat)=>Zkq (k + j)
@[simp] theorem Ykb (k:Int) (n:Nat):(Yfr k n).length=n:=by simp [Yfr]
theorem Ymv (k:Int) (n:Nat):Yfr k (n + 1)=Yfr k n ++ [Zkq (k + n)]:=by simp [Yfr,List.range_succ]

end Go.Sim

set_option linter.unusedVariables false
namespace Go.Sim
open Go Go.RowKit

def sp (l:List (List Nat)):List Nat:=[32].intercalate l
end Go.Sim

set_option linter.unusedVariables false
set_option linter.unusedSimpArgs false
set_option maxRecDepth 20000
namespace Go.Sim
open Go Go.RowKit

theorem Ygr {h:Zaa} {a0 a1:Pt} {n0 n1 c0 c1:Nat} {e0 e1:Bool} {l0 l1:List Int} (r0:Row h.length h a0 n0 (Zdo eI l0)) (r1:Row h.length h a1 n1 (Zdo eI l1)) (hn:n0≤4611686018427387904) (heq:l0=l1) :
  Zad pg Zmy [.slice a0 n0 c0 e0,.slice a1 n1 c1 e1] h fun v h'=>v=.bool true∧h'=h:=by
 have h0:l0.length=n0:=by have:=r0.1; rw [Zbg Zrm] at this; omega
 have h1:l1.length=n1:=by have:=r1.1; rw [Zbg Zrm] at this; omega
 subst heq
 apply Zia.call
 refine Zfp (fun hne=>by omega) (fun he=>?_)
 refine Zia.L4ind _ _ _ _ _ _ _ _ _ (J:=fun (g:Nat) x5 h'=>x5=(g:Int)∧g≤n0∧h'=h) (fun g=>n0 - g) ?_ 0 _ _ ⟨rfl,by omega,rfl⟩
 rintro g x5 h' ⟨rfl,hg,rfl⟩ R hR
 unfold Zia.L4t
 refine Zaj (fun hlt=>?_) (fun hge=>Zia.A4x0i _ _ ⟨rfl,rfl⟩)
 obtain ⟨i,o,hgl,rfl,hi,hc⟩:=Row.el1 Zrm r0 (k:=g) (by omega)
 obtain ⟨i',o',hgl',rfl,hi',hc'⟩:=Row.el1 Zrm r1 (k:=g) (by omega)
 simp only [Zau,Int.toNat_natCast,hc,hc',eI,List.getElem?_cons_zero,Zal]
 refine ⟨by omega,by omega,by trivial,Zfp (fun hne=>absurd rfl hne) (fun _=>?_)⟩
 rw [Zbp (by omega)]
 exact hR (g + 1) _ _ (by omega) ⟨rfl,by omega,rfl⟩

end Go.Sim

set_option linter.unusedVariables false
set_option linter.unusedSimpArgs false
set_option maxRecDepth 20000
namespace Go.Sim
open Go Go.RowKit

end Go.Sim
