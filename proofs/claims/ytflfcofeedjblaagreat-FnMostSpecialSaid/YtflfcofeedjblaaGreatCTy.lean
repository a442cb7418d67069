/- A part of the proof of a statement of this seat: see the text that holds the theorem. No condition. -/
import Derived.Test.YtflfcofeedjblaaGreatSimX
import Derived.Test.YtflfcofeedjblaaGreatPTCMatch
import Derived.Test.YtflfcofeedjblaaGreatNm
import Derived.Test.YtflfcofeedjblaaGreatShelf
import Derived.Test.YtflfcofeedjblaaGreatPTCVars
set_option linter.unusedVariables false
set_option linter.unusedSimpArgs false
set_option linter.all false
set_option linter.unusedVariables false
set_option linter.unusedSimpArgs false
namespace Go.Sim
open Go Go.RowKit

theorem Zcx {x y:Int} {A B:Prop} (ha:x=y→A) (hb:x≠y→B):bcase (x == y) A B:=by
 by_cases h:x=y
 ·rw [beq_iff_eq.2 h]; exact ha h
 ·rw [beq_eq_false_iff_ne.2 h]; exact hb h
theorem Zgo {x y:Int} {A B:Prop} (ha:x≠y→A) (hb:x=y→B):bcase (!(x == y)) A B:=by
 by_cases h:x=y
 ·rw [beq_iff_eq.2 h]; exact hb h
 ·rw [beq_eq_false_iff_ne.2 h]; exact ha h
theorem Zbq {b:Bool} {A B:Prop} (ha:b=false→A) (hb:b=true→B):bcase (!b) A B:=by
 cases b
 ·exact ha rfl
 ·exact hb rfl
theorem Zpi {p:Prop} [Decidable p] {A B:Prop} (ha:¬ p→A) (hb:p→B):bcase (!decide p) A B:=by
 by_cases h:p
 ·simp [h]; exact hb h
 ·simp [h]; exact ha h
theorem Zbz {h:Zaa} {i:Nat} {x y:Zcd} (hi:h[i]?=some y):(h.set i x)[i]?=some x:=List.getElem?_set_self (List.getElem?_eq_some_iff.1 hi).1
theorem Zbs {h:Zaa} {i j:Nat} {x:Zcd} (hne:i≠j):(h.set i x)[j]?=h[j]?:=List.getElem?_set_ne hne
theorem Yci {h l:Zaa} {i:Nat} (hi:i < h.length):(h ++ l)[i]?=h[i]?:=List.getElem?_append_left hi
theorem Zgr {h l:Zaa} {i:Nat} {x:Zcd} (hi:h[i]?=some x):(h ++ l)[i]?=some x:=by rw [Yci (List.getElem?_eq_some_iff.1 hi).1]; exact hi
theorem Zao {h:Zaa} {i o:Nat} {t:TypeId} {cs:List Zau} {ro:Bool} (hi:h[i]?=some (.cells t cs ro)):Zag h (.ptr (some (i,o)))=cs[o]?:=by simp only [Zag,hi]
theorem Zef {h:Zaa} {i o n:Nat} {t:TypeId} {cs:List Zau} {ro:Bool} (hi:h[i]?=some (.cells t cs ro)) (hle:o + n≤cs.length):Zbj h (.ptr (some (i,o))) n=some ((cs.drop o).take n):=by simp only [Zbj,hi]; rw [if_pos hle]
theorem Zbd {h:Zaa} {i o:Nat} {t:TypeId} {cs vs:List Zau} (hi:h[i]?=some (.cells t cs false)) (hle:o + vs.length≤cs.length):Zbb h (.ptr (some (i,o))) vs=some (h.set i (.cells t (putRow cs o vs) false)):=by simp only [Zbb,hi]; rw [if_pos hle]
theorem Zdu.of {i:Nat} {h h':Zaa} (hl:h.length≤h'.length) (he:∀ j,j < h.length→j≠i→h'[j]?=h[j]?):Zdu i h h':=⟨hl,he⟩
theorem Zdu.trans {i:Nat} {h h1 h2:Zaa} (a:Zdu i h h1) (b:Zdu i h1 h2):Zdu i h h2:=⟨Nat.le_trans a.le b.le,fun j hj hne=>by rw [b.eq j (by have:=a.le; omega) hne]; exact a.eq j hj hne⟩
theorem Zdu.app (i:Nat) (h l:Zaa):Zdu i h (h ++ l):=⟨by simp,fun j hj _=>List.getElem?_append_left hj⟩
theorem Zdu.set (i:Nat) (h:Zaa) (x:Zcd):Zdu i h (h.set i x):=⟨by simp,fun j hj hne=>List.getElem?_set_ne (by omega)⟩
theorem Zdu.trans' {i:Nat} {h h1 h2:Zaa} (a:Zdu i h h1) (b:∀ j,j < h.length→h2[j]?=h1[j]?) (hl:h1.length≤h2.length:=by simp):Zdu i h h2:=⟨Nat.le_trans a.le hl,fun j hj hne=>by rw [b j hj]; exact a.eq j hj hne⟩
def Vec (ty:TypeId) (h:Zaa) (a:Pt) (n c:Nat) (cs:List Zau):Prop:=
 (a=none∧n=0∧c=0∧cs=[]) ∨ (∃ i,a=some (i,0)∧h[i]?=some (.cells ty cs false))
theorem Vec.mk0 {ty:TypeId} {h:Zaa}:Vec ty h none 0 0 []:=.inl ⟨rfl,rfl,rfl,rfl⟩
theorem Vec.mk1 {ty:TypeId} {h:Zaa} {i n c:Nat} {cs:List Zau} (hi:h[i]?=some (.cells ty cs false)):Vec ty h (some (i,0)) n c cs:=.inr ⟨i,rfl,hi⟩
theorem Vec.agree {ty:TypeId} {h h':Zaa} {a:Pt} {n c:Nat} {cs:List Zau} (x:Vec ty h a n c cs) (hh:∀ i,a=some (i,0)→h'[i]?=h[i]?):Vec ty h' a n c cs:=by
 rcases x with x | ⟨i,ha,hi⟩
 ·exact .inl x
 ·exact .inr ⟨i,ha,by rw [hh i ha]; exact hi⟩
theorem Vec.same {ty:TypeId} {h h':Zaa} {a:Pt} {n c:Nat} {cs:List Zau} (x:Vec ty h a n c cs) (s:Zbc h.length h h'):Vec ty h' a n c cs:=by
 rcases x with x | ⟨i,ha,hi⟩
 ·exact .inl x
 ·exact .inr ⟨i,ha,by rw [s.eq i (Own.lt hi)]; exact hi⟩
theorem Vec.row {ty:TypeId} {h:Zaa} {a:Pt} {n c m:Nat} {cs:List Zau} (x:Vec ty h a n c cs) (hm:cs.length=m):Row h.length h a m cs:=by
 rcases x with ⟨rfl,rfl,rfl,rfl⟩ | ⟨i,rfl,hi⟩
 ·simp at hm; subst hm; exact Row.nil
 ·exact ⟨hm,.inr ⟨i,0,ty,cs,false,rfl,Own.lt hi,hi,by omega,by subst hm; simp⟩⟩
theorem Vec.lt {ty:TypeId} {h:Zaa} {i n c:Nat} {cs:List Zau} (x:Vec ty h (some (i,0)) n c cs):i < h.length:=by
 rcases x with ⟨h0,_⟩ | ⟨j,hj,hi⟩
 ·cases h0
 ·cases hj; exact Own.lt hi
theorem Vec.app {P:Program} {t ty:TypeId} {h:Zaa} {n c sz:Nat} {a:Pt} {e:Bool} {xa:Pt} {m c':Nat} {e':Bool} {cs new:List Zau} {K:Zau→Zaa→Prop} (x:Vec ty h a n c cs)
  (hu:P.underlying t=some (.slice ty)) (hc:P.cellsOf ty=sz) (hok:P.okElem ty=true) (hby:P.bytesOf ty≤127) (hn:cs.length=n * sz) (hx:rowOf h xa (m * sz)=some new) (hl:new.all Zau.leaf=true)
  (hm:m≠0) (hle:n + m≤1099511627776) (hk:∀ h',h'.length=h.length + 1→h'[h.length]?=some (.cells ty (cs ++ new) false)→(∀ j,j < h.length→(∀ i,a=some (i,0)→j≠i)→h'[j]?=h[j]?) →
   K (.slice (some (h.length,0)) (n + m) (n + m) false) h'):Zcz P t h (.slice a n c e) (.slice xa m c' e') K:=by
 unfold Zcz
 simp only [hu,hc,hx,Zaq]
 refine ⟨⟨hok,?_,hl⟩,?_⟩
 ·have:(n + m) * (P.bytesOf ty + 1)≤(n + m) * 128:=Nat.mul_le_mul_left _ (by omega)
  omega
 ·rcases x with ⟨rfl,rfl,rfl,rfl⟩ | ⟨i,rfl,hi⟩
  ·refine ⟨fun h0=>absurd h0 hm,fun _=>⟨rfl,?_⟩⟩
   have:=hk (h ++ [.cells ty new false]) (by simp) (by simp) (fun j hj _=>List.getElem?_append_left hj)
   simpa using this
  ·refine .inl ⟨rfl,?_⟩
   simp only [Zrs,hi,true_and]
   refine ⟨hn,hk _ (by simp) (by rw [List.getElem?_append_right (by simp)]; simp) fun j hj hne=>?_⟩
   rw [List.getElem?_append_left (by simpa using hj),List.getElem?_set_ne (fun e=>hne i rfl e.symm)]
theorem Vec.push {P:Program} {t ty:TypeId} {h:Zaa} {n c:Nat} {a:Pt} {e:Bool} {cs:List Zau} {v:Zau} {K:Zau→Zaa→Prop} (x:Vec ty h a n c cs)
  (hu:P.underlying t=some (.slice ty)) (hc:P.cellsOf ty=1) (hok:P.okElem ty=true) (hby:P.bytesOf ty≤127) (hn:cs.length=n) (hl:v.leaf=true)
  (hle:n + 1≤1099511627776) (hk:∀ h',h'.length=h.length + 2→h'[h.length + 1]?=some (.cells ty (cs ++ [v]) false)→(∀ j,j < h.length→(∀ i,a=some (i,0)→j≠i)→h'[j]?=h[j]?) →
   K (.slice (some (h.length + 1,0)) (n + 1) (n + 1) false) h'):Zcz P t (h ++ [.cells ty [v] false]) (.slice a n c e) (.slice (some (h.length,0)) 1 1 true) K:=by
 refine Vec.app (sz:=1) (new:=[v]) (x.same (Zbc.app (Nat.le_refl _) _)) hu hc hok hby (by omega) ?_ (by simp [hl]) (by omega) hle ?_
 ·simp [rowOf,Zbj]
 ·intro h' hl' hi hj
  simp at hl' hi hj
  have key:=hk h' (by omega) (by simpa using hi) (fun j hlt hne=>by rw [hj j (by omega) hne,List.getElem?_append_left hlt])
  simpa using key
theorem Vec.pushN {P:Program} {t ty:TypeId} {h:Zaa} {n c sz:Nat} {a:Pt} {e:Bool} {cs vs:List Zau} {K:Zau→Zaa→Prop} (x:Vec ty h a n c cs)
  (hu:P.underlying t=some (.slice ty)) (hc:P.cellsOf ty=sz) (hok:P.okElem ty=true) (hby:P.bytesOf ty≤127) (hn:cs.length=n * sz) (hv:vs.length=sz) (hz:sz≠0) (hl:vs.all Zau.leaf=true)
  (hle:n + 1≤1099511627776) (hk:∀ h',h'.length=h.length + 2→h'[h.length + 1]?=some (.cells ty (cs ++ vs) false)→(∀ j,j < h.length→(∀ i,a=some (i,0)→j≠i)→h'[j]?=h[j]?) →
   K (.slice (some (h.length + 1,0)) (n + 1) (n + 1) false) h'):Zcz P t (h ++ [.cells ty vs false]) (.slice a n c e) (.slice (some (h.length,0)) 1 1 true) K:=by
 refine Vec.app (sz:=sz) (new:=vs) (x.same (Zbc.app (Nat.le_refl _) _)) hu hc hok hby hn ?_ hl (by omega) hle ?_
 ·simp [rowOf,Zbj,hv,hz]
  rw [← hv,List.take_length]
 ·intro h' hl' hi hj
  simp at hl' hi hj
  have key:=hk h' (by omega) (by simpa using hi) (fun j hlt hne=>by rw [hj j (by omega) hne,List.getElem?_append_left hlt])
  simpa using key
end Go.Sim

set_option linter.unusedVariables false
set_option linter.unusedSimpArgs false
namespace Go.Sim
open Go Go.RowKit

section
variable {α:Type} (enc:α→List Zau)
def Zdn (l:List α):List Zau:=l.flatMap enc
@[simp] theorem Ytz:Zdn enc []=[]:=rfl
@[simp] theorem Zmj (x:α) (l:List α):Zdn enc (x :: l)=enc x ++ Zdn enc l:=rfl
@[simp] theorem Zia (a b:List α):Zdn enc (a ++ b)=Zdn enc a ++ Zdn enc b:=by simp [Zdn]
variable {enc} {w:Nat}
theorem Zay (hw:∀ x,(enc x).length=w) (l:List α):(Zdn enc l).length=l.length * w:=by
 induction l with
 | nil=>simp
 | cons x l ih=>rw [Zmj,List.length_append,hw,ih,List.length_cons,Nat.succ_mul]; omega
theorem Yfs (hw:∀ x,(enc x).length=w):∀ (l:List α) (k:Nat),(Zdn enc l).drop (k * w)=Zdn enc (l.drop k)
 | l,0=>by simp
 | [],k + 1=>by simp
 | x :: l,k + 1=>by
  have h1:(enc x ++ Zdn enc l).drop w=Zdn enc l:=by rw [← hw x,List.drop_left]
  rw [Zmj,List.drop_succ_cons,← Yfs hw l k,Nat.succ_mul,Nat.add_comm,← List.drop_drop,h1]
theorem Ygh (hw:∀ x,(enc x).length=w):∀ (l:List α) (k:Nat),(Zdn enc l).take (k * w)=Zdn enc (l.take k)
 | l,0=>by simp
 | [],k + 1=>by simp
 | x :: l,k + 1=>by
  have h1:∀ m,(enc x ++ Zdn enc l).take (w + m)=enc x ++ (Zdn enc l).take m:=fun m=>by rw [← hw x,List.take_length_add_append]
  rw [Zmj,List.take_succ_cons,Zmj,← Ygh hw l k,Nat.succ_mul,Nat.add_comm,h1]
theorem Row.el (hw:∀ x,(enc x).length=w) {b:Nat} {h:Zaa} {a:Pt} {n:Nat} {l:List α} (r:Row b h a (n * w) (Zdn enc l)) (hl:l.length=n) {k:Nat} (hk:k < n) (hw0:w≠0) :
  ∃ i o,∃ hk':k < l.length,a=some (i,o)∧i < b∧Zbj h (.ptr (some (i,o + k * w))) w=some (enc l[k])∧∀ j,j < w→Zag h (.ptr (some (i,o + k * w + j)))=(enc l[k])[j]?:=by
 obtain ⟨_,r⟩:=r
 have hnw:k * w + w≤n * w:=by rw [← Nat.succ_mul]; exact Nat.mul_le_mul_right _ hk
 rcases r with h0 | ⟨i,o,t,all,ro,ha,hb,hi,hle,hcs⟩
 ·omega
 ·have hd:(all.drop (o + k * w)).take w=enc l[k]:=by
   have h1:((all.drop o).take (n * w)).drop (k * w)=Zdn enc (l.drop k):=by rw [← hcs,Yfs hw]
   rw [List.drop_take,List.drop_drop] at h1
   have h2:(all.drop (o + k * w)).take w=((all.drop (o + k * w)).take (n * w - k * w)).take w:=by rw [List.take_take,Nat.min_eq_left (by omega)]
   rw [h2,h1,List.drop_eq_getElem_cons (by omega),Zmj,List.take_append_of_le_length (by rw [hw]; omega),List.take_of_length_le (by rw [hw]; omega)]
  refine ⟨i,o,by omega,ha,hb,?_,fun j hj=>?_⟩
  ·simp only [Zbj,hi]
   rw [if_pos (by omega),hd]
  ·simp only [Zag,hi]
   rw [← hd,List.getElem?_take,if_pos hj,List.getElem?_drop]
theorem Row.el1 (hw:∀ x,(enc x).length=1) {b:Nat} {h:Zaa} {a:Pt} {n:Nat} {l:List α} (r:Row b h a n (Zdn enc l)) {k:Nat} (hk:k < n) :
  ∃ i o,∃ hk':k < l.length,a=some (i,o)∧i < b∧Zag h (.ptr (some (i,o + k * 1)))=(enc l[k])[0]?:=by
 have hl:l.length=n:=by have:=r.1; rw [Zay hw] at this; omega
 obtain ⟨i,o,hk',ha,hb,_,hc⟩:=Row.el hw (n:=n) (by simpa using r) hl hk (by omega)
 exact ⟨i,o,hk',ha,hb,by simpa using hc 0 (by omega)⟩
end
def eS (s:List Nat):List Zau:=[.str s]
def eI (n:Int):List Zau:=[.int .i64 n]
def eP (p:List Nat × List Nat):List Zau:=[.str p.1,.str p.2]
def eG (p:Int × List Nat):List Zau:=[.int .i64 p.1,.str p.2]
theorem Ykn (l:List (List Nat)):Zdn eS l=strs l:=by induction l <;> simp_all [eS,strs]
theorem Zmf (x:List Nat):(eS x).length=1:=rfl
theorem Zjc (x:Int):(eI x).length=1:=rfl
theorem Zea (x:List Nat × List Nat):(eP x).length=2:=rfl
theorem Zrv {α:Type} {enc:α→List Zau} (he:∀ x,(enc x).all Zau.leaf=true) (l:List α):(Zdn enc l).all Zau.leaf=true:=by
 induction l with
 | nil=>rfl
 | cons x l ih=>rw [Zmj,List.all_append,he,ih]; rfl
theorem Zbl {k:Nat} (hn:k + 1≤9223372036854775807):IntKind.wrap .i64 ((k:Int) + 1)=((k + 1:Nat):Int):=by rw [IntWalk.i64_in _ (by omega)]; omega
end Go.Sim

set_option linter.unusedVariables false
set_option linter.unusedSimpArgs false
set_option maxRecDepth 20000
namespace Go.Sim
open Go Go.RowKit

def eB (b:Nat):List Zau:=[.int .u8 (b:Int)]
theorem Ydz (x:Nat):(eB x).length=1:=rfl
def Rdr (h:Zaa) (i p:Nat):Prop:=∃ a n c e,∃ l:List Nat,h[i]?=some (.cells Zon [.slice a n c e,.int .i64 (p:Int)] false)∧Row i h a n (Zdn eB l)∧(∀ b∈l,b < 256)∧n≤2000
theorem Rdr.agree {h h':Zaa} {i p:Nat} (r:Rdr h i p) (hh:∀ j,j≤i→h'[j]?=h[j]?) (hl:h.length≤h'.length):Rdr h' i p:=by
 obtain ⟨a,n,c,e,l,hi,hr,hb,hn⟩:=r
 exact ⟨a,n,c,e,l,by rw [hh i (Nat.le_refl _)]; exact hi,hr.same ⟨hl,fun j hj=>hh j (by omega)⟩,hb,hn⟩
theorem Rdr.lt {h:Zaa} {i p:Nat} (r:Rdr h i p):i < h.length:=by obtain ⟨a,n,c,e,l,hi,_⟩:=r; exact Own.lt hi
theorem Rdr.same {h h':Zaa} {i p:Nat} (r:Rdr h i p) (s:Zbc h.length h h'):Rdr h' i p:=r.agree (fun j hj=>s.eq j (by have:=r.lt; omega)) s.le
theorem Rdr.app {h:Zaa} {i p:Nat} (r:Rdr h i p) (l:Zaa):Rdr (h ++ l) i p:=r.same (Zbc.app (Nat.le_refl _) _)
theorem Zsp {h:Zaa} {a:Pt} {n c:Nat} {e:Bool} {l:List Nat} (r:Row h.length h a n (Zdn eB l)) (hb:∀ b∈l,b < 256) (hnc:n≤c):Zah pg Zgi [.slice a n c e] h fun v h'=>v=.ptr (some (h.length,0))∧Zbc h.length h h'∧Rdr h' h.length 0∧h'.length=h.length + 1:=by
 have hl:l.length=n:=by have:=r.1; rw [Zay Ydz] at this; omega
 apply Zlv.call
 have fin:∀ (a:Pt) (n c:Nat) (e:Bool) (l:List Nat),Row h.length h a n (Zdn eB l)→(∀ b∈l,b < 256)→n≤2000→Zlv.J3 (fun v h'=>v=.ptr (some (h.length,0))∧Zbc h.length h h'∧Rdr h' h.length 0∧h'.length=h.length + 1) a n c e h:=by
  intro a n c e l r hb hn
  apply Zlv.J3i
  simp only [Zaw]
  exact ⟨by trivial,Zbc.app (Nat.le_refl _) _,⟨a,n,c,e,l,by simp,r.same (Zbc.app (Nat.le_refl _) _),hb,hn⟩,by simp⟩
 refine Zat (fun hgt=>?_) (fun hle=>fin a n c e l r hb (by omega))
 have hcut:Row h.length h a 2000 (Zdn eB (l.take 2000)):=by
  obtain ⟨h1,h2⟩:=r
  have hlen:(Zdn eB (l.take 2000)).length=2000:=by rw [Zay Ydz,List.length_take]; omega
  refine ⟨hlen,.inr ?_⟩
  rcases h2 with h0 | ⟨i,o,t,all,ro,ha,hi,hg,hle,hcs⟩
  ·omega
  ·refine ⟨i,o,t,all,ro,ha,hi,hg,by omega,?_⟩
   have:=Ygh (enc:=eB) Ydz l 2000
   rw [Nat.mul_one] at this
   rw [← this,hcs,List.take_take,Nat.min_eq_left (by omega)]
 obtain ⟨_,h2⟩:=r
 rcases h2 with h0 | ⟨i,o,t,all,ro,ha,hi,hg,hle,hcs⟩
 ·omega
 ·subst ha
  simp only [Zls,Zln]
  refine ⟨by omega,fun hlt=>?_,fun hno=>by omega⟩
  simp only [Zae]
  have e1:o + Int.toNat 0 * 1=o:=by simp
  have e2:((2000:Int) - 0).toNat=2000:=by omega
  rw [e1,e2]
  exact fin _ _ _ _ _ hcut (fun b hb'=>hb b (List.mem_of_mem_take hb')) (by omega)
theorem Yts {x:Int} (h0:0≤x) (h1:x < 4611686018427387904):0≤IntKind.wrap .i64 ((BitVec.ofInt (IntKind.bits .i64) x ^^^ BitVec.ofInt (IntKind.bits .i64) (IntKind.wrap .i64 (Int.tdiv x 64))).toNat):=by
 obtain ⟨n,rfl⟩:∃ n:Nat,x=n:=⟨x.toNat,by omega⟩
 have hd:Int.tdiv (n:Int) 64=((n / 64:Nat):Int):=by rw [Int.tdiv_eq_ediv_of_nonneg (by omega)]; omega
 rw [hd,IntWalk.i64_in ((n / 64:Nat):Int) (by omega)]
 have hx:((BitVec.ofInt (IntKind.bits .i64) (n:Int)) ^^^ (BitVec.ofInt (IntKind.bits .i64) ((n / 64:Nat):Int))).toNat=n ^^^ (n / 64):=by
  rw [BitVec.toNat_xor,BitVec.toNat_ofInt,BitVec.toNat_ofInt]
  have e1:((n:Int) % ((2 ^ (IntKind.bits .i64):Nat):Int)).toNat=n:=by simp only [IntKind.bits]; omega
  have e2:(((n / 64:Nat):Int) % ((2 ^ (IntKind.bits .i64):Nat):Int)).toNat=n / 64:=by simp only [IntKind.bits]; omega
  rw [e1,e2]
 rw [hx]
 have hlt:n ^^^ (n / 64) < 2 ^ 62:=Nat.xor_lt_two_pow (by omega) (by omega)
 rw [IntWalk.i64_in _ (by omega)]; omega
theorem Zvz {x n:Int} (h0:0≤x) (hn:1≤n):0≤Int.tmod x n∧Int.tmod x n < n:=by
 rw [Int.tmod_eq_emod_of_nonneg h0]; exact ⟨Int.emod_nonneg _ (by omega),Int.emod_lt_of_pos _ (by omega)⟩
theorem Zcu {h:Zaa} {i p:Nat} (r:Rdr h i p) (hp:p≤1000000000000) (n:Int):Zah pg Zaz [.ptr (some (i,0)),.int .i64 n] h fun v h'=>
  ∃ x,v=.int .i64 x∧0≤x∧(1≤n→x < n)∧(n < 1→x=0)∧Zdu i h h'∧Rdr h' i (p + 1)∧h'.length=h.length:=by
 obtain ⟨a,m,c,e,l,hi,hr,hb,hm⟩:=r
 have hl:l.length=m:=by have:=hr.1; rw [Zay Ydz] at this; omega
 apply Zlr.call
 simp only [Zav,Zao hi,Nat.zero_add,List.getElem?_cons_zero,List.getElem?_cons_succ,Zar]
 rw [IntWalk.i64_in _ (by omega),Zbd hi (by simp)]
 simp only [Zas]
 generalize hge:h.set i (Zcd.cells Zon (putRow [.slice a m c e,.int .i64 (p:Int)] 1 [.int .i64 ((p:Int) + 1)]) false)=h2
 have h2i:h2[i]?=some (.cells Zon [.slice a m c e,.int .i64 ((p:Int) + 1)] false):=by rw [← hge,Zbz hi]; simp [putRow]
 have hK:Zdu i h h2:=by rw [← hge]; exact Zdu.set _ _ _
 have h2l:h2.length=h.length:=by rw [← hge]; simp
 have hr2:Row i h2 a m (Zdn eB l):=hr.same ⟨by omega,fun j hj=>by rw [← hge,Zbs (by omega)]⟩
 have hR2:Rdr h2 i (p + 1):=⟨a,m,c,e,l,by rw [h2i]; simp,hr2,hb,hm⟩
 refine Zat (fun hlt=>⟨0,rfl,by omega,by omega,fun _=>rfl,hK,hR2,h2l⟩) (fun hge1=>?_)
 simp only [Zao h2i,Nat.zero_add,List.getElem?_cons_zero,Zae]
 refine Zcx (fun h0=>⟨0,rfl,by omega,by omega,fun _=>rfl,hK,hR2,h2l⟩) (fun hne=>?_)
 have hm0:0 < m:=by omega
 have cell:∀ k,k < m→∃ ii o,∃ hk:k < l.length,a=some (ii,o)∧Zag h2 (.ptr (some (ii,o + k * 1)))=some (.int .u8 (l[k]:Int)):=by
  intro k hk
  obtain ⟨ii,o,hk',ha,_,hc⟩:=Row.el1 Ydz hr2 hk
  exact ⟨ii,o,hk',ha,hc⟩
 apply Zlr.J4i
 simp only [Zav,Zao h2i,Nat.zero_add,List.getElem?_cons_zero,List.getElem?_cons_succ,Zar,Zae]
 rw [show (p:Int) + 1 - 1=p by omega,IntWalk.i64_in (p:Int) (by omega)]
 refine Zat (fun hlt=>?_) (fun hge2=>?_)
 ·obtain ⟨ii,o,hk,rfl,hc⟩:=cell p (by omega)
  simp only [Zav,Int.toNat_natCast,hc,Zar]
  have hbb:=hb _ (List.getElem_mem hk)
  rw [IntWalk.i64_in _ (by omega)]
  have:=Zvz (x:=(l[p]:Int)) (n:=n) (by omega) (by omega)
  exact ⟨by omega,by omega,_,rfl,this.1,fun _=>this.2,by omega,hK,hR2,h2l⟩
 ·have t1:=Zvz (x:=(p:Int)) (n:=(m:Int)) (by omega) (by omega)
  have e1:Int.tmod (p:Int) (m:Int)=((p % m:Nat):Int):=by rw [Int.tmod_eq_emod_of_nonneg (by omega)]; omega
  have e2:IntKind.wrap .i64 ((p:Int) * 7)=((p * 7:Nat):Int):=by rw [IntWalk.i64_in _ (by omega)]; omega
  have e3:IntKind.wrap .i64 (((p * 7:Nat):Int) + 3)=((p * 7 + 3:Nat):Int):=by rw [IntWalk.i64_in _ (by omega)]; omega
  have e4:Int.tmod ((p * 7 + 3:Nat):Int) (m:Int)=(((p * 7 + 3) % m:Nat):Int):=by rw [Int.tmod_eq_emod_of_nonneg (by omega)]; omega
  rw [e1,e2,e3,e4]
  obtain ⟨ii,o,hk,rfl,hc⟩:=cell (p % m) (Nat.mod_lt _ hm0)
  obtain ⟨ii',o',hk',ha',hc'⟩:=cell ((p * 7 + 3) % m) (Nat.mod_lt _ hm0)
  obtain ⟨rfl,rfl⟩:ii=ii'∧o=o':=by simpa using ha'
  have b1:=hb _ (List.getElem_mem hk)
  have b2:=hb _ (List.getElem_mem hk')
  have m1:=Nat.mod_lt p hm0
  have m2:=Nat.mod_lt (p * 7 + 3) hm0
  simp only [Zav,Int.toNat_natCast,hc,hc',Zar]
  refine ⟨by omega,by omega,by omega,by omega,by trivial,by trivial,by trivial,by trivial,by trivial,by trivial,by omega,by omega,by omega,?_⟩
  have e5:Int.tdiv (p:Int) (m:Int)=((p / m:Nat):Int):=by rw [Int.tdiv_eq_ediv_of_nonneg (by omega)]; omega
  have m3:p / m≤p:=Nat.div_le_self _ _
  generalize hA:((l[p % m]:Nat):Int)=A
  generalize hB:((l[(p * 7 + 3) % m]:Nat):Int)=B
  have hD1:0≤((p / m:Nat):Int)∧((p / m:Nat):Int)≤(p:Int):=⟨Int.natCast_nonneg _,Int.ofNat_le.2 m3⟩
  generalize ((p / m:Nat):Int)=D at e5 hD1
  have hA1:0≤A∧A < 256:=by omega
  have hB1:0≤B∧B < 256:=by omega
  rw [e5,IntWalk.i64_in A (by omega),IntWalk.i64_in B (by omega),IntWalk.i64_in (A * 131) (by omega),IntWalk.i64_in (B * 1117) (by omega),IntWalk.i64_in (A * 131 + B * 1117) (by omega),IntWalk.i64_in ((p:Int) * 29) (by omega),
   IntWalk.i64_in (A * 131 + B * 1117 + (p:Int) * 29) (by omega),IntWalk.i64_in D (by omega),IntWalk.i64_in (D * 53) (by omega),IntWalk.i64_in (A * 131 + B * 1117 + (p:Int) * 29 + D * 53) (by omega)]
  have hx:=Yts (x:=A * 131 + B * 1117 + (p:Int) * 29 + D * 53) (by omega) (by omega)
  have:=Zvz hx (by omega:1≤n)
  exact ⟨_,rfl,this.1,fun _=>this.2,by omega,hK,hR2,h2l⟩
theorem Yhs {h:Zaa} {i p j n c:Nat} {e:Bool} {t:TypeId} {l:List Int} (r:Rdr h i p) (hp:p≤1000000000000) (hj:h[j]?=some (.cells t (Zdn eI l) false)) (hji:j≠i) (hn:l.length=n) (h0:1≤n) :
  Zah pg Zdq [.ptr (some (i,0)),.slice (some (j,0)) n c e] h fun v h'=>∃ x∈l,v=.int .i64 x∧Zdu i h h'∧Rdr h' i (p + 1)∧h'.length=h.length:=by
 apply Zrk.call
 refine (Zcu r hp n).mono ?_
 rintro v h2 ⟨x,rfl,h0x,hlt,_,hK,hR,hl⟩
 simp only [Zar,Zav]
 have hlt:=hlt (by omega)
 obtain ⟨k,rfl⟩:∃ k:Nat,x=k:=⟨x.toNat,by omega⟩
 have hj2:h2[j]?=some (.cells t (Zdn eI l) false):=by rw [hK.eq j (Own.lt hj) hji]; exact hj
 have hrow:Row h2.length h2 (some (j,0)) n (Zdn eI l):=⟨by rw [Zay Zjc]; omega,.inr ⟨j,0,t,_,false,rfl,Own.lt hj2,hj2,by rw [Zay Zjc]; omega,by rw [List.drop_zero,List.take_of_length_le (by rw [Zay Zjc]; omega)]⟩⟩
 obtain ⟨ii,o,hk,ha,_,hc⟩:=Row.el1 Zjc hrow (k:=k) (by omega)
 cases ha
 rw [Int.toNat_natCast,hc]
 simp only [eI,List.getElem?_cons_zero,Zar]
 exact ⟨by omega,l[k],List.getElem_mem hk,rfl,hK,hR,hl⟩
theorem Zmm {h:Zaa} {i p j n c:Nat} {e:Bool} {t:TypeId} {l:List (List Nat)} (r:Rdr h i p) (hp:p≤1000000000000) (hj:h[j]?=some (.cells t (Zdn eS l) false)) (hji:j≠i) (hn:l.length=n) (h0:1≤n) :
  Zah pg Zcf [.ptr (some (i,0)),.slice (some (j,0)) n c e] h fun v h'=>∃ x∈l,v=.str x∧Zdu i h h'∧Rdr h' i (p + 1)∧h'.length=h.length:=by
 apply Zsc.call
 refine (Zcu r hp n).mono ?_
 rintro v h2 ⟨x,rfl,h0x,hlt,_,hK,hR,hl⟩
 simp only [Zar,Zav]
 have hlt:=hlt (by omega)
 obtain ⟨k,rfl⟩:∃ k:Nat,x=k:=⟨x.toNat,by omega⟩
 have hj2:h2[j]?=some (.cells t (Zdn eS l) false):=by rw [hK.eq j (Own.lt hj) hji]; exact hj
 have hrow:Row h2.length h2 (some (j,0)) n (Zdn eS l):=⟨by rw [Zay Zmf]; omega,.inr ⟨j,0,t,_,false,rfl,Own.lt hj2,hj2,by rw [Zay Zmf]; omega,by rw [List.drop_zero,List.take_of_length_le (by rw [Zay Zmf]; omega)]⟩⟩
 obtain ⟨ii,o,hk,ha,_,hc⟩:=Row.el1 Zmf hrow (k:=k) (by omega)
 cases ha
 rw [Int.toNat_natCast,hc]
 simp only [eS,List.getElem?_cons_zero,Zal]
 exact ⟨by omega,l[k],List.getElem_mem hk,rfl,hK,hR,hl⟩
theorem Rdr.keep {h h':Zaa} {i p:Nat} (r:Rdr h i p) (hh:∀ j,j≤i→h'[j]?=h[j]?) (hl:h.length≤h'.length):Rdr h' i p:=r.agree hh hl
end Go.Sim

set_option linter.unusedSimpArgs false
namespace Go.Sim

inductive Ty where
 | k (c:Nat)
 | u (c:Nat) (a:Ty)
 | w (c:Nat) (a b:Ty)
 deriving DecidableEq,Inhabited

namespace Ty
def hd:Ty→Nat | k c=>c | u c _=>c | w c _ _=>c
def ps:Ty→List Ty | k _=>[] | u _ a=>[a] | w _ a b=>[a,b]
def txt:Ty→List Nat
 | k c=>[c]
 | u c a=>c :: 40 :: (a.txt ++ [41])
 | w c a b=>c :: 40 :: (a.txt ++ 44 :: (b.txt ++ [41]))
def size:Ty→Nat | k _=>1 | u _ a=>a.size + 1 | w _ a b=>a.size + b.size + 1
end Ty

def Zcr (c:Nat):Bool:=c == 120 || c == 121 || c == 122 || c == 88 || c == 89 || c == 90
def Zkl (c:Nat):Bool:=c == 105 || c == 98 || c == 117 || Zcr c
def arN (c:Nat):Int:=if Zkl c then 0 else if c == 108 || c == 109 then 1 else if c == 112 then 2 else -1
namespace Ty
def ok:Ty→Bool
 | k c=>Zkl c
 | u c a=>(c == 108 || c == 109) && a.ok
 | w c a b=>(c == 112) && a.ok && b.ok
theorem ok_ar {t:Ty} (h:t.ok=true):arN t.hd=t.ps.length:=by
 cases t with
 | k c=>simp only [ok] at h; simp [arN,hd,ps,h]
 | u c a=>simp only [ok,Bool.and_eq_true,Bool.or_eq_true,beq_iff_eq] at h; rcases h.1 with rfl | rfl <;> rfl
 | w c a b=>simp only [ok,Bool.and_eq_true,beq_iff_eq] at h; rcases h.1.1 with rfl; rfl
theorem ok_ps {t:Ty} (h:t.ok=true):∀ p∈t.ps,p.ok=true:=by
 cases t with
 | k c=>simp [ps]
 | u c a=>simp only [ok,Bool.and_eq_true] at h; simp [ps,h.2]
 | w c a b=>simp only [ok,Bool.and_eq_true] at h; simp [ps,h.2,h.1.2]
theorem txt_cons (t:Ty):∃ r,t.txt=t.hd :: r:=by cases t <;> simp [txt,hd]
theorem txt_ne (t:Ty):t.txt≠[]:=by cases t <;> simp [txt]
theorem txt_pos (t:Ty):1≤t.txt.length:=by have:=t.txt_ne; cases h:t.txt <;> simp_all
theorem Yoa {s t:Ty} {r r':List Nat} (h:s.txt ++ r=t.txt ++ r'):s.hd=t.hd:=by
 obtain ⟨a,ha⟩:=s.txt_cons; obtain ⟨b,hb⟩:=t.txt_cons
 rw [ha,hb] at h; simp at h; exact h.1
theorem txt_inj:∀ {s t:Ty} {r r':List Nat},s.ok=true→t.ok=true→s.txt ++ r=t.txt ++ r'→s=t∧r=r':=by
 intro s
 induction s with
 | k c=>
  intro t r r' hs ht h
  have e:=Yoa h
  have h1:=ok_ar hs; have h2:=ok_ar ht
  rw [e,h2] at h1
  cases t with
  | k d=>simp [txt] at h; simp [h.1,h.2]
  | u d a=>simp [ps] at h1
  | w d a b=>simp [ps] at h1
 | u c a ih=>
  intro t r r' hs ht h
  have e:=Yoa h
  have h1:=ok_ar hs; have h2:=ok_ar ht
  rw [e,h2] at h1
  cases t with
  | k d=>simp [ps] at h1
  | u d a'=>
   simp only [ok,Bool.and_eq_true] at hs ht
   simp only [txt,List.cons_append,List.append_assoc,List.cons.injEq,true_and] at h
   obtain ⟨rfl,h⟩:=h
   obtain ⟨rfl,h⟩:=ih hs.2 ht.2 h
   simp at h; simp [h]
  | w d a' b'=>simp [ps] at h1
 | w c a b iha ihb=>
  intro t r r' hs ht h
  have e:=Yoa h
  have h1:=ok_ar hs; have h2:=ok_ar ht
  rw [e,h2] at h1
  cases t with
  | k d=>simp [ps] at h1
  | u d a'=>simp [ps] at h1
  | w d a' b'=>
   simp only [ok,Bool.and_eq_true] at hs ht
   simp only [txt,List.cons_append,List.append_assoc,List.cons.injEq,true_and] at h
   obtain ⟨rfl,h⟩:=h
   obtain ⟨rfl,h5⟩:=iha hs.1.2 ht.1.2 h
   simp only [List.cons.injEq,true_and] at h5
   obtain ⟨rfl,h3⟩:=ihb hs.2 ht.2 h5
   simp at h3; simp [h3]
theorem txt_inj' {s t:Ty} (hs:s.ok=true) (ht:t.ok=true) (h:s.txt=t.txt):s=t:=
 (txt_inj (r:=[]) (r':=[]) hs ht (by simpa using h)).1
end Ty

def Yce:List Ty→List Nat
 | []=>[]
 | [a]=>40 :: a.txt
 | a :: b :: _=>40 :: (a.txt ++ 44 :: b.txt)
def Zrw (i:Nat):Nat:=if i=0 then 40 else 44
def Zim (s:List Nat) (t:Ty) (r:List Nat):Prop:=t.ok=true∧s=t.txt ++ r
theorem Zim.unique {s:List Nat} {t t':Ty} {r r':List Nat} (h:Zim s t r) (h':Zim s t' r'):t=t'∧r=r':=
 Ty.txt_inj h.1 h'.1 (by rw [← h.2,← h'.2])
theorem Zim.nil {t:Ty} {r:List Nat}:¬ Zim [] t r:=by
 rintro ⟨_,h⟩; have:=t.txt_ne; simp at h; exact this h.1
theorem Zim.step {c:Nat} {l:List Ty} {s r:List Nat} {t:Ty} (hl:∀ p∈l,p.ok=true) (h:Zim (c :: (Yce l ++ s)) t r) (hn:l.length≤t.ps.length) :
  t.hd=c∧l=t.ps.take l.length∧(l.length < t.ps.length→∃ p s',s=Zrw l.length :: s'∧∃ r',Zim s' p r')∧(l.length=t.ps.length→s=(if t.ps=[] then r else 41 :: r)):=by
 obtain ⟨ht,h⟩:=h
 match l,hn with
 | [],_=>
  simp only [Yce,List.nil_append] at h
  cases t with
  | k d=>simp [Ty.txt] at h; simp [Ty.hd,Ty.ps,h]
  | u d a=>
   simp [Ty.txt] at h; simp only [Ty.ok,Bool.and_eq_true] at ht
   exact ⟨h.1.symm,rfl,fun _=>⟨a,_,h.2,_,ht.2,rfl⟩,fun e=>by simp [Ty.ps] at e⟩
  | w d a b=>
   simp [Ty.txt] at h; simp only [Ty.ok,Bool.and_eq_true] at ht
   exact ⟨h.1.symm,rfl,fun _=>⟨a,_,h.2,_,ht.1.2,rfl⟩,fun e=>by simp [Ty.ps] at e⟩
 | [x],hn=>
  have hx:=hl x (by simp)
  cases t with
  | k d=>simp [Ty.ps] at hn
  | u d a=>
   simp only [Ty.ok,Bool.and_eq_true] at ht
   simp only [Yce,Ty.txt,List.cons_append,List.append_assoc,List.cons.injEq,true_and] at h
   obtain ⟨rfl,h⟩:=h
   obtain ⟨rfl,h2⟩:=Ty.txt_inj hx ht.2 h
   exact ⟨rfl,rfl,fun e=>by simp [Ty.ps] at e,fun _=>by simp [Ty.ps,h2]⟩
  | w d a b=>
   simp only [Ty.ok,Bool.and_eq_true] at ht
   simp only [Yce,Ty.txt,List.cons_append,List.append_assoc,List.cons.injEq,true_and] at h
   obtain ⟨rfl,h⟩:=h
   obtain ⟨rfl,h2⟩:=Ty.txt_inj hx ht.1.2 h
   exact ⟨rfl,rfl,fun _=>⟨b,_,h2,_,ht.2,rfl⟩,fun e=>by simp [Ty.ps] at e⟩
 | [x,y],hn=>
  have hx:=hl x (by simp)
  have hy:=hl y (by simp)
  cases t with
  | k d=>simp [Ty.ps] at hn
  | u d a=>simp [Ty.ps] at hn
  | w d a b=>
   simp only [Ty.ok,Bool.and_eq_true] at ht
   simp only [Yce,Ty.txt,List.cons_append,List.append_assoc,List.cons.injEq,true_and] at h
   obtain ⟨rfl,h⟩:=h
   obtain ⟨rfl,h2⟩:=Ty.txt_inj hx ht.1.2 h
   simp only [List.cons.injEq,true_and] at h2
   obtain ⟨rfl,h3⟩:=Ty.txt_inj hy ht.2 h2
   exact ⟨rfl,rfl,fun e=>by simp [Ty.ps] at e,fun _=>by simp [Ty.ps,h3]⟩
 | _ :: _ :: _ :: _,hn=>cases t <;> simp [Ty.ps] at hn

open Classical in
noncomputable def Zyy (s:List Nat):Option Ty:=if h:∃ t:Ty,t.ok=true∧s=t.txt then some h.choose else none
theorem Yen {t:Ty} (h:t.ok=true):Zyy t.txt=some t:=by
 have hex:∃ u:Ty,u.ok=true∧t.txt=u.txt:=⟨t,h,rfl⟩
 unfold Zyy
 rw [dif_pos hex]
 exact congrArg some (Ty.txt_inj' h hex.choose_spec.1 hex.choose_spec.2).symm
theorem Zwa {s:List Nat} {t:Ty}:Zyy s=some t ↔ t.ok=true∧s=t.txt:=by
 constructor
 ·intro h
  unfold Zyy at h
  split at h
  ·rename_i hex
   have e:=(Option.some.inj h)
   have:=hex.choose_spec
   rw [e] at this; exact this
  ·cases h
 ·rintro ⟨h,rfl⟩; exact Yen h
theorem Zsx {s:List Nat}:Zyy s=none ↔ ∀ t:Ty,t.ok=true→s≠t.txt:=by
 constructor
 ·intro h t ht e
  rw [e,Yen ht] at h; cases h
 ·intro h
  cases e:Zyy s with
  | none=>rfl
  | some t=>obtain ⟨h1,h2⟩:=Zwa.1 e; exact absurd h2 (h t h1)
noncomputable def Zhk (s:List Nat):Option Ty:=if s.length≤60 then Zyy s else none
theorem Zdt {s:List Nat} {t:Ty}:Zhk s=some t ↔ t.ok=true∧s=t.txt∧s.length≤60:=by
 unfold Zhk
 by_cases h:s.length≤60
 ·simp only [h,if_true,and_true]; exact Zwa
 ·simp [h]
noncomputable def Zml (s:List Nat):Bool:=(Zhk s).isSome
theorem Zsv {s:List Nat}:Zml s=true ↔ ∃ t:Ty,t.ok=true∧s=t.txt∧s.length≤60:=by
 unfold Zml; rw [Option.isSome_iff_exists]; simp only [Zdt]
theorem Ybj {s:List Nat} (h:Zml s=true):s.length≤60:=by obtain ⟨_,_,_,h⟩:=Zsv.1 h; exact h
theorem Ynn {s:List Nat} (h:Zml s=true):s≠[]:=by obtain ⟨t,_,rfl,_⟩:=Zsv.1 h; exact t.txt_ne

namespace Ty
end Ty
end Go.Sim

set_option linter.unusedSimpArgs false
namespace Go.Sim

def Zcp (c:Nat):List Nat→List (List Nat)
 | []=>[[]]
 | b :: s=>if b=c then [] :: Zcp c s else match Zcp c s with | p :: r=>(b :: p) :: r | []=>[[b]]
theorem Zpw (c:Nat) (s:List Nat):Zcp c s≠[]:=by
 cases s with
 | nil=>simp [Zcp]
 | cons b s => simp only [Zcp]; split
               · simp
               · split <;> simp
theorem Ztp {c:Nat}:∀ {s:List Nat},c ∉ s→Zcp c s=[s]
 | [],_=>rfl
 | b :: s,h=>by
  simp only [List.mem_cons,not_or] at h
  simp only [Zcp,if_neg (fun e=>h.1 e.symm:¬ b=c),Ztp h.2]
theorem Zvp {c:Nat}:∀ {a r:List Nat},c ∉ a→Zcp c (a ++ c :: r)=a :: Zcp c r
 | [],r,_=>by simp [Zcp]
 | b :: a,r,h=>by
  simp only [List.mem_cons,not_or] at h
  simp only [List.cons_append,Zcp,if_neg (fun e=>h.1 e.symm:¬ b=c),Zvp h.2]
theorem Zkp (c:Nat):∀ s:List Nat,(Zcp c s).length=s.count c + 1
 | []=>rfl
 | b :: s=>by
  have ih:=Zkp c s
  simp only [Zcp,List.count_cons]
  by_cases h:b=c
  ·simp [h,ih]
  ·simp only [if_neg h]
   cases hs:Zcp c s with
   | nil=>exact absurd hs (Zpw c s)
   | cons p r=>rw [hs] at ih; simp [h] at ih ⊢; exact ih
theorem Zgm {c:Nat}:∀ {s p:List Nat},p∈Zcp c s→p.length≤s.length
 | [],p,h=>by simp [Zcp] at h; simp [h]
 | b :: s,p,h=>by
  simp only [Zcp] at h
  by_cases hb:b=c
  ·simp only [hb,if_true] at h
   rcases List.mem_cons.1 h with rfl | h
   ·simp
   ·have:=Zgm h; simp; omega
  ·simp only [if_neg hb] at h
   cases hs:Zcp c s with
   | nil=>exact absurd hs (Zpw c s)
   | cons q r=>
    rw [hs] at h
    rcases List.mem_cons.1 h with rfl | h
    ·have:=Zgm (c:=c) (s:=s) (p:=q) (by rw [hs]; simp); simp; omega
    ·have:=Zgm (c:=c) (s:=s) (p:=p) (by rw [hs]; simp [h]); simp; omega
noncomputable def Zmd (s:List Nat):Option (List Nat × List Nat):=
 match s with
 | c :: d :: t=>if d=32∧(65≤c∧c≤84)∧Zml t=true then some ([c],t) else none
 | _=>none
theorem Ydt {α β:Type} (f:α→Option β) (l:List α) (x:α):(l ++ [x]).mapM f=(l.mapM f).bind fun ys=>(f x).map fun y=>ys ++ [y]:=by
 induction l with
 | nil=>simp; cases f x <;> rfl
 | cons a l ih=>
  simp only [List.cons_append,List.mapM_cons,ih]
  cases f a with
  | none=>rfl
  | some y=>simp; cases l.mapM f with
   | none=>rfl
   | some ys=>simp; cases f x <;> simp
theorem Zwm {α β:Type} (f:α→Option β) {l:List α} {k:Nat} (h:(l.take k).mapM f=none):l.mapM f=none:=by
 induction l generalizing k with
 | nil=>simpa using h
 | cons a l ih=>
  cases k with
  | zero=>simp at h
  | succ k=>
   simp only [List.take_succ_cons,List.mapM_cons] at h ⊢
   cases hf:f a with
   | none=>rfl
   | some y=>
    rw [hf] at h
    simp at h ⊢
    cases hl:l.mapM f with
    | none=>simp
    | some ys=>
     cases ht:(l.take k).mapM f with
     | none=>rw [ih ht] at hl; cases hl
     | some zs=>rw [ht] at h; simp at h
theorem Zya {s:List Nat} {p:List Nat × List Nat} (h:Zmd s=some p):p.1.length=1∧p.2.length≤60∧Zml p.2=true:=by
 unfold Zmd at h
 split at h
 ·split at h
  ·rename_i hc
   cases h; exact ⟨rfl,Ybj hc.2.2,hc.2.2⟩
  ·cases h
 ·cases h
end Go.Sim

set_option linter.unusedVariables false
namespace Go.Sim
open Go Go.RowKit
theorem Yhy {h:Zaa} {a:Pt} {n c:Nat} {e:Bool} {l:List (List Nat)} {sep:List Nat} (r:Row h.length h a n (strs l)) (hn:n≤140737488355328) (hl:(sep.intercalate l).length≤140737488355328) :
  Zah pg Zov [.slice a n c e,.str sep] h fun v h'=>v=.str (sep.intercalate l)∧h'=h:=
 Zah.join ⟨_,Go.Proofs.Tryz.func49,by kernel_rfl,by kernel_rfl⟩ Go.Proofs.Tryz.strings_Join_none Go.Proofs.Tryz.strings_Join r hn hl
theorem Zor {h:Zaa} {s:List Nat} {c:Nat}:Zah pg Zgf [.str s,.str [c]] h fun v h'=>v=.bool (decide (c∈s))∧h'=h:=
 Zah.contains1 ⟨_,Go.Proofs.Tryz.func70,by kernel_rfl,by kernel_rfl⟩ Go.Proofs.Tryz.strings_Contains_one
theorem Zuq {h:Zaa} {s p:List Nat}:Zah pg Zjw [.str s,.str p] h fun v h'=>v=.bool (p.isPrefixOf s)∧h'=h:=
 Zah.hasPrefix ⟨_,Go.Proofs.Tryz.func110,by kernel_rfl,by kernel_rfl⟩ Go.Proofs.Tryz.strings_HasPrefix
end Go.Sim

set_option linter.unusedVariables false
set_option linter.unusedSimpArgs false
namespace Go.Sim
open Go Go.RowKit

@[simp] theorem Yeb (c:Nat) (s:List Nat):sub (c :: s) 0 1=[c]:=by simp [sub]
@[simp] theorem Yqv (c:Nat) (s:List Nat):sub (c :: s) 1 ((c :: s).length:Int)=s:=by
 simp only [sub,Int.toNat_natCast,List.take_length]; rfl
theorem Ymu {s s':List Nat} {c:Nat} (h:s=c :: s'):sub s 1 (s.length:Int)=s':=by subst h; exact Yqv c s'
theorem Yos (c:Nat):decide (c∈[105,98,117,120,121,122,88,89,90])=Zkl c:=by
 rw [Bool.eq_iff_iff]; simp [Zkl,Zcr,or_assoc]
def arS (s:List Nat):Int:=match s with | [c]=>arN c | _=>-1
theorem Yhb {h:Zaa} (s:List Nat):Zah pg Zos [.str s] h fun v h'=>v=.int .i64 (arS s)∧h'=h:=by
 apply Zsh.call
 match s with
 | []=>simp [arS]
 | [c]=>
  simp only [List.length_cons,List.length_nil]
  simp only [show ((0 + 1:Nat):Int)=1 from rfl,beq_self_eq_true,Bool.not_true,Zca]
  refine Zor.mono ?_
  rintro v h' ⟨rfl,rfl⟩
  simp only [Zap,Yos]
  unfold arS
  cases hl:Zkl c with
  | true=>simp [arN,hl]
  | false=>
   simp only [Zca,if_false,Bool.false_eq_true]
   refine Zat (fun e=>by simp at e; subst e; exact ⟨rfl,by trivial⟩) fun e1=>Zat (fun e=>by simp at e; subst e; exact ⟨rfl,by trivial⟩) fun e2=>Zat (fun e=>by simp at e; subst e; exact ⟨rfl,by trivial⟩) fun e3=>?_
   simp at e1 e2 e3
   apply Zsh.J9i
   simp [arN,hl,e1,e2,e3]
 | _ :: _ :: r=>
  simp [arS]
  rw [show ((r.length:Int) + 1 + 1 == 1)=false by simp; omega]; simp

def Ztc (S:Nat→Prop) (h:Zaa):Ty→Pt→Prop
 | .k d,p=>∃ i a c e,p=some (i,0)∧S i∧h[i]?=some (.cells Zfj [.str [d],.slice a 0 c e,.ptr none] false)
 | .u d x,p=>∃ i j c e q,p=some (i,0)∧S i∧h[i]?=some (.cells Zfj [.str [d],.slice (some (j,0)) 1 c e,.ptr none] false)∧S j∧h[j]?=some (.cells Zfv [.ptr q] false)∧Ztc S h x q
 | .w d x y,p=>∃ i j c e q r,p=some (i,0)∧S i∧h[i]?=some (.cells Zfj [.str [d],.slice (some (j,0)) 2 c e,.ptr none] false)∧S j∧h[j]?=some (.cells Zfv [.ptr q,.ptr r] false)∧Ztc S h x q∧Ztc S h y r
theorem Ztc.mono {S S':Nat→Prop} {h:Zaa} (hs:∀ i,S i→S' i):∀ {t:Ty} {p:Pt},Ztc S h t p→Ztc S' h t p
 | .k d,p,⟨i,a,c,e,hp,si,hi⟩=>⟨i,a,c,e,hp,hs _ si,hi⟩
 | .u d x,p,⟨i,j,c,e,q,hp,si,hi,sj,hj,hq⟩=>⟨i,j,c,e,q,hp,hs _ si,hi,hs _ sj,hj,hq.mono hs⟩
 | .w d x y,p,⟨i,j,c,e,q,r,hp,si,hi,sj,hj,hq,hr⟩=>⟨i,j,c,e,q,r,hp,hs _ si,hi,hs _ sj,hj,hq.mono hs,hr.mono hs⟩
theorem Ztc.agree {S:Nat→Prop} {h h':Zaa} (hh:∀ i,S i→h'[i]?=h[i]?):∀ {t:Ty} {p:Pt},Ztc S h t p→Ztc S h' t p
 | .k d,p,⟨i,a,c,e,hp,si,hi⟩=>⟨i,a,c,e,hp,si,by rw [hh i si]; exact hi⟩
 | .u d x,p,⟨i,j,c,e,q,hp,si,hi,sj,hj,hq⟩=>⟨i,j,c,e,q,hp,si,by rw [hh i si]; exact hi,sj,by rw [hh j sj]; exact hj,hq.agree hh⟩
 | .w d x y,p,⟨i,j,c,e,q,r,hp,si,hi,sj,hj,hq,hr⟩=>⟨i,j,c,e,q,r,hp,si,by rw [hh i si]; exact hi,sj,by rw [hh j sj]; exact hj,hq.agree hh,hr.agree hh⟩
theorem Ztc.lt {S:Nat→Prop} {h:Zaa}:∀ {t:Ty} {p:Pt},Ztc S h t p→∃ i,p=some (i,0)∧S i∧i < h.length
 | .k d,p,⟨i,a,c,e,hp,si,hi⟩=>⟨i,hp,si,Own.lt hi⟩
 | .u d x,p,⟨i,j,c,e,q,hp,si,hi,_⟩=>⟨i,hp,si,Own.lt hi⟩
 | .w d x y,p,⟨i,j,c,e,q,r,hp,si,hi,_⟩=>⟨i,hp,si,Own.lt hi⟩
theorem Ztc.parts {S:Nat→Prop} {h:Zaa} {t:Ty} {p:Pt} (r:Ztc S h t p):∃ i a c e,∃ qs:List Pt,p=some (i,0)∧S i∧h[i]?=some (.cells Zfj [.str [t.hd],.slice a t.ps.length c e,.ptr none] false) ∧
  Row h.length h a t.ps.length (qs.map .ptr)∧(∀ j o,t.ps.length≠0→a=some (j,o)→S j)∧qs.length=t.ps.length∧∀ (k:Nat) (q:Pt) (x:Ty),qs[k]?=some q→t.ps[k]?=some x→Ztc S h x q:=by
 cases t with
 | k d=>
  obtain ⟨i,a,c,e,hp,si,hi⟩:=r
  exact ⟨i,a,c,e,[],hp,si,hi,Row.nil,fun _ _ h=>absurd rfl h,rfl,by simp⟩
 | u d x=>
  obtain ⟨i,j,c,e,q,hp,si,hi,sj,hj,hq⟩:=r
  refine ⟨i,_,c,e,[q],hp,si,hi,⟨rfl,.inr ⟨j,0,_,_,_,rfl,Own.lt hj,hj,by simp [Ty.ps],by simp [Ty.ps]⟩⟩,?_,rfl,?_⟩
  ·rintro j' o' _ e; cases e; exact sj
  ·intro k q' x' h1 h2
   cases k with
   | zero=>simp [Ty.ps] at h1 h2; subst h1; subst h2; exact hq
   | succ k=>simp at h1
 | w d x y=>
  obtain ⟨i,j,c,e,q,r,hp,si,hi,sj,hj,hq,hr⟩:=r
  refine ⟨i,_,c,e,[q,r],hp,si,hi,⟨rfl,.inr ⟨j,0,_,_,_,rfl,Own.lt hj,hj,by simp [Ty.ps],by simp [Ty.ps]⟩⟩,?_,rfl,?_⟩
  ·rintro j' o' _ e; cases e; exact sj
  ·intro k q' x' h1 h2
   match k with
   | 0=>simp [Ty.ps] at h1 h2; subst h1; subst h2; exact hq
   | 1=>simp [Ty.ps] at h1 h2; subst h1; subst h2; exact hr
   | k + 2=>simp at h1
theorem Ztc.make {S:Nat→Prop} {h:Zaa} {t:Ty} {i:Nat} {a:Pt} {n c:Nat} {e:Bool} {qs:List Pt} (si:S i) (hi:h[i]?=some (.cells Zfj [.str [t.hd],.slice a n c e,.ptr none] false)) (hn:n=t.ps.length)
  (hv:Vec Zfv h a n c (qs.map .ptr)) (hl:qs.length=n) (ha:∀ j,a=some (j,0)→S j) (hq:∀ (k:Nat) (q:Pt) (x:Ty),qs[k]?=some q→t.ps[k]?=some x→Ztc S h x q):Ztc S h t (some (i,0)):=by
 subst hn
 cases t with
 | k d=>exact ⟨i,a,c,e,rfl,si,hi⟩
 | u d x=>
  rcases hv with ⟨_,h0,_⟩ | ⟨j,rfl,hj⟩
  ·simp [Ty.ps] at h0
  ·match qs,hl with
   | [q],_=>exact ⟨i,j,c,e,q,rfl,si,hi,ha j rfl,hj,hq 0 q x rfl rfl⟩
 | w d x y=>
  rcases hv with ⟨_,h0,_⟩ | ⟨j,rfl,hj⟩
  ·simp [Ty.ps] at h0
  ·match qs,hl with
   | [q,r],_=>exact ⟨i,j,c,e,q,r,rfl,si,hi,ha j rfl,hj,hq 0 q x rfl rfl,hq 1 r y rfl rfl⟩

theorem Yjw:pg.underlying Zrr=some (.slice Zfv):=by kernel_rfl
theorem Yox:pg.cellsOf Zfv=1:=by kernel_rfl
theorem Yqk:pg.okElem Zfv=true:=by kernel_rfl
theorem Ypx:pg.bytesOf Zfv≤127:=Nat.le_of_ble_eq_true (by kernel_rfl)

theorem Ypz {g:Nat} (hg:g < 2):sub [40,44] (g:Int) (IntKind.wrap .i64 ((g:Int) + 1))=[Zrw g]:=by
 rcases g with _ | _ | g
 ·rfl
 ·rfl
 ·omega
theorem Zsl (c:Nat) (s:List Nat):([c]:List Nat).isPrefixOf s=true ↔ ∃ r,s=c :: r:=by
 cases s with
 | nil=>exact ⟨fun h=>(by cases h),fun ⟨r,h⟩=>(by cases h)⟩
 | cons d r=>
  have:([c]:List Nat).isPrefixOf (d :: r)=(c == d):=by show (c == d && _)=_; exact Bool.and_true _
  rw [this,beq_iff_eq]
  exact ⟨fun h=>⟨r,by rw [h]⟩,fun ⟨r',h⟩=>(by cases h; rfl)⟩
def Btw (lo hi:Nat):Nat→Prop:=fun i=>lo≤i∧i < hi
set_option maxRecDepth 20000 in
theorem Ygb:∀ (N:Nat) (s:List Nat),s.length≤N→∀ h:Zaa,Zah pg Zkq [.str s] h fun v h'=>Zbc h.length h h'∧∃ p r,v=.tup [.ptr p,.str r] ∧
  ((∃ t,Zim s t r∧Ztc (Btw h.length h'.length) h' t p) ∨ (p=none∧∀ t r',¬ Zim s t r')):=by
 intro N
 induction N with
 | zero=>
  intro s hs h
  have:s=[]:=List.eq_nil_of_length_eq_zero (by omega)
  subst this
  apply Zew.call
  simp
  exact ⟨Zbc.refl _ _,none,[],⟨rfl,rfl⟩,.inr ⟨rfl,fun t r'=>Zim.nil⟩⟩
 | succ N ih=>
  intro s hs h
  apply Zew.call
  match s,hs with
  | [],_=>simp; exact ⟨Zbc.refl _ _,none,[],⟨rfl,rfl⟩,.inr ⟨rfl,fun t r'=>Zim.nil⟩⟩
  | c :: s,hs=>
  simp only [List.length_cons] at hs
  simp only [reduceCtorEq,decide_false,Zca]
  refine ⟨⟨by omega,by omega,by simp; omega⟩,?_⟩
  rw [Yeb]
  refine (Yhb [c]).mono ?_
  rintro v h1 ⟨rfl,rfl⟩
  simp only [Zar,arS]
  refine Zat (fun hneg=>?_) (fun hge=>?_)
  ·refine ⟨Zbc.refl _ _,_,_,rfl,.inr ⟨rfl,?_⟩⟩
   rintro t r' ⟨ht,he⟩
   have:=Ty.ok_ar ht
   obtain ⟨r,hr⟩:=t.txt_cons
   rw [hr] at he; simp at he
   rw [← he.1] at this; omega
  ·apply Zew.J3i
   refine ⟨⟨by omega,by omega,by simp; omega⟩,?_⟩
   simp only [Zaw]
   refine ⟨⟨by omega,by simp; omega,by simp⟩,?_⟩
   rw [Yeb,Yqv]
   have hc0:Zag (h1 ++ [Zcd.cells Zfj [.str [c],.slice none 0 0 true,.ptr none] false]) (.ptr (some (h1.length,0 + 0)))=some (.str [c]):=by simp [Zag]
   rw [hc0]
   simp only [Zal]
   refine (Yhb [c]).mono ?_
   rintro v h2 ⟨rfl,rfl⟩
   simp only [Zar,arS]
   obtain ⟨m,hm⟩:∃ m:Nat,arN c=m:=⟨(arN c).toNat,by omega⟩
   have hm2 : m ≤ 2 := by unfold arN at hm; split at hm <;> try split at hm
                          all_goals try split at hm
                          all_goals omega
   rw [hm]
   refine Zew.L6ind _ _ _ _ (J:=fun (g:Nat) x0 x28 h'=>x28=(g:Int)∧g≤m∧Zbc h1.length h1 h'∧h1.length < h'.length∧x0.length≤N∧∃ (ps:List Ty) (qs:List Pt) (a:Pt) (cp:Nat) (e:Bool),ps.length=g∧qs.length=g∧(∀ p∈ps,p.ok=true)∧s=Yce ps ++ x0 ∧
    h'[h1.length]?=some (.cells Zfj [.str [c],.slice a g cp e,.ptr none] false)∧Vec Zfv h' a g cp (qs.map .ptr)∧(∀ j,a=some (j,0)→h1.length < j) ∧
    ∀ (k:Nat) (q:Pt) (x:Ty),qs[k]?=some q→ps[k]?=some x→∃ lo hi,h1.length < lo∧hi≤h'.length∧(∀ j,a=some (j,0)→¬ Btw lo hi j)∧Ztc (Btw lo hi) h' x q)
    (fun g=>m - g) ?_ 0 _ _ _ ⟨rfl,by omega,Zbc.app (Nat.le_refl _) _,by simp,by omega,[],[],none,0,true,rfl,rfl,by simp,by simp [Yce],by simp,Vec.mk0,by simp,by simp⟩
   rintro g x0 x28 h' ⟨rfl,hg,hS,hlt1,hx0,ps,qs,a,cp,e,hps,hqs,hok,hs0,hnode,hvec,ha,hrep⟩ R hR
   unfold Zew.L6t
   have fail:∀ (h2:Zaa),Zbc h'.length h' h2→(∀ t r',¬ Zim (c :: s) t r')→Zbc h1.length h1 h2∧∃ p r,(Zau.tup [.ptr none,.str x0])=.tup [.ptr p,.str r] ∧
     ((∃ t,Zim (c :: s) t r∧Ztc (Btw h1.length h2.length) h2 t p) ∨ (p=none∧∀ t r',¬ Zim (c :: s) t r')):=
    fun h2 s2 hno=>⟨hS.trans (s2.mono hS.le),none,x0,rfl,.inr ⟨rfl,hno⟩⟩
   have step:∀ t r',Zim (c :: s) t r'→t.hd=c∧t.ps.length=m∧ps=t.ps.take ps.length∧(ps.length < t.ps.length→∃ p s',x0=Zrw ps.length :: s'∧∃ r',Zim s' p r')∧(ps.length=t.ps.length→x0=(if t.ps=[] then r' else 41 :: r')):=by
    intro t r' ho
    have h1:=Ty.ok_ar ho.1
    have hhd:t.hd=c:=by
     obtain ⟨r,hr⟩:=t.txt_cons
     have:=ho.2; rw [hr] at this; simp at this; exact this.1.symm
    rw [hhd,hm] at h1
    rw [hs0] at ho
    have:=ho.step hok (by omega)
    exact ⟨hhd,by omega,this.2⟩
   refine Zat (fun hlt=>?_) (fun hge2=>?_)
   ·have hlt':g < m:=by omega
    refine ⟨⟨by omega,?_,?_⟩,?_⟩
    ·rw [IntWalk.i64_in _ (by omega)]; omega
    ·rw [IntWalk.i64_in _ (by omega)]; simp; omega
    rw [Ypz (by omega)]
    refine Zuq.mono ?_
    rintro v h2 ⟨rfl,rfl⟩
    simp only [Zap]
    cases hp:([Zrw g]:List Nat).isPrefixOf x0 with
    | false=>
     simp only [Bool.not_false,Zcn]
     refine fail _ (Zbc.refl _ _) fun t r' ho=>?_
     obtain ⟨_,hl,_,hst,_⟩:=step t r' ho
     obtain ⟨p,s',hx,_⟩:=hst (by omega)
     rw [hps] at hx
     have:([Zrw g]:List Nat).isPrefixOf x0=true:=(Zsl _ _).2 ⟨_,hx⟩
     rw [hp] at this; cases this
    | true=>
     obtain ⟨s',hx⟩:=(Zsl _ _).1 hp
     simp only [Bool.not_true,Zca]
     refine ⟨⟨by omega,by rw [hx]; simp; omega,by omega⟩,?_⟩
     rw [Ymu hx]
     have hsl:s'.length≤N:=by rw [hx] at hx0; simp at hx0; omega
     refine (ih s' hsl h2).mono ?_
     rintro v h3 ⟨hS3,p,r,rfl,hres⟩
     simp only [Zct,Zaf,Zhr,Zal,Zan]
     rcases hres with ⟨t,ho,hn⟩ | ⟨rfl,hno⟩
     ·obtain ⟨i,rfl,hbi,hil⟩:=hn.lt
      simp only [Option.isNone_some,Zca]
      have hn3:h3[h1.length]?=some (.cells Zfj [.str [c],.slice a g cp e,.ptr none] false):=by rw [hS3.eq _ hlt1]; exact hnode
      have hcell:Zag h3 (.ptr (some (h1.length,0 + 1)))=some (.slice a g cp e):=by simp [Zag,hn3]
      rw [hcell]
      simp only [Zae,Zaw]
      refine (hvec.same hS3).push Yjw Yox Yqk Ypx (by simp [hqs]) rfl (by omega) (fun h4 hl4 hi4 hk4=>?_)
      simp only [Zae]
      have hn4:h4[h1.length]?=some (.cells Zfj [.str [c],.slice a g cp e,.ptr none] false):=by
       rw [hk4 _ (Own.lt hn3) fun i hi=>by have:=ha i hi; omega]; exact hn3
      have hst:Zbb h4 (.ptr (some (h1.length,0 + 1))) [.slice (some (h3.length + 1,0)) (g + 1) (g + 1) false]=some (h4.set h1.length (.cells Zfj [.str [c],.slice (some (h3.length + 1,0)) (g + 1) (g + 1) false,.ptr none] false)):=by
       simp [Zbb,hn4,putRow]
      rw [hst]
      simp only [Zas]
      rw [IntWalk.i64_in _ (by omega)]
      have hle3:=hS3.le
      have hset:∀ j,j≠h1.length→(h4.set h1.length (Zcd.cells Zfj [.str [c],.slice (some (h3.length + 1,0)) (g + 1) (g + 1) false,.ptr none] false))[j]?=h4[j]?:=fun j hj=>List.getElem?_set_ne (by omega)
      have hsame:∀ j,j < h1.length→h4[j]?=h1[j]?:=fun j hj=>by
       rw [hk4 j (by omega) fun i hi=>by have:=ha i hi; omega,hS3.eq j (by omega),hS.eq j hj]
      refine hR (g + 1) _ _ _ (by omega) ⟨by omega,by omega,⟨by simp; omega,fun j hj=>by rw [hset j (by omega)]; exact hsame j hj⟩,by simp; omega,?_,ps ++ [t],qs ++ [some (i,0)],some (h3.length + 1,0),g + 1,false,by simp [hps],by simp [hqs],?_,?_,?_,?_,?_,?_⟩
      ·have:=ho.2; have hl:=congrArg List.length this; simp at hl; omega
      ·intro p hp
       rcases List.mem_append.1 hp with hp | hp
       ·exact hok p hp
       ·simp at hp; subst hp; exact ho.1
      ·rw [hs0,hx,ho.2]
       match ps,hps,hlt' with
       | [],hps,_=>subst hps; simp [Yce,Zrw]
       | [x],hps,_=>subst hps; simp [Yce,Zrw]
       | x :: y :: l,hps,_=>simp at hps; omega
      ·rw [List.getElem?_set_self (by omega)]
      ·refine Vec.mk1 ?_
       rw [hset _ (by omega)]
       simpa using hi4
      ·intro j hj; cases hj; omega
      ·intro k q x hq hx'
       by_cases hkg:k < g
       ·rw [List.getElem?_append_left (by omega)] at hq hx'
        obtain ⟨lo,hi,hlo,hhi,hbt,hnr⟩:=hrep k q x hq hx'
        refine ⟨lo,hi,hlo,by simp; omega,fun j hj hb=>by cases hj; have:=hb.2; omega,hnr.agree fun j hb=>?_⟩
        have:=hb.1; have:=hb.2
        rw [hset j (by omega),hk4 j (by omega) fun i hi=>fun e=>hbt i hi (e ▸ hb),hS3.eq j (by omega)]
       ·have hkg':k=g:=by
         have:=(List.getElem?_eq_some_iff.1 hq).1; simp at this; omega
        subst hkg'
        rw [List.getElem?_append_right (by omega)] at hq hx'
        simp [hps,hqs] at hq hx'
        subst hq; subst hx'
        refine ⟨h2.length,h3.length,by omega,by simp; omega,fun j hj hb=>by cases hj; have:=hb.2; omega,hn.agree fun j hb=>?_⟩
        have:=hb.1; have:=hb.2
        rw [hset j (by omega),hk4 j (by omega) fun i hi=>fun e=>by
         subst e
         rw [hi] at hvec
         have:=hvec.lt
         omega]
     ·simp only [Option.isNone_none,Zcn]
      refine fail _ hS3 fun t r' ho=>?_
      obtain ⟨_,hl,_,hst,_⟩:=step t r' ho
      obtain ⟨p,s2,hx2,r2,ho2⟩:=hst (by omega)
      rw [hps,hx] at hx2
      simp at hx2
      rw [← hx2] at ho2
      exact hno _ _ ho2
   ·have hgm:g=m:=by omega
    subst hgm
    apply Zew.A6x0i
    have hcell:Zag h' (.ptr (some (h1.length,0 + 1)))=some (.slice a g cp e):=by simp [Zag,hnode]
    rw [hcell]
    simp only [Zae]
    have mk:∀ t r',Zim (c :: s) t r'→Ztc (Btw h1.length h'.length) h' t (some (h1.length,0)):=by
     intro t r' ho
     obtain ⟨hhd,hl,htk,_⟩:=step t r' ho
     rw [hps,← hl,List.take_length] at htk
     refine Ztc.make (S:=Btw h1.length h'.length) (a:=a) (n:=g) (c:=cp) (e:=e) (qs:=qs) ⟨Nat.le_refl _,hlt1⟩ (by rw [hhd]; exact hnode) (by omega) hvec hqs (fun j hj=>⟨by have:=ha j hj; omega,by subst hj; exact hvec.lt⟩) fun k q x hq hx=>?_
     rw [← htk] at hx
     obtain ⟨lo,hi,hlo,hhi,hbt,hnr⟩:=hrep k q x hq hx
     exact hnr.mono fun i hb=>⟨by have:=hb.1; omega,by have:=hb.2; omega⟩
    -- the type that was read
    have hty:∃ t:Ty,t.ok=true∧t.hd=c∧t.ps=ps:=by
     match ps,hps,hok with
     | [],hps,_=>
      have h0:arN c=0:=by simp at hps; omega
      refine ⟨.k c,?_,rfl,rfl⟩
      simp only [Ty.ok]
      cases hl:Zkl c with
      | true=>rfl
      | false => unfold arN at h0; rw [hl] at h0; simp at h0; split at h0 <;> try split at h0
                 all_goals omega
     | [x],hps,hok=>
      have h0:arN c=1:=by simp at hps; omega
      refine ⟨.u c x,?_,rfl,rfl⟩
      simp only [Ty.ok,hok x (by simp),Bool.and_true,Bool.or_eq_true,beq_iff_eq]
      unfold arN at h0; split at h0
      ·omega
      ·split at h0
       ·rename_i h; simpa using h
       ·split at h0 <;> omega
     | [x,y],hps,hok=>
      have h0:arN c=2:=by simp at hps; omega
      refine ⟨.w c x y,?_,rfl,rfl⟩
      simp only [Ty.ok,hok x (by simp),hok y (by simp),Bool.and_true,beq_iff_eq]
      unfold arN at h0; split at h0
      ·omega
      ·split at h0
       ·omega
       ·split at h0
        ·rename_i h; simpa using h
        ·omega
     | _ :: _ :: _ :: _,hps,_=>simp at hps; omega
    obtain ⟨t,htok,hthd,htps⟩:=hty
    refine Zat (fun hpos=>?_) (fun hz=>?_)
    ·refine Zuq.mono ?_
     rintro v h2 ⟨rfl,rfl⟩
     simp only [Zap]
     have hne:ps≠[]:=by intro e; subst e; simp at hps; omega
     cases hp:([41]:List Nat).isPrefixOf x0 with
     | false=>
      simp only [Bool.not_false,Zcn]
      refine fail _ (Zbc.refl _ _) fun t r' ho=>?_
      obtain ⟨_,hl,htk,_,hst⟩:=step t r' ho
      have:=hst (by omega)
      have hne:t.ps≠[]:=by intro e; rw [e] at hl; simp at hl; omega
      rw [if_neg hne] at this
      have:([41]:List Nat).isPrefixOf x0=true:=(Zsl _ _).2 ⟨_,this⟩
      rw [hp] at this; cases this
     | true=>
      obtain ⟨s',hx⟩:=(Zsl _ _).1 hp
      simp only [Bool.not_true,Zca]
      refine ⟨⟨by omega,by rw [hx]; simp; omega,by omega⟩,?_⟩
      rw [Ymu hx]
      apply Zew.J20i
      have ho:Zim (c :: s) t s':=by
       refine ⟨htok,?_⟩
       rw [hs0,hx]
       cases t with
       | k d=>simp [Ty.ps] at htps; subst htps; exact absurd rfl hne
       | u d x=>simp [Ty.ps] at htps; subst htps; simp [Ty.hd] at hthd; subst hthd; simp [Yce,Ty.txt]
       | w d x y=>simp [Ty.ps] at htps; subst htps; simp [Ty.hd] at hthd; subst hthd; simp [Yce,Ty.txt]
      exact ⟨hS,_,_,rfl,.inl ⟨t,ho,mk _ _ ho⟩⟩
    ·apply Zew.J20i
     have h0:ps=[]:=List.eq_nil_of_length_eq_zero (by omega)
     subst h0
     have ho:Zim (c :: s) t x0:=by
      refine ⟨htok,?_⟩
      rw [hs0]
      cases t with
      | k d=>simp [Ty.hd] at hthd; subst hthd; simp [Yce,Ty.txt]
      | u d x=>simp [Ty.ps] at htps
      | w d x y=>simp [Ty.ps] at htps
     exact ⟨hS,_,_,rfl,.inl ⟨t,ho,mk _ _ ho⟩⟩

theorem Zyk (s:List Nat) (h:Zaa):Zah pg Zla [.str s] h fun v h'=>Zbc h.length h h'∧∃ p,v=.ptr p∧(match Zhk s with | some t=>Ztc (Btw h.length h'.length) h' t p | none=>p=none):=by
 apply Zuo.call
 refine Zat (fun hl=>?_) (fun hl=>?_)
 ·have:Zhk s=none:=by unfold Zhk; rw [if_neg (by omega)]
  rw [this]
  exact ⟨Zbc.refl _ _,none,rfl,rfl⟩
 ·refine (Ygb s.length s (Nat.le_refl _) h).mono ?_
  rintro v h1 ⟨hS,p,r,rfl,hres⟩
  simp only [Zct,Zaf,Zhr,Zal,Zan]
  have hof:Zhk s=Zyy s:=by unfold Zhk; rw [if_pos (by omega)]
  rw [hof]
  rcases hres with ⟨t,ho,hn⟩ | ⟨rfl,hno⟩
  ·by_cases hr:r=[]
   ·subst hr
    have:Zyy s=some t:=Zwa.2 ⟨ho.1,by simpa using ho.2⟩
    simp [this]; exact ⟨hS,hn⟩
   ·have:Zyy s=none:=Zsx.2 fun t' ht' e=>by
     have:=Zim.unique ho ⟨ht',show s=t'.txt ++ [] by simpa using e⟩
     exact hr this.2
    simp [hr,this]; exact hS
  ·have:Zyy s=none:=Zsx.2 fun t' ht' e=>hno t' [] ⟨ht',by simpa using e⟩
   rw [this]
   by_cases hr:r=[]
   ·simp [hr]; exact hS
   ·simp [hr]; exact hS
theorem Zke (s:List Nat) (h:Zaa):Zah pg Zfa [.str s] h fun v h'=>v=.bool (Zml s)∧Zbc h.length h h':=by
 apply Zrf.call
 refine (Zyk s h).mono ?_
 rintro v h1 ⟨hS,p,rfl,hp⟩
 simp only [Zhr]
 unfold Zml
 cases ho:Zhk s with
 | none=>rw [ho] at hp; subst hp; simp; exact hS
 | some t=>rw [ho] at hp; obtain ⟨i,rfl,_⟩:=hp.lt; simp; exact hS
end Go.Sim
