/- A part of the proof of a statement of this seat: see the text that holds the theorem. No condition. -/
import Derived.Test.YtdglddliggejdaaPUnif
import Derived.Test.YtdglddliggejdaaPTCWVal
import Derived.Test.YtdglddliggejdaaNm
import Derived.Test.YtdglddliggejdaaPTCGrE
set_option linter.unusedVariables false
set_option linter.unusedSimpArgs false
set_option linter.all false
set_option linter.unusedSimpArgs false
set_option linter.unusedVariables false
namespace Go.Sim

structure Gr where
 hd:Nat→Nat
 ps:Nat→List Nat
inductive Pth (lk:Nat→Option Nat):Nat→Nat→Nat→Prop
 | refl {n:Nat}:Pth lk 0 n n
 | step {n m e k:Nat}:lk n=some m→Pth lk k m e→Pth lk (k + 1) n e
def Zyh (lk lk':Nat→Option Nat):Prop:=∀ n m,lk n=some m→lk' n=some m
section
variable {lk lk':Nat→Option Nat}
theorem Zyh.refl (lk:Nat→Option Nat):Zyh lk lk:=fun _ _ h=>h
theorem Zyh.trans {a b c:Nat→Option Nat} (h:Zyh a b) (k:Zyh b c):Zyh a c:=fun n m x=>k n m (h n m x)
theorem Zyh.none (x:Zyh lk lk') {n:Nat} (h:lk' n=none):lk n=none:=by
 cases hn:lk n with
 | none=>rfl
 | some m=>rw [x n m hn] at h; cases h
theorem Pth.trans {i j n m e:Nat} (h:Pth lk i n m) (h':Pth lk j m e):Pth lk (i + j) n e:=by
 induction h with
 | refl=>simpa using h'
 | @step n m' e' k h1 _ ih=>have:=Pth.step h1 (ih h'); rw [show k + 1 + j=k + j + 1 by omega]; exact this
theorem Pth.ext (x:Zyh lk lk') {k n e:Nat} (h:Pth lk k n e):Pth lk' k n e:=by
 induction h with
 | refl=>exact .refl
 | step h1 _ ih=>exact .step (x _ _ h1) ih
theorem Pth.two {i j a x y:Nat} (h:Pth lk i a x) (h':Pth lk j a y):(∃ k,Pth lk k x y) ∨ ∃ k,Pth lk k y x:=by
 induction h generalizing j with
 | refl=>exact .inl ⟨_,h'⟩
 | step h1 h2 ih=>
  cases h' with
  | refl=>exact .inr ⟨_,.step h1 h2⟩
  | step h3 h4=>rw [h1] at h3; cases h3; exact ih h4
theorem Pth.at_end {k e x:Nat} (h:Pth lk k e x) (he:lk e=none):x=e:=by
 cases h with
 | refl=>rfl
 | step h1 _=>rw [he] at h1; cases h1
theorem Pth.to_end {i j a x e:Nat} (h:Pth lk i a x) (h':Pth lk j a e) (he:lk e=none):∃ k,Pth lk k x e:=by
 rcases h.two h' with h | ⟨k,h⟩
 ·exact h
 ·have:=h.at_end he; subst this; exact ⟨0,.refl⟩
theorem Pth.end_eq {i j a e e':Nat} (h:Pth lk i a e) (h':Pth lk j a e') (he:lk e=none) (he':lk e'=none):e=e':=by
 obtain ⟨k,hk⟩:=h.to_end h' he'
 exact (hk.at_end he).symm
def Jnd (lk:Nat→Option Nat) (a b:Nat):Prop:=∃ i j e,Pth lk i a e∧Pth lk j b e
theorem Jnd.refl (a:Nat):Jnd lk a a:=⟨0,0,a,.refl,.refl⟩
theorem Jnd.symm {a b:Nat}:Jnd lk a b→Jnd lk b a:=fun ⟨i,j,e,h1,h2⟩=>⟨j,i,e,h2,h1⟩
theorem Jnd.trans {a b c:Nat}:Jnd lk a b→Jnd lk b c→Jnd lk a c:=fun ⟨i,j,e,h1,h2⟩ ⟨i',j',e',h3,h4⟩=>by
 rcases h2.two h3 with ⟨k,h⟩ | ⟨k,h⟩
 ·exact ⟨_,_,e',h1.trans h,h4⟩
 ·exact ⟨_,_,e,h1,h4.trans h⟩
theorem Jnd.ext (x:Zyh lk lk') {a b:Nat}:Jnd lk a b→Jnd lk' a b:=fun ⟨i,j,e,h1,h2⟩=>⟨i,j,e,h1.ext x,h2.ext x⟩
theorem Jnd.of_path {k a e:Nat} (h:Pth lk k a e):Jnd lk a e:=⟨k,0,e,h,.refl⟩
theorem Jnd.end_ {a b k e:Nat} (h:Jnd lk a b) (hp:Pth lk k a e) (he:lk e=none):∃ j,Pth lk j b e:=by
 obtain ⟨i,j,m,h1,h2⟩:=h
 obtain ⟨q,hq⟩:=h1.to_end hp he
 exact ⟨_,h2.trans hq⟩
def lnk (lk:Nat→Option Nat) (a b:Nat):Nat→Option Nat:=fun n=>if n=a then some b else lk n
theorem Zwu {a b:Nat} (ha:lk a=none):Zyh lk (lnk lk a b):=fun n m h=>by
 unfold lnk
 rw [if_neg]; exact h
 rintro rfl; rw [ha] at h; cases h
def ub (N:List Nat) (lk:Nat→Option Nat):Nat:=N.countP fun n=>(lk n).isNone
theorem Ygx {N:List Nat} (x:Zyh lk lk'):ub N lk'≤ub N lk:=by
 unfold ub
 refine List.countP_mono_left fun n _ h=>?_
 simp only [Option.isNone_iff_eq_none] at h ⊢
 exact x.none h
theorem Ylf {N:List Nat} {a b:Nat} (hN:a∈N) (ha:lk a=none):ub N (lnk lk a b) < ub N lk:=by
 unfold ub
 induction N with
 | nil=>cases hN
 | cons n N ih=>
  have hm:N.countP (fun n=>(lnk lk a b n).isNone)≤N.countP fun n=>(lk n).isNone:=Ygx (Zwu ha)
  rw [List.countP_cons,List.countP_cons]
  by_cases e:n=a
  ·subst e
   simp only [lnk,if_true,Option.isNone_some,ha,Option.isNone_none,Bool.false_eq_true,if_false]
   unfold lnk at hm
   omega
  ·have:=ih ((List.mem_cons.1 hN).resolve_left fun h=>e h.symm)
   have h2:(lnk lk a b n).isNone=(lk n).isNone:=by simp [lnk,e]
   rw [h2]; omega
end
structure GOk (G:Gr) (N:List Nat) (lk:Nat→Option Nat):Prop where
 par:∀ n∈N,∀ p∈G.ps n,p∈N
 ar:∀ n∈N,arN (G.hd n)=((G.ps n).length:Int)
 lkN:∀ n m,n∈N→lk n=some m→m∈N
 end_ : ∀ n ∈ N, ∃ k e, Pth lk k n e ∧ lk e = none
section
variable {G:Gr} {N:List Nat} {lk lk':Nat→Option Nat}
theorem GOk.path (g:GOk G N lk) {k n e:Nat} (hn:n∈N) (h:Pth lk k n e):e∈N:=by
 induction h with
 | refl=>exact hn
 | step h1 _ ih=>exact ih (g.lkN _ _ hn h1)
theorem GOk.link (g:GOk G N lk) {a b:Nat} (hb:b∈N) (ha0:lk a=none) (hb0:lk b=none) (hne:a≠b):GOk G N (lnk lk a b):=by
 refine ⟨g.par,g.ar,fun n m hn h=>?_,fun n hn=>?_⟩
 ·unfold lnk at h
  by_cases e:n=a
  ·rw [if_pos e] at h; cases h; exact hb
  ·rw [if_neg e] at h; exact g.lkN n m hn h
 ·obtain ⟨k,e,hp,he⟩:=g.end_ n hn
  by_cases ea:e=a
  ·subst ea
   refine ⟨k + 1,b,(hp.ext (Zwu ha0)).trans (.step (by simp [lnk]) .refl),?_⟩
   simp only [lnk]; rw [if_neg fun e=>hne e.symm]; exact hb0
  ·exact ⟨k,e,hp.ext (Zwu ha0),by simp [lnk,ea,he]⟩
def Str (G:Gr) (N:List Nat) (val:Nat→Ty):Prop:=∀ n∈N,Zbc (G.hd n)=false→(val n).hd=G.hd n∧(val n).ps=(G.ps n).map val
def Rsp (N:List Nat) (lk:Nat→Option Nat) (val:Nat→Ty):Prop:=∀ n m,n∈N→lk n=some m→val n=val m
theorem Rsp.path (g:GOk G N lk) {val:Nat→Ty} (r:Rsp N lk val) {k n e:Nat} (hn:n∈N) (h:Pth lk k n e):val n=val e:=by
 induction h with
 | refl=>rfl
 | step h1 _ ih=>rw [r _ _ hn h1]; exact ih (g.lkN _ _ hn h1)
theorem Rsp.link {val:Nat→Ty} (r:Rsp N lk val) {a b:Nat} (h:val a=val b):Rsp N (lnk lk a b) val:=by
 intro n m hn hl
 unfold lnk at hl
 by_cases e:n=a
 ·rw [if_pos e] at hl; cases hl; rw [e]; exact h
 ·rw [if_neg e] at hl; exact r n m hn hl
def Ymw (G:Gr) (lk:Nat→Option Nat) (n m:Nat):Prop:=
 (Zbc (G.hd n)=false→G.hd m=G.hd n∧∀ (i p q:Nat),(G.ps n)[i]?=some p→(G.ps m)[i]?=some q→Jnd lk p q)∧(Zbc (G.hd n)=true→Zbc (G.hd m)=true→G.hd n≤G.hd m)
theorem Ymw.ext (x:Zyh lk lk') {n m:Nat} (h:Ymw G lk n m):Ymw G lk' n m:=⟨fun hv=>⟨(h.1 hv).1,fun i p q h1 h2=>((h.1 hv).2 i p q h1 h2).ext x⟩,h.2⟩
def Cls (G:Gr) (N:List Nat) (lk:Nat→Option Nat):Prop:=∀ n m,n∈N→lk n=some m→Ymw G lk n m
theorem Zsr {c:Nat} (h:Zbc c=true):arN c=0:=by unfold arN Zfi; rw [h]; simp
theorem GOk.var_ps (g:GOk G N lk) {n:Nat} (hn:n∈N) (hv:Zbc (G.hd n)=true):G.ps n=[]:=by
 have:=g.ar n hn; rw [Zsr hv] at this; exact List.eq_nil_of_length_eq_zero (by omega)
theorem Ypn (c:Nat):arN c≤2:=by
 unfold arN; split <;> try split
 all_goals try split
 all_goals omega
theorem GOk.ps_le (g:GOk G N lk) {n:Nat} (hn:n∈N):(G.ps n).length≤2:=by have:=g.ar n hn; have:=Ypn (G.hd n); omega
inductive VT (G:Gr) (lk:Nat→Option Nat) (nu:Nat→Nat):Nat→Ty→Prop
 | var {n e k:Nat}:Pth lk k n e→lk e=none→Zbc (G.hd e)=true→VT G lk nu n (.k (nu e))
 | cst {n e k:Nat}:Pth lk k n e→lk e=none→Zbc (G.hd e)=false→G.ps e=[]→VT G lk nu n (.k (G.hd e))
 | one {n e k p:Nat} {s:Ty}:Pth lk k n e→lk e=none→Zbc (G.hd e)=false→G.ps e=[p]→VT G lk nu p s→VT G lk nu n (.u (G.hd e) s)
 | two {n e k p q:Nat} {s t:Ty}:Pth lk k n e→lk e=none→Zbc (G.hd e)=false→G.ps e=[p,q]→VT G lk nu p s→VT G lk nu q t→VT G lk nu n (.w (G.hd e) s t)
variable {nu:Nat→Nat}
theorem VT.of_path {k n m:Nat} {t:Ty} (h:Pth lk k n m) (v:VT G lk nu m t):VT G lk nu n t:=by
 cases v with
 | var h1 h2 h3=>exact .var (h.trans h1) h2 h3
 | cst h1 h2 h3 h4=>exact .cst (h.trans h1) h2 h3 h4
 | one h1 h2 h3 h4 h5=>exact .one (h.trans h1) h2 h3 h4 h5
 | two h1 h2 h3 h4 h5 h6=>exact .two (h.trans h1) h2 h3 h4 h5 h6
theorem VT.to {k n m:Nat} {t:Ty} (h:Pth lk k n m) (v:VT G lk nu n t):VT G lk nu m t:=by
 cases v with
 | var h1 h2 h3=>obtain ⟨_,h⟩:=h.to_end h1 h2; exact .var h h2 h3
 | cst h1 h2 h3 h4=>obtain ⟨_,h⟩:=h.to_end h1 h2; exact .cst h h2 h3 h4
 | one h1 h2 h3 h4 h5=>obtain ⟨_,h⟩:=h.to_end h1 h2; exact .one h h2 h3 h4 h5
 | two h1 h2 h3 h4 h5 h6=>obtain ⟨_,h⟩:=h.to_end h1 h2; exact .two h h2 h3 h4 h5 h6
theorem VT.jnd {a b:Nat} {t:Ty} (h:Jnd lk a b) (v:VT G lk nu a t):VT G lk nu b t:=by
 obtain ⟨i,j,e,h1,h2⟩:=h
 exact (v.to h1).of_path h2
theorem VT.det {n:Nat} {t t':Ty} (v:VT G lk nu n t) (v':VT G lk nu n t'):t=t':=by
 induction v generalizing t' with
 | var h1 h2 h3=>
  cases v' with
  | var k1 k2 k3=>rw [h1.end_eq k1 h2 k2]
  | cst k1 k2 k3 k4=>have:=h1.end_eq k1 h2 k2; subst this; rw [h3] at k3; cases k3
  | one k1 k2 k3 k4=>have:=h1.end_eq k1 h2 k2; subst this; rw [h3] at k3; cases k3
  | two k1 k2 k3 k4=>have:=h1.end_eq k1 h2 k2; subst this; rw [h3] at k3; cases k3
 | cst h1 h2 h3 h4=>
  cases v' with
  | var k1 k2 k3=>have:=h1.end_eq k1 h2 k2; subst this; rw [h3] at k3; cases k3
  | cst k1 k2 k3 k4=>rw [h1.end_eq k1 h2 k2]
  | one k1 k2 k3 k4=>have:=h1.end_eq k1 h2 k2; subst this; rw [h4] at k4; cases k4
  | two k1 k2 k3 k4=>have:=h1.end_eq k1 h2 k2; subst this; rw [h4] at k4; cases k4
 | one h1 h2 h3 h4 h5 ih=>
  cases v' with
  | var k1 k2 k3=>have:=h1.end_eq k1 h2 k2; subst this; rw [h3] at k3; cases k3
  | cst k1 k2 k3 k4=>have:=h1.end_eq k1 h2 k2; subst this; rw [h4] at k4; cases k4
  | one k1 k2 k3 k4 k5=>have:=h1.end_eq k1 h2 k2; subst this; rw [h4] at k4; cases k4; rw [ih k5]
  | two k1 k2 k3 k4=>have:=h1.end_eq k1 h2 k2; subst this; rw [h4] at k4; cases k4
 | two h1 h2 h3 h4 h5 h6 ih1 ih2=>
  cases v' with
  | var k1 k2 k3=>have:=h1.end_eq k1 h2 k2; subst this; rw [h3] at k3; cases k3
  | cst k1 k2 k3 k4=>have:=h1.end_eq k1 h2 k2; subst this; rw [h4] at k4; cases k4
  | one k1 k2 k3 k4 k5=>have:=h1.end_eq k1 h2 k2; subst this; rw [h4] at k4; cases k4
  | two k1 k2 k3 k4 k5 k6=>have:=h1.end_eq k1 h2 k2; subst this; rw [h4] at k4; cases k4; rw [ih1 k5,ih2 k6]
theorem VT.make (g:GOk G N lk) {e:Nat} (hN:e∈N) (he:lk e=none) (h:∀ p∈G.ps e,∃ t,VT G lk nu p t):∃ t,VT G lk nu e t:=by
 cases hv:Zbc (G.hd e) with
 | true=>exact ⟨_,.var .refl he hv⟩
 | false=>
  have hl:=g.ps_le hN
  match hp:G.ps e,hl with
  | [],_=>exact ⟨_,.cst .refl he hv hp⟩
  | [p],_=>
   obtain ⟨s,hs⟩:=h p (by rw [hp]; simp)
   exact ⟨_,.one .refl he hv hp hs⟩
  | [p,q],_=>
   obtain ⟨s,hs⟩:=h p (by rw [hp]; simp)
   obtain ⟨t,ht⟩:=h q (by rw [hp]; simp)
   exact ⟨_,.two .refl he hv hp hs ht⟩
  | _ :: _ :: _ :: _,hl=>simp at hl
theorem VT.parts (g:GOk G N lk) (c:Cls G N lk) {n k e:Nat} (hp:Pth lk k n e) (he:lk e=none) (hn:n∈N) (hv:Zbc (G.hd n)=false) {t:Ty} (v:VT G lk nu n t) :
  t.hd=G.hd n∧t.ps.length=(G.ps n).length∧∀ (i p:Nat) (s:Ty),(G.ps n)[i]?=some p→t.ps[i]?=some s→VT G lk nu p s:=by
 induction hp with
 | @refl n=>
  cases v with
  | var k1 k2 k3=>have:=k1.at_end he; subst this; rw [hv] at k3; cases k3
  | cst k1 k2 k3 k4=>have:=k1.at_end he; subst this; exact ⟨rfl,by rw [k4]; rfl,fun i p s h _=>by rw [k4] at h; simp at h⟩
  | one k1 k2 k3 k4 k5=>
   have:=k1.at_end he; subst this
   refine ⟨rfl,by rw [k4]; rfl,fun i p s h h'=>?_⟩
   rw [k4] at h
   match i with
   | 0=>simp [Ty.ps] at h h'; subst h; subst h'; exact k5
   | i + 1=>simp at h
  | two k1 k2 k3 k4 k5 k6=>
   have:=k1.at_end he; subst this
   refine ⟨rfl,by rw [k4]; rfl,fun i p s h h'=>?_⟩
   rw [k4] at h
   match i with
   | 0=>simp [Ty.ps] at h h'; subst h; subst h'; exact k5
   | 1=>simp [Ty.ps] at h h'; subst h; subst h'; exact k6
   | i + 2=>simp at h
 | @step n m e k h1 h2 ih=>
  obtain ⟨h3,h4⟩:=(c n m hn h1).1 hv
  have hm:=g.lkN _ _ hn h1
  obtain ⟨i1,i2,i3⟩:=ih he hm (by rw [h3]; exact hv) (v.to (.step h1 .refl))
  have hl:(G.ps m).length=(G.ps n).length:=by have a:=g.ar n hn; have b:=g.ar m hm; rw [h3] at b; omega
  refine ⟨i1.trans h3,i2.trans hl,fun i p s h h'=>?_⟩
  have hi:i < (G.ps m).length:=by have:=(List.getElem?_eq_some_iff.1 h).1; omega
  have hq:=List.getElem?_eq_getElem hi
  exact (i3 i _ s hq h').jnd (h4 i p _ h hq).symm
inductive Raw (G:Gr) (nu:Nat→Nat):Nat→Ty→Prop
 | var {n:Nat}:Zbc (G.hd n)=true→Raw G nu n (.k (nu n))
 | cst {n:Nat}:Zbc (G.hd n)=false→G.ps n=[]→Raw G nu n (.k (G.hd n))
 | one {n p:Nat} {s:Ty}:Zbc (G.hd n)=false→G.ps n=[p]→Raw G nu p s→Raw G nu n (.u (G.hd n) s)
 | two {n p q:Nat} {s t:Ty}:Zbc (G.hd n)=false→G.ps n=[p,q]→Raw G nu p s→Raw G nu q t→Raw G nu n (.w (G.hd n) s t)
theorem Raw.det {n:Nat} {t t':Ty} (r:Raw G nu n t) (r':Raw G nu n t'):t=t':=by
 induction r generalizing t' with
 | var h=>cases r' with
  | var k=>rfl
  | cst k _=>rw [h] at k; cases k
  | one k _ _=>rw [h] at k; cases k
  | two k _ _ _=>rw [h] at k; cases k
 | cst h h1=>cases r' with
  | var k=>rw [h] at k; cases k
  | cst k _=>rfl
  | one k k1 _=>rw [h1] at k1; cases k1
  | two k k1 _ _=>rw [h1] at k1; cases k1
 | one h h1 _ ih=>cases r' with
  | var k=>rw [h] at k; cases k
  | cst k k1=>rw [h1] at k1; cases k1
  | one k k1 k2=>rw [h1] at k1; cases k1; rw [ih k2]
  | two k k1 _ _=>rw [h1] at k1; cases k1
 | two h h1 _ _ ih1 ih2=>cases r' with
  | var k=>rw [h] at k; cases k
  | cst k k1=>rw [h1] at k1; cases k1
  | one k k1 k2=>rw [h1] at k1; cases k1
  | two k k1 k2 k3=>rw [h1] at k1; cases k1; rw [ih1 k2,ih2 k3]
inductive Sub (G:Gr):Nat→Nat→Prop
 | refl {n:Nat}:Sub G n n
 | part {n p x:Nat}:p∈G.ps n→Sub G p x→Sub G n x
theorem VT.sub (g:GOk G N lk) (c:Cls G N lk) {n x:Nat} (h:Sub G n x):n∈N→∀ {t:Ty},VT G lk nu n t→∃ s,VT G lk nu x s:=by
 induction h with
 | refl=>exact fun _ t v=>⟨t,v⟩
 | @part n p x hp _ ih=>
  intro hn t v
  have hv:Zbc (G.hd n)=false:=by
   cases hv:Zbc (G.hd n) with
   | false=>rfl
   | true=>rw [g.var_ps hn hv] at hp; cases hp
  obtain ⟨k,e,h1,h2⟩:=g.end_ n hn
  obtain ⟨_,h4,h5⟩:=VT.parts g c h1 h2 hn hv v
  obtain ⟨i,hi⟩:=List.getElem?_of_mem hp
  have hl:=(List.getElem?_eq_some_iff.1 hi).1
  exact ih (g.par n hn p hp) (h5 i p _ hi (List.getElem?_eq_getElem (by omega)))
structure Ymp (G:Gr) (N:List Nat) (nu:Nat→Nat) (V:Nat→Bool):Prop where
 var:∀ n∈N,Zbc (G.hd n)=true→V (nu n)=true
 cst:∀ n∈N,Zbc (G.hd n)=false→V (G.hd n)=false
 inj:∀ n∈N,∀ m∈N,Zbc (G.hd n)=true→Zbc (G.hd m)=true→nu n=nu m→n=m
variable {V:Nat→Bool}
theorem Yoi {t:Ty} (h:t.ps.length=0):t=.k t.hd:=by cases t <;> simp [Ty.ps,Ty.hd] at *
theorem Yqe {t:Ty} (h:t.ps.length=1):∃ s,t.ps=[s]∧t=.u t.hd s:=by cases t <;> simp [Ty.ps,Ty.hd] at *
theorem Ypw {t:Ty} (h:t.ps.length=2):∃ s s',t.ps=[s,s']∧t=.w t.hd s s':=by cases t <;> simp [Ty.ps,Ty.hd] at *
theorem Raw.vt (g:GOk G N lk) (c:Cls G N lk) (nv:Ymp G N nu V) {F:Nat→Ty} (hF:∀ x∈N,Zbc (G.hd x)=true→∀ s,VT G lk nu x s→F (nu x)=s) {n:Nat} {t:Ty} (r:Raw G nu n t) :
  n∈N→∀ {s:Ty},VT G lk nu n s→s=sb V F t:=by
 induction r with
 | @var n h=>
  intro hn s v
  rw [sb,if_pos (nv.var n hn h),hF n hn h s v]
 | @cst n h h1=>
  intro hn s v
  obtain ⟨k,e,p1,p2⟩:=g.end_ n hn
  obtain ⟨a1,a2,_⟩:=VT.parts g c p1 p2 hn h v
  rw [h1] at a2
  rw [sb,if_neg (by rw [nv.cst n hn h]; simp),Yoi a2,a1]
 | @one n p s0 h h1 _ ih=>
  intro hn s v
  obtain ⟨k,e,p1,p2⟩:=g.end_ n hn
  obtain ⟨a1,a2,a3⟩:=VT.parts g c p1 p2 hn h v
  rw [h1] at a2 a3
  obtain ⟨s1,e1,e2⟩:=Yqe a2
  have:=ih (g.par n hn p (by rw [h1]; simp)) (a3 0 p s1 rfl (by rw [e1]; rfl))
  rw [e2,a1,sb,this]
 | @two n p q s0 t0 h h1 _ _ ih1 ih2=>
  intro hn s v
  obtain ⟨k,e,p1,p2⟩:=g.end_ n hn
  obtain ⟨a1,a2,a3⟩:=VT.parts g c p1 p2 hn h v
  rw [h1] at a2 a3
  obtain ⟨s1,s2,e1,e2⟩:=Ypw a2
  have i1:=ih1 (g.par n hn p (by rw [h1]; simp)) (a3 0 p s1 rfl (by rw [e1]; rfl))
  have i2:=ih2 (g.par n hn q (by rw [h1]; simp)) (a3 1 q s2 rfl (by rw [e1]; rfl))
  rw [e2,a1,sb,i1,i2]
theorem VT.val (g:GOk G N lk) (nv:Ymp G N nu V) {val θ:Nat→Ty} (hs:Str G N val) (hr:Rsp N lk val) (hv:∀ x∈N,Zbc (G.hd x)=true→val x=θ (nu x)) {n:Nat} {t:Ty} (v:VT G lk nu n t):n∈N→val n=sb V θ t:=by
 induction v with
 | @var n e k h1 h2 h3=>
  intro hn
  have he:=g.path hn h1
  rw [hr.path g hn h1,hv e he h3,sb,if_pos (nv.var e he h3)]
 | @cst n e k h1 h2 h3 h4=>
  intro hn
  have he:=g.path hn h1
  obtain ⟨a1,a2⟩:=hs e he h3
  rw [h4] at a2
  rw [hr.path g hn h1,sb,if_neg (by rw [nv.cst e he h3]; simp),Yoi (t:=val e) (by rw [a2]; rfl),a1]
 | @one n e k p s h1 h2 h3 h4 _ ih=>
  intro hn
  have he:=g.path hn h1
  obtain ⟨a1,a2⟩:=hs e he h3
  rw [h4] at a2
  obtain ⟨s1,e1,e2⟩:=Yqe (t:=val e) (by rw [a2]; rfl)
  rw [a2] at e1
  simp at e1
  rw [hr.path g hn h1,e2,a1,sb,← ih (g.par e he p (by rw [h4]; simp)),e1]
 | @two n e k p q s t h1 h2 h3 h4 _ _ ih1 ih2=>
  intro hn
  have he:=g.path hn h1
  obtain ⟨a1,a2⟩:=hs e he h3
  rw [h4] at a2
  obtain ⟨s1,s2,e1,e2⟩:=Ypw (t:=val e) (by rw [a2]; rfl)
  rw [a2] at e1
  simp at e1
  rw [hr.path g hn h1,e2,a1,sb,← ih1 (g.par e he p (by rw [h4]; simp)),← ih2 (g.par e he q (by rw [h4]; simp)),e1.1,e1.2]
open Classical in
noncomputable def Yhq (G:Gr) (nu:Nat→Nat) (V:Nat→Bool) (θ:Nat→Ty) (n:Nat):Ty:=if h:∃ t,Raw G nu n t then sb V θ h.choose else .k 0
theorem Zje {θ:Nat→Ty} {n:Nat} {t:Ty} (r:Raw G nu n t):Yhq G nu V θ n=sb V θ t:=by
 have h:∃ t,Raw G nu n t:=⟨t,r⟩
 unfold Yhq
 rw [dif_pos h,h.choose_spec.det r]
theorem Zvh (nv:Ymp G N nu V) (hr:∀ n∈N,∃ t,Raw G nu n t) (θ:Nat→Ty):Str G N (Yhq G nu V θ):=by
 intro n hn hv
 obtain ⟨t,r⟩:=hr n hn
 rw [Zje r]
 cases r with
 | var h=>rw [hv] at h; cases h
 | cst h h1=>rw [sb,if_neg (by rw [nv.cst n hn h]; simp),h1]; exact ⟨rfl,rfl⟩
 | one h h1 h2=>rw [h1]; exact ⟨rfl,by simp [sb,Ty.ps,Zje h2]⟩
 | two h h1 h2 h3=>rw [h1]; exact ⟨rfl,by simp [sb,Ty.ps,Zje h2,Zje h3]⟩
open Classical in
noncomputable def grF (G:Gr) (N:List Nat) (lk:Nat→Option Nat) (nu:Nat→Nat) (c:Nat):Ty:=
 if h:∃ s,∃ x∈N,Zbc (G.hd x)=true∧nu x=c∧VT G lk nu x s then h.choose else .k c
theorem Yhj (nv:Ymp G N nu V) {x:Nat} (hx:x∈N) (hv:Zbc (G.hd x)=true) {s:Ty} (v:VT G lk nu x s):grF G N lk nu (nu x)=s:=by
 have h:∃ s,∃ y∈N,Zbc (G.hd y)=true∧nu y=nu x∧VT G lk nu y s:=⟨s,x,hx,hv,rfl,v⟩
 unfold grF
 rw [dif_pos h]
 obtain ⟨y,hy,hyv,he,v'⟩:=h.choose_spec
 have:=nv.inj y hy x hx hyv hv he
 subst this
 exact v'.det v
theorem Yku (g:GOk G N lk) (c:Cls G N lk) (nv:Ymp G N nu V) {a b:Nat} (ha:a∈N) (hb:b∈N) (hj:Jnd lk a b) {ta tb T:Ty} (ra:Raw G nu a ta) (rb:Raw G nu b tb) (v:VT G lk nu a T) :
  sb V (grF G N lk nu) ta=T∧sb V (grF G N lk nu) tb=T:=
 ⟨(ra.vt g c nv (fun x hx h s hs=>Yhj nv hx h hs) ha v).symm,(rb.vt g c nv (fun x hx h s hs=>Yhj nv hx h hs) hb (v.jnd hj)).symm⟩
theorem Yok (g:GOk G N lk) {val:Nat→Ty} (hs:Str G N val) (hr:Rsp N lk val) {e p e' k:Nat} (he:e∈N) (hp:p∈G.ps e) (h:Pth lk k p e'):(val e').size < (val e).size:=by
 have hv:Zbc (G.hd e)=false:=by
  cases hv:Zbc (G.hd e) with
  | false=>rfl
  | true=>rw [g.var_ps he hv] at hp; cases hp
 obtain ⟨_,a2⟩:=hs e he hv
 rw [← hr.path g (g.par e he p hp) h]
 have hm:val p∈(val e).ps:=by rw [a2]; exact List.mem_map_of_mem hp
 generalize val p=s at hm
 generalize val e=t at hm
 cases t with
 | k c=>simp [Ty.ps] at hm
 | u c a=>simp [Ty.ps] at hm; subst hm; simp [Ty.size]
 | w c a b=>simp [Ty.ps] at hm; rcases hm with rfl | rfl <;> simp [Ty.size] <;> omega
end
end Go.Sim

set_option linter.unusedSimpArgs false
set_option linter.unusedVariables false
namespace Go.Sim

def Yji:Ty→List Nat
 | .k c=>if Zbc c then [c] else []
 | .u c a=>Yji a
 | .w c a b=>Yji a ++ Yji b
structure Yql (m m':Bd) (a t:Ty):Prop where
 keep:∀ v u,Zsf m v=some u→Zsf m' v=some u
 sub:subst (Zsf m') a=t
 vars:∀ v,(Zsf m' v).isSome=true ↔ ((Zsf m v).isSome=true ∨ v∈Yji a)
end Go.Sim

set_option linter.unusedSimpArgs false
set_option linter.unusedVariables false
namespace Go.Sim

structure Yqf (f:Nat→Option Ty):Prop where
 nv:∀ v,Zbc v=false→f v=none
 ok:∀ v t,f v=some t→t.ok=true
noncomputable def after (f g:Nat→Option Ty) (v:Nat):Option Ty:=if Zbc v then some (subst g ((f v).getD (.k v))) else none
noncomputable def Ypa (a b:Ins):Bool:=decide (a.1.1=b.1.1) && Yoc b.1.2 a.1.2
end Go.Sim

set_option linter.unusedSimpArgs false
set_option linter.unusedVariables false
namespace Go.Sim

end Go.Sim

set_option linter.unusedSimpArgs false
set_option linter.unusedVariables false
namespace Go.Sim
end Go.Sim

set_option linter.unusedSimpArgs false
set_option linter.unusedVariables false
namespace Go.Sim

def Ypp (a b:Ty) (F:Nat→Ty):Prop:=MGU Zbc (fun c=>c) (fun θ=>sb Zbc θ a=sb Zbc θ b) F∧∀ v,Zbc v=true→(F v).ok=true
theorem Ypp.symm {a b:Ty} {F:Nat→Ty} (h:Ypp a b F):Ypp b a F:=⟨⟨h.1.sol.symm,fun θ hs=>h.1.gen θ hs.symm,h.1.inc,h.1.out⟩,h.2⟩
open Classical in
noncomputable def Zme (s t:List Nat):Bool:=match Zjb s,Zjb t with | some a,some b=>decide (¬ ∃ f g:Nat→Ty,sb Zbc f a=sb Zbc g b) | _,_=>false
theorem Zsc {s t:List Nat} (h:(Zos s && Zos t)=false):Zme s t=false:=by
 unfold Zme
 split
 ·rename_i a b ha hb; rw [Zwz ha,Zwz hb] at h; cases h
 ·rfl
end Go.Sim

set_option linter.unusedSimpArgs false
set_option linter.unusedVariables false
namespace Go.Sim
def Ydj (c:Nat):Nat:=if c < 100 then c - 88 + 49 else c - 120 + 52
def Yna (d:Nat):Nat:=if d < 52 then d - 49 + 88 else d - 52 + 120
def Zrv (c:Nat):Bool:=decide (49≤c∧c≤54)
def V12 (c:Nat):Bool:=Zbc c || Zrv c
theorem Zjy (c:Nat):Zbc c=true ↔ (88≤c∧c≤90) ∨ (120≤c∧c≤122):=by simp [Zbc]; omega
theorem Zmw {c:Nat} (h:Zbc c=true):Yna (Ydj c)=c∧Zrv (Ydj c)=true∧Zbc (Ydj c)=false:=by
 rw [Zjy] at h
 unfold Ydj
 split
 ·refine ⟨by unfold Yna; split <;> omega,by unfold Zrv; simp; omega,?_⟩
  cases hv:Zbc (c - 88 + 49) with
  | false=>rfl
  | true=>rw [Zjy] at hv; omega
 ·refine ⟨by unfold Yna; split <;> omega,by unfold Zrv; simp; omega,?_⟩
  cases hv:Zbc (c - 120 + 52) with
  | false=>rfl
  | true=>rw [Zjy] at hv; omega
theorem Yli {c d:Nat} (hc:Zbc c=true) (hd:Zbc d=true) (h:Ydj c=Ydj d):c=d:=by rw [← (Zmw hc).1,← (Zmw hd).1,h]
theorem Zyi {c:Nat} (h:Zfi c=true):Zrv c=false:=by
 unfold Zfi at h
 simp only [Bool.or_eq_true,beq_iff_eq,Zjy] at h
 unfold Zrv
 simp; omega
def Zpj:Ty→Ty
 | .k c=>.k (if Zbc c then Ydj c else c)
 | .u c a=>.u c (Zpj a)
 | .w c a b=>.w c (Zpj a) (Zpj b)
theorem Zyg (θ:Nat→Ty):∀ {a:Ty},a.ok=true→sb V12 θ a=sb Zbc θ a
 | .k c,h=>by
  simp only [Ty.ok] at h
  simp only [sb,V12,Zyi h,Bool.or_false]
 | .u c a,h=>by simp only [Ty.ok,Bool.and_eq_true] at h; simp only [sb,Zyg θ h.2]
 | .w c a b,h=>by simp only [Ty.ok,Bool.and_eq_true] at h; simp only [sb,Zyg θ h.1.2,Zyg θ h.2]
theorem Zxg (θ:Nat→Ty):∀ {a:Ty},a.ok=true→sb V12 θ (Zpj a)=sb Zbc (fun c=>θ (Ydj c)) a
 | .k c,h=>by
  simp only [Ty.ok] at h
  simp only [Zpj,sb]
  by_cases hv:Zbc c=true
  ·rw [if_pos hv,if_pos hv,if_pos (by simp [V12,(Zmw hv).2.1])]
  ·rw [if_neg hv,if_neg hv,if_neg (by simp [V12,Zyi h]; simpa using hv)]
 | .u c a,h=>by simp only [Ty.ok,Bool.and_eq_true] at h; simp only [Zpj,sb,Zxg θ h.2]
 | .w c a b,h=>by simp only [Ty.ok,Bool.and_eq_true] at h; simp only [Zpj,sb,Zxg θ h.1.2,Zxg θ h.2]
theorem Ybq {a b:Ty} (ha:a.ok=true) (hb:b.ok=true):(∃ θ:Nat→Ty,sb V12 θ a=sb V12 θ (Zpj b)) ↔ ∃ f g:Nat→Ty,sb Zbc f a=sb Zbc g b:=by
 constructor
 ·rintro ⟨θ,h⟩
  rw [Zyg θ ha,Zxg θ hb] at h
  exact ⟨_,_,h⟩
 ·rintro ⟨f,g,h⟩
  refine ⟨fun c=>if Zbc c=true then f c else g (Yna c),?_⟩
  rw [Zyg _ ha,Zxg _ hb]
  have e1:sb Zbc (fun c=>if Zbc c=true then f c else g (Yna c)) a=sb Zbc f a:=Zml fun c hv _=>by simp [hv]
  have e2:sb Zbc (fun c=>(fun c=>if Zbc c=true then f c else g (Yna c)) (Ydj c)) b=sb Zbc g b:=Zml fun c hv _=>by simp [(Zmw hv).2.2,(Zmw hv).1]
  rw [e1,e2,h]
end Go.Sim

set_option linter.unusedSimpArgs false
set_option linter.unusedVariables false
namespace Go.Sim
def okL (lf:Nat→Bool):Ty→Bool
 | .k c=>lf c
 | .u c a=>(c == 108 || c == 109) && okL lf a
 | .w c a b=>c == 112 && okL lf a && okL lf b
theorem Ybz:∀ {t:Ty},okL Zfi t=t.ok
 | .k c=>rfl
 | .u c a=>by simp only [okL,Ty.ok,Ybz (t:=a)]
 | .w c a b=>by simp only [okL,Ty.ok,Ybz (t:=a),Ybz (t:=b)]
def Zqb (c:Nat):Bool:=Zfi c || Zrv c
theorem Zse {lf lf':Nat→Bool} (h:∀ c,lf c=true→lf' c=true):∀ {t:Ty},okL lf t=true→okL lf' t=true
 | .k c,ht=>h c ht
 | .u c a,ht=>by simp only [okL,Bool.and_eq_true] at ht ⊢; exact ⟨ht.1,Zse h ht.2⟩
 | .w c a b,ht=>by simp only [okL,Bool.and_eq_true] at ht ⊢; exact ⟨⟨ht.1.1,Zse h ht.1.2⟩,Zse h ht.2⟩
theorem Zwg:∀ {t:Ty},t.ok=true→okL Zqb (Zpj t)=true
 | .k c,ht=>by
  simp only [Ty.ok] at ht
  simp only [Zpj,okL,Zqb]
  by_cases hv:Zbc c=true
  ·rw [if_pos hv,(Zmw hv).2.1,Bool.or_true]
  ·rw [if_neg hv,ht,Bool.true_or]
 | .u c a,ht=>by simp only [Ty.ok,Bool.and_eq_true] at ht; simp only [Zpj,okL,Bool.and_eq_true]; exact ⟨ht.1,Zwg ht.2⟩
 | .w c a b,ht=>by simp only [Ty.ok,Bool.and_eq_true] at ht; simp only [Zpj,okL,Bool.and_eq_true]; exact ⟨⟨ht.1.1,Zwg ht.1.2⟩,Zwg ht.2⟩
section
variable {V lf:Nat→Bool}
theorem Yft {t:Ty} (h:okL lf t=true):∀ p∈t.ps,okL lf p=true:=by
 cases t with
 | k c=>simp [Ty.ps]
 | u c a=>simp only [okL,Bool.and_eq_true] at h; intro p hp; simp [Ty.ps] at hp; subst hp; exact h.2
 | w c a b=>simp only [okL,Bool.and_eq_true] at h; intro p hp; simp [Ty.ps] at hp; rcases hp with rfl | rfl; exact h.1.2; exact h.2
def unb (L:List Nat) (σ:Nat→Option Ty):Nat:=L.countP fun v=>(σ v).isNone
theorem Ylp {L:List Nat} {σ:Nat→Option Ty} {x:Nat} {b:Ty} (hx:σ x=none) (hL:x∈L):unb L (upd σ x b) < unb L σ:=by
 unfold unb
 induction L with
 | nil=>cases hL
 | cons n N ih=>
  have hm:N.countP (fun v=>(upd σ x b v).isNone)≤N.countP fun v=>(σ v).isNone:=List.countP_mono_left fun v _ h=>by
   unfold upd at h
   split at h
   ·cases h
   ·exact h
  rw [List.countP_cons,List.countP_cons]
  by_cases e:n=x
  ·subst e
   have:(upd σ n b n).isNone=false:=by simp [upd]
   rw [this,hx]; simp; omega
  ·have:=ih ((List.mem_cons.1 hL).resolve_left fun h=>e h.symm)
   have h2:(upd σ x b n).isNone=(σ n).isNone:=by simp [upd,e]
   rw [h2]; omega
theorem Wlk.end_in {σ:Nat→Option Ty} {n:Nat} {s t:Ty} (h:Wlk σ n s t):t=s ∨ ∃ c,σ c=some t:=by
 induction h with
 | stop=>exact .inl rfl
 | @step c n u t h1 _ ih=>
  rcases ih with h | h
  ·exact .inr ⟨c,by rw [h]; exact h1⟩
  ·exact .inr h
end
end Go.Sim

set_option linter.unusedSimpArgs false
set_option linter.unusedVariables false
namespace Go.Sim
section
variable {V lf:Nat→Bool} {σ:Nat→Option Ty} {F:Nat→Ty}
theorem Rsv.free (r:Rsv V σ F) {c:Nat} (hc:V c=true):F c=.k c ↔ σ c=none:=by
 constructor
 ·intro h
  obtain ⟨n,t,hw⟩:=r.wlk c
  have hF:F c=sb V F t:=by have:=hw.sbF r; rw [sb,if_pos hc] at this; exact this
  cases t with
  | k x=>
   have hx:=hw.end_ x rfl
   rw [hF,r.var hx] at h
   cases h; exact hx
  | u x a=>rw [hF] at h; simp [sb] at h
  | w x a b=>rw [hF] at h; simp [sb] at h
 ·exact r.non c
theorem Rsv.walked (r:Rsv V σ F) (P:Ty→Prop) (hσ:∀ c t,σ c=some t→P t) {t:Ty} (ht:P t):∃ n t',Wlk σ n t t'∧P t'∧sb V F t=sb V F t':=by
 obtain ⟨n,t',hw⟩:=r.walk t
 refine ⟨n,t',hw,?_,hw.sbF r⟩
 rcases hw.end_in with h | ⟨d,h⟩
 ·rw [h]; exact ht
 ·exact hσ d t' h
theorem Yls {θ:Nat→Ty} {t:Ty} (h:t.ps≠[] ∨ V t.hd=false):(sb V θ t).hd=t.hd∧(sb V θ t).ps=t.ps.map (sb V θ):=by
 cases t with
 | k c=>
  have:V c=false:=h.resolve_left (by simp [Ty.ps])
  simp [sb,this,Ty.hd,Ty.ps]
 | u c a=>simp [sb,Ty.hd,Ty.ps]
 | w c a b=>simp [sb,Ty.hd,Ty.ps]
theorem Yiw {θ:Nat→Ty} {a b:Ty} (ha:a.ps≠[] ∨ V a.hd=false) (hb:b.ps≠[] ∨ V b.hd=false) (hh:a.hd=b.hd) (hl:a.ps.length=b.ps.length) :
  sb V θ a=sb V θ b ↔ ∀ (i:Nat) (p q:Ty),a.ps[i]?=some p→b.ps[i]?=some q→sb V θ p=sb V θ q:=by
 cases a with
 | k c=>
  have hb0:b.ps=[]:=List.eq_nil_of_length_eq_zero (by rw [← hl]; rfl)
  have hb1:b=.k c:=by cases b with
   | k d=>simp [Ty.hd] at hh; rw [hh]
   | u d x=>simp [Ty.ps] at hb0
   | w d x y=>simp [Ty.ps] at hb0
  subst hb1
  exact ⟨fun _ i p q h=>by simp [Ty.ps] at h,fun _=>rfl⟩
 | u c x=>
  cases b with
  | k d=>simp [Ty.ps] at hl
  | u d y=>
   simp [Ty.hd] at hh; subst hh
   simp only [sb,Ty.u.injEq,true_and]
   constructor
   ·intro h i p q h1 h2
    match i with
    | 0=>simp [Ty.ps] at h1 h2; subst h1; subst h2; exact h
    | i + 1=>simp [Ty.ps] at h1
   ·intro h; exact h 0 x y rfl rfl
  | w d y z=>simp [Ty.ps] at hl
 | w c x x'=>
  cases b with
  | k d=>simp [Ty.ps] at hl
  | u d y=>simp [Ty.ps] at hl
  | w d y y'=>
   simp [Ty.hd] at hh; subst hh
   simp only [sb,Ty.w.injEq,true_and]
   constructor
   ·intro h i p q h1 h2
    match i with
    | 0=>simp [Ty.ps] at h1 h2; subst h1; subst h2; exact h.1
    | 1=>simp [Ty.ps] at h1 h2; subst h1; subst h2; exact h.2
    | i + 2=>simp [Ty.ps] at h1
   ·intro h; exact ⟨h 0 x y rfl rfl,h 1 x' y' rfl rfl⟩
theorem Yjs {θ:Nat→Ty} {a b:Ty} (ha:a.ps≠[] ∨ V a.hd=false) (hb:b.ps≠[] ∨ V b.hd=false) (hh:a.hd≠b.hd):sb V θ a≠sb V θ b:=by
 intro h
 have h1:=(Yls (θ:=θ) ha).1
 rw [h,(Yls hb).1] at h1
 exact hh h1.symm
theorem Yba {v:Nat} {t:Ty} (ht:t.ps≠[] ∨ V t.hd=false) (hv:V v=true) (θ:Nat→Ty):occ v (sb V θ t)=t.ps.any fun p=>occ v (sb V θ p):=by
 cases t with
 | k c=>
  have:V c=false:=ht.resolve_left (by simp [Ty.ps])
  have hne:c≠v:=fun e=>by rw [e,hv] at this; cases this
  simp [sb,this,occ,Ty.ps,hne]
 | u c a=>simp [sb,occ,Ty.ps]
 | w c a b=>simp [sb,occ,Ty.ps]
theorem Znu {t p:Ty} (hp:p∈t.ps) (θ:Nat→Ty):(sb V θ p).size < (sb V θ t).size:=by
 cases t with
 | k c=>simp [Ty.ps] at hp
 | u c a=>simp [Ty.ps] at hp; subst hp; simp [sb,Ty.size]
 | w c a b=>simp [Ty.ps] at hp; rcases hp with rfl | rfl <;> simp [sb,Ty.size] <;> omega
end
end Go.Sim

set_option linter.unusedVariables false
set_option linter.unusedSimpArgs false
set_option maxRecDepth 20000
namespace Go.Sim
open Go Go.RowKit

theorem Zpf {t:Ty} (h:okL Zqb t=true):t.hd∈[105,98,117,120,121,122,88,89,90,49,50,51,52,53,54,108,109,112]:=by
 cases t with
 | k c=>
  simp only [okL,Zqb,Bool.or_eq_true,Zfi,Zjy,beq_iff_eq,Zrv,decide_eq_true_eq] at h
  simp only [Ty.hd,List.mem_cons,List.not_mem_nil,or_false]
  omega
 | u c a=>
  simp only [okL,Bool.and_eq_true,Bool.or_eq_true,beq_iff_eq] at h
  simp only [Ty.hd,List.mem_cons,List.not_mem_nil,or_false]
  omega
 | w c a b=>
  simp only [okL,Bool.and_eq_true,beq_iff_eq] at h
  simp only [Ty.hd,List.mem_cons,List.not_mem_nil,or_false]
  omega
theorem Zmx {t:Ty} (h:okL Zqb t=true) (hv:V12 t.hd=true):t=.k t.hd:=by
 cases t with
 | k c=>rfl
 | u c a=>
  simp only [okL,Bool.and_eq_true,Bool.or_eq_true,beq_iff_eq] at h
  simp only [Ty.hd] at hv
  rcases h.1 with e | e <;> rw [e] at hv <;> exact absurd hv (by decide)
 | w c a b=>
  simp only [okL,Bool.and_eq_true,beq_iff_eq] at h
  simp only [Ty.hd] at hv
  rw [h.1.1] at hv; exact absurd hv (by decide)
theorem Zmh {c:Nat} (h:V12 c=true):∃ k:Nat,k < 12∧Zfb[k]?=some c∧Zno Zfb c=(k:Int):=by
 simp only [V12,Bool.or_eq_true,Zjy,Zrv,decide_eq_true_eq] at h
 have:c=88 ∨ c=89 ∨ c=90 ∨ c=120 ∨ c=121 ∨ c=122 ∨ c=49 ∨ c=50 ∨ c=51 ∨ c=52 ∨ c=53 ∨ c=54:=by omega
 rcases this with rfl | rfl | rfl | rfl | rfl | rfl | rfl | rfl | rfl | rfl | rfl | rfl
 ·exact ⟨0,by omega,rfl,rfl⟩
 ·exact ⟨1,by omega,rfl,rfl⟩
 ·exact ⟨2,by omega,rfl,rfl⟩
 ·exact ⟨3,by omega,rfl,rfl⟩
 ·exact ⟨4,by omega,rfl,rfl⟩
 ·exact ⟨5,by omega,rfl,rfl⟩
 ·exact ⟨6,by omega,rfl,rfl⟩
 ·exact ⟨7,by omega,rfl,rfl⟩
 ·exact ⟨8,by omega,rfl,rfl⟩
 ·exact ⟨9,by omega,rfl,rfl⟩
 ·exact ⟨10,by omega,rfl,rfl⟩
 ·exact ⟨11,by omega,rfl,rfl⟩
theorem Zsl {t:Ty} (h:okL Zqb t=true) (hv:V12 t.hd=false):Zno Zfb t.hd=-1:=by
 apply Zqq
 have:=Zpf h
 simp only [List.mem_cons,List.not_mem_nil,or_false] at this
 rcases this with e | e | e | e | e | e | e | e | e | e | e | e | e | e | e | e | e | e <;> rw [e] at hv ⊢ <;> first | (exact absurd hv (by decide)) | decide
theorem Ylq {k v:Nat} (h:Zfb[k]?=some v):V12 v=true:=by
 have:=List.mem_of_getElem? h
 simp only [Zfb,List.mem_cons,List.not_mem_nil,or_false] at this
 rcases this with rfl | rfl | rfl | rfl | rfl | rfl | rfl | rfl | rfl | rfl | rfl | rfl <;> decide
theorem Zzd:Zfb.Nodup:=by decide
def Zpg (S:Nat→Prop) (h:Zaa) (i:Nat) (σ:Nat→Option Ty):Prop:=∃ rows:List (Zag × Zag),rows.length=12∧h[i]?=some (.cells Zdb (Zdo eR rows) false) ∧
 ∀ (k:Nat) (x:Zag × Zag) (v:Nat),rows[k]?=some x→Zfb[k]?=some v→match σ v with | some t=>Zei S h t (eR x) | none=>x=(.int .u8 0,.slice none 0 0 true)
section
variable {S:Nat→Prop} {h h':Zaa} {i:Nat} {σ:Nat→Option Ty} {F:Nat→Ty}
theorem Zpg.lt (r:Zpg S h i σ):i < h.length:=by obtain ⟨_,_,h2,_⟩:=r; exact Own.lt h2
theorem Zpg.keep (r:Zpg S h i σ) (hi:h'[i]?=h[i]?) (hh:∀ j,S j→j < h.length→h'[j]?=h[j]?):Zpg S h' i σ:=by
 obtain ⟨rows,h1,h2,h3⟩:=r
 refine ⟨rows,h1,by rw [hi]; exact h2,fun k x v hx hv=>?_⟩
 have:=h3 k x v hx hv
 split at this
 ·exact this.keep hh
 ·exact this
theorem Zpg.same (r:Zpg S h i σ) (s:Zbb h.length h h'):Zpg S h' i σ:=r.keep (s.eq i r.lt) fun j _ hj=>s.eq j hj
theorem Zpg.get (r:Zpg S h i σ) {k v:Nat} (hk:Zfb[k]?=some v):∃ x:Zag × Zag,Zaf h (.ptr (some (i,0 + k * 2 + 0)))=some x.1∧Zbo h (.ptr (some (i,0 + k * 2))) 2=some [x.1,x.2] ∧
  match σ v with | some t=>Zei S h t [x.1,x.2] | none=>x=(.int .u8 0,.slice none 0 0 true):=by
 obtain ⟨rows,h1,h2,h3⟩:=r
 have hk12:k < 12:=(List.getElem?_eq_some_iff.1 hk).1
 have hrow:Row h.length h (some (i,0)) (12 * 2) (Zdo eR rows):=⟨by rw [Zbg Zjn,h1],.inr ⟨i,0,_,_,_,rfl,Own.lt h2,h2,by rw [Zbg Zjn,h1]; simp,by rw [List.drop_zero,List.take_of_length_le (by rw [Zbg Zjn,h1]; simp)]⟩⟩
 obtain ⟨i',o',hk',he,_,hr,hc⟩:=Row.el Zjn hrow h1 hk12 (by omega)
 cases he
 exact ⟨rows[k],by have:=hc 0 (by omega); simpa [eR] using this,hr,h3 k _ v (List.getElem?_eq_getElem hk') hk⟩
theorem Zpg.nil (hi:h[i]?=some (.cells Zdb (Zdo eR (List.replicate 12 (.int .u8 0,.slice none 0 0 true))) false)):Zpg S h i (fun _=>none):=by
 refine ⟨_,by simp,hi,fun k x v hx _=>?_⟩
 rw [List.getElem?_replicate] at hx
 split at hx
 ·cases hx; rfl
 ·cases hx
theorem Zpg.put (r:Zpg S h i σ) (hSi:∀ j,S j→j≠i) {k v:Nat} (hk:Zfb[k]?=some v) {t:Ty} {x y:Zag} (ht:Zei S h t [x,y]) :
  ∃ h',Zbd h (.ptr (some (i,0 + k * 2))) [x,y]=some h'∧Zif i h h'∧Zpg S h' i (upd σ v t):=by
 obtain ⟨rows,h1,h2,h3⟩:=r
 have hk12:k < 12:=(List.getElem?_eq_some_iff.1 hk).1
 have hput:Zbm (Zdo eR rows) (k * 2) (eR (x,y))=Zdo eR (rows.set k (x,y)):=Zwt Zjn (by omega)
 refine ⟨h.set i (.cells Zdb (Zdo eR (rows.set k (x,y))) false),?_,Zif.set _ _ _,?_⟩
 ·rw [Nat.zero_add,Zbk h2 (by rw [Zbg Zjn,h1]; simp; omega),← hput]; rfl
 ·have hkeep:∀ j,S j→j < h.length→(h.set i (.cells Zdb (Zdo eR (rows.set k (x,y))) false))[j]?=h[j]?:=fun j hj _=>Zbv (fun e=>hSi j hj e.symm)
  refine ⟨_,by simp [h1],Zcc h2,fun k' x' v' hx' hv'=>?_⟩
  by_cases e:k=k'
  ·subst e
   rw [hk] at hv'
   cases hv'
   rw [List.getElem?_set_self (by omega)] at hx'
   cases hx'
   simp only [upd,if_true]
   exact ht.keep hkeep
  ·rw [List.getElem?_set_ne e] at hx'
   have:=h3 k' x' v' hx' hv'
   have hne:v'≠v:=fun e'=>by
    subst e'
    have h5:=List.getElem?_eq_some_iff.1 hk
    have h6:=List.getElem?_eq_some_iff.1 hv'
    exact e ((List.getElem_inj (h₀:=h5.1) (h₁:=h6.1) Zzd).1 (h5.2.trans h6.2.symm))
   rw [show upd σ v t v'=σ v' by simp [upd,hne]]
   split at this
   ·exact this.keep hkeep
   ·exact this
theorem Zqd (m:Zpg S h i σ) (hSi:∀ j,S j→j < h.length∧j≠i) (hdom:∀ c u,σ c=some u→V12 c=true∧okL Zqb u=true) {n:Nat} {t t':Ty} (ht:okL Zqb t=true) (hw:Wlk σ n t t') {vs:List Zag} (r:Zei S h t vs) :
  Zad pg Zgn [.ptr (some (i,0)),.agg vs] h fun v h'=>Zbb h.length h h'∧∃ vs',v=.agg vs'∧Zei S h' t' vs':=by
 obtain ⟨a,c,e,rfl⟩:=r.shape
 have hil:=m.lt
 apply Zff.call
 simp only [Zba]
 generalize hh0:h ++ [Zcp.cells Zab [.int .u8 (t.hd:Int),.slice a t.ps.length c e] false]=h0
 generalize hh1:h0 ++ [Zcp.cells Zab [.int .u8 0,.slice none 0 0 true] false]=h1
 have s0:Zbb h.length h h0:=by rw [← hh0]; exact Zav
 have s1:Zbb h0.length h0 h1:=by rw [← hh1]; exact Zav
 have o0:h0[h.length]?=some (.cells Zab [.int .u8 (t.hd:Int),.slice a t.ps.length c e] false):=by rw [← hh0]; simp
 have oa:=s1.get o0 (Own.lt o0)
 have oz:h1[h0.length]?=some (.cells Zab [.int .u8 0,.slice none 0 0 true] false):=by rw [← hh1]; simp
 have S1:=s0.cat s1
 have l0:h0.length=h.length + 1:=by rw [← hh0]; simp
 have l1:h1.length=h.length + 2:=by rw [← hh1]; simp [l0]
 simp only [Zan oa,Nat.zero_add,List.getElem?_cons_zero,Zal]
 refine (Zly t.hd).mono ?_
 rintro v h2 ⟨rfl,rfl⟩
 simp only [Zal]
 refine Zff.L2ind (J:=fun (g:Nat) x5 h'=>∃ (u:Ty) (us:List Zag),Wlk σ g u t'∧okL Zqb u=true∧Zei S h u us∧x5=Zno Zfb u.hd∧Zbb h.length h h'∧h'[h.length]?=some (.cells Zab us false)∧h'[h0.length]?=some (.cells Zab [.int .u8 0,.slice none 0 0 true] false)∧h2.length≤h'.length) (m:=fun g=>g) (hr:=?_) (g:=n)
  (hj:=⟨t,_,hw,ht,r,rfl,S1,oa,oz,Nat.le_refl _⟩)
 rintro g x5 h3 ⟨u,us,hwu,hu,ru,rfl,S3,ou,oz3,l3⟩ R hR
 unfold Zff.L2t
 obtain ⟨ua,uc,ue,rfl⟩:=ru.shape
 have stop:t'=u→Zff.A2x0 (fun v h'=>Zbb h.length h h'∧∃ vs',v=.agg vs'∧Zei S h' t' vs') h.length 0 h0.length 0 h3:=by
  rintro rfl
  apply Zff.A2x0i
  rw [Zbr ou]
  simp only [Zas,Zak,Zar,Zal,Zai]
  rw [Zbk oz3 (by simp)]
  simp only [Zaq,Zbm,List.take_zero,List.length_cons,List.length_nil,List.drop_succ_cons,List.drop_zero,List.drop_nil,List.cons_append,List.nil_append,List.append_nil,Nat.zero_add]
  rw [Zbr (Zcc oz3)]
  simp only [Zas,Zak,Zar,Zal,Zai]
  have S4:Zbb h.length h (h3.set h0.length (.cells Zab [.int .u8 (t'.hd:Int),.slice ua t'.ps.length uc ue] false)):=⟨by simp; exact S3.le,fun j hj=>by rw [Zbv (by omega)]; exact S3.eq j hj⟩
  exact ⟨S4,_,rfl,ru.same S4⟩
 have mm:=m.same S3
 cases hv:V12 u.hd with
 | false=>
  rw [Zsl hu hv]
  refine Zaj (fun h=>by omega) (fun _=>stop ?_)
  cases hwu with
  | stop _=>rfl
  | step h1 _=>have:=(hdom _ _ h1).1; simp only [Ty.hd] at hv; rw [this] at hv; cases hv
 | true=>
  obtain ⟨k,hk,hkv,hix⟩:=Zmh hv
  have huk:=Zmx hu hv
  rw [hix]
  refine Zaj (fun _=>?_) (fun h=>by omega)
  obtain ⟨x,hx1,hx2,hx3⟩:=mm.get hkv
  simp only [Zau,Int.toNat_natCast,hx1]
  cases hs:σ u.hd with
  | none=>
   rw [hs] at hx3
   simp only at hx3
   subst hx3
   simp only [Zal,show ((0:Int) == 0)=true from rfl,Bool.not_true,Zay]
   refine ⟨by omega,stop ?_⟩
   rw [huk] at hwu ⊢
   cases hwu with
   | stop _=>rfl
   | step h1 _=>rw [hs] at h1; cases h1
  | some w=>
   rw [hs] at hx3
   simp only at hx3
   have hwok:=(hdom _ _ hs).2
   obtain ⟨wa,wc,we,hwx⟩:=hx3.shape
   simp only [List.cons.injEq,and_true] at hwx
   obtain ⟨hw1,hw2⟩:=hwx
   have hne:((w.hd:Int) == 0)=false:=by
    have:=Zpf hwok
    have hne:w.hd≠0:=fun e=>by rw [e] at this; simp at this
    simp; omega
   rw [hw1,hw2] at hx2 hx3
   rw [hw1]
   simp only [Zal,hne,Bool.not_false,Zcs]
   refine ⟨by omega,?_⟩
   apply Zff.J4i
   simp only [Zau,Int.toNat_natCast,hx2,Zas,Zak,Zar,Zal,Zai]
   rw [Zbk ou (by simp)]
   simp only [Zaq,Zbm,List.take_zero,List.length_cons,List.length_nil,List.drop_succ_cons,List.drop_zero,List.drop_nil,List.cons_append,List.nil_append,List.append_nil,Nat.zero_add]
   have og:=Zcc ou (x:=.cells Zab [.int .u8 (w.hd:Int),.slice wa w.ps.length wc we] false)
   simp only [Zan og,List.getElem?_cons_zero,Zal]
   refine ⟨by omega,(Zly w.hd).mono ?_⟩
   rintro v h4 ⟨rfl,rfl⟩
   simp only [Zal]
   have S4:Zbb h.length h (h3.set h.length (.cells Zab [.int .u8 (w.hd:Int),.slice wa w.ps.length wc we] false)):=⟨by simp; exact S3.le,fun j hj=>by rw [Zbv (by omega)]; exact S3.eq j hj⟩
   rw [huk] at hwu
   cases hwu with
   | stop h1=>rw [h1 _ rfl] at hs; cases hs
   | step h1 h2=>
    rw [hs] at h1
    cases h1
    refine hR _ _ _ (Nat.lt_succ_self _) ⟨w,_,h2,hwok,hx3.agree (fun j hj=>(S3.eq j (hSi j hj).1).symm),rfl,S4,og,by rw [Zbv (by omega)]; exact oz3,by simpa using l3⟩
end
end Go.Sim

set_option linter.unusedVariables false
set_option linter.unusedSimpArgs false
set_option maxRecDepth 20000
namespace Go.Sim
open Go Go.RowKit

theorem Ylj {h h':Zaa} {a:Pt} {m:Nat} {cs:List Zag} (r:Row h.length h a m cs) (hl:h.length≤h'.length) (hh:∀ j o,m≠0→a=some (j,o)→j < h.length→h'[j]?=h[j]?):Row h'.length h' a m cs:=by
 obtain ⟨hc,r⟩:=r
 by_cases h0:m=0
 ·exact ⟨hc,.inl h0⟩
 ·refine ⟨hc,r.imp id ?_⟩
  rintro ⟨i,o,t,all,ro,ha,hi,hg,x⟩
  exact ⟨i,o,t,all,ro,ha,by omega,by rw [hh i o h0 ha hi]; exact hg,x⟩
theorem Ygt {f:Ty→Bool} {l:List Ty} {g:Nat} (hg:g < l.length):(l.take (g + 1)).any f=((l.take g).any f || f l[g]):=by
 rw [List.take_succ_eq_append_getElem hg,List.any_append]; simp
def Zpl (c:Nat):Nat:=(Zno Zfb c).toNat
theorem Ymc {a b:Ty} (ha:okL Zqb a=true) (hb:okL Zqb b=true) (h:a.hd=b.hd):a.ps.length=b.ps.length:=by
 have no:∀ c,Zqb c=true→c≠108∧c≠109∧c≠112:=fun c hc=>⟨fun e=>by rw [e] at hc; exact absurd hc (by decide),fun e=>by rw [e] at hc; exact absurd hc (by decide),fun e=>by rw [e] at hc; exact absurd hc (by decide)⟩
 cases a with
 | k c=>
  have:=no c ha
  cases b with
  | k d=>rfl
  | u d y=>simp only [okL,Bool.and_eq_true,Bool.or_eq_true,beq_iff_eq,Ty.hd] at hb h; omega
  | w d y z=>simp only [okL,Bool.and_eq_true,beq_iff_eq,Ty.hd] at hb h; omega
 | u c x=>
  cases b with
  | k d=>have:=no d hb; simp only [okL,Bool.and_eq_true,Bool.or_eq_true,beq_iff_eq,Ty.hd] at ha h; omega
  | u d y=>rfl
  | w d y z=>simp only [okL,Bool.and_eq_true,Bool.or_eq_true,beq_iff_eq,Ty.hd] at ha hb h; omega
 | w c x y=>
  cases b with
  | k d=>have:=no d hb; simp only [okL,Bool.and_eq_true,beq_iff_eq,Ty.hd] at ha h; omega
  | u d y=>simp only [okL,Bool.and_eq_true,Bool.or_eq_true,beq_iff_eq,Ty.hd] at ha hb h; omega
  | w d y z=>rfl
section
variable {S:Nat→Prop} {i:Nat} {σ:Nat→Option Ty} {F:Nat→Ty}
theorem Yaa (rs:Rsv V12 σ F) (hdom:∀ c u,σ c=some u→V12 c=true∧okL Zqb u=true) {v:Nat} (hv:V12 v=true) (hv0:σ v=none):∀ (M:Nat) {h:Zaa} {t:Ty} {vs:List Zag},(sb V12 F t).size≤M→Zpg S h i σ→(∀ j,S j→j < h.length∧j≠i)→okL Zqb t=true→Zei S h t vs →
  Zad pg Zcv [.ptr (some (i,0)),.int .u8 (v:Int),.agg vs] h fun x h'=>x=.bool (occ v (sb V12 F t))∧Zbb h.length h h':=by
 intro M
 induction M with
 | zero=>intro h t vs hM; have:=Zpr (sb V12 F t); omega
 | succ M ih=>
 intro h t vs hM m hSi ht r
 obtain ⟨a,c,e,rfl⟩:=r.shape
 obtain ⟨n,t',hw,ht',heq⟩:=rs.walked (fun t=>okL Zqb t=true) (fun c t h=>(hdom c t h).2) ht
 have hend:=hw.end_
 have hil:=m.lt
 apply Zgc.call
 simp only [Zba]
 generalize hh0:h ++ [Zcp.cells Zab [.int .u8 (t.hd:Int),.slice a t.ps.length c e] false]=h0
 have s0:Zbb h.length h h0:=by rw [← hh0]; exact Zav
 have o0:h0[h.length]?=some (.cells Zab [.int .u8 (t.hd:Int),.slice a t.ps.length c e] false):=by rw [← hh0]; simp
 have l0:h0.length=h.length + 1:=by rw [← hh0]; simp
 rw [Zbr o0]
 simp only [Zas,Zak,Zar,Zal,Zai]
 refine (Zqd (m.same s0) (fun j hj=>⟨by have:=(hSi j hj).1; omega,(hSi j hj).2⟩) hdom ht hw (r.same s0)).mono ?_
 rintro v1 h1 ⟨s1,vs1,rfl,r1⟩
 obtain ⟨a1,c1,e1,vts,rfl,row1,hS1,hvl,hvp⟩:=r1.parts
 have o1:=s1.get o0 (Own.lt o0)
 have hl1:=s1.le
 simp only [Zcw,Zak,Zar,Zal,Zai]
 rw [Zbk o1 (by simp)]
 simp only [Zaq,Zbm,List.take_zero,List.length_cons,List.length_nil,List.drop_succ_cons,List.drop_zero,List.drop_nil,List.cons_append,List.nil_append,List.append_nil,Nat.zero_add]
 generalize hh2:h1.set h.length (.cells Zab [.int .u8 (t'.hd:Int),.slice a1 t'.ps.length c1 e1] false)=h2
 have o2:h2[h.length]?=some (.cells Zab [.int .u8 (t'.hd:Int),.slice a1 t'.ps.length c1 e1] false):=by rw [← hh2]; exact Zcc o1
 have l2:h2.length=h1.length:=by rw [← hh2]; simp
 have k2:∀ j,j≠h.length→h2[j]?=h1[j]?:=fun j hj=>by rw [← hh2]; exact Zbv fun e=>hj e.symm
 have S2:Zbb h.length h h2:=⟨by omega,fun j hj=>by rw [k2 j (by omega),s1.eq j (by omega)]; exact s0.eq j hj⟩
 have row2:Row h2.length h2 a1 (t'.ps.length * 2) vts.flatten:=Ylj row1 (by omega) fun j o h0 ha _=>k2 j (by have:=(hSi j (hS1 j o (by omega) ha)).1; omega)
 have hvp2:∀ (k:Nat) (w:List Zag) (x:Ty),vts[k]?=some w→t'.ps[k]?=some x→Zei S h2 x w:=fun k w x h1' h2'=>(hvp k w x h1' h2').agree fun j hj=>k2 j (by have:=(hSi j hj).1; omega)
 simp only [Zan o2,List.getElem?_cons_zero,List.getElem?_cons_succ,Zal,Zai]
 rw [heq]
 refine Zek (fun he=>?_) (fun hne=>?_)
 ·have hh:t'.hd=v:=by omega
  have:=Zmx ht' (by rw [hh]; exact hv)
  rw [hh] at this
  rw [this,rs.var hv0]
  exact ⟨by simp [occ],S2⟩
 ·have hne':t'.hd≠v:=fun e=>hne (by rw [e])
  have hany:occ v (sb V12 F t')=t'.ps.any fun p=>occ v (sb V12 F p):=by
   cases hv':V12 t'.hd with
   | false=>exact Yba (.inr hv') hv F
   | true=>
    have hk:=Zmx ht' hv'
    rw [hk]
    have hno:=hend t'.hd hk
    rw [rs.var hno]
    simp [occ,Ty.ps,hne']
  rw [hany]
  refine Zgc.L5ind (J:=fun (g:Nat) x19 h'=>x19=(g:Int)∧g≤t'.ps.length∧Zbb h2.length h2 h'∧(t'.ps.take g).any (fun p=>occ v (sb V12 F p))=false) (m:=fun g=>t'.ps.length - g) (hr:=?_) (g:=0) (hj:=⟨rfl,by omega,Zbb.refl _ _,by simp⟩)
  rintro g x19 h3 ⟨rfl,hg,S3,hk⟩ R hR
  unfold Zgc.L5t
  refine Zaj (fun hlt=>?_) (fun hge=>?_)
  ·have hg':g < t'.ps.length:=by omega
   obtain ⟨j,o,a2,c2,e2,rfl,hr,hkr⟩:=Zei.get (row2.same' S3) hvl (fun k w x h1 h2=>(hvp2 k w x h1 h2).same S3) hg'
   simp only [Zau,Int.toNat_natCast,hr,Zas,Zak,Zar,Zal,Zai,Zba]
   rw [Zlv]
   simp only [Zaq]
   rw [Ymh]
   simp only [Zas,Zak,Zar,Zal,Zai]
   have hm:=List.getElem_mem hg'
   have hsz:=Znu (V:=V12) hm F
   rw [heq] at hM
   have hps2:t'.ps.length≤2:=by cases t' <;> simp [Ty.ps]
   have s4:Zbb h3.length h3 (h3 ++ [.cells Zab [.int .u8 (t'.ps[g].hd:Int),.slice a2 t'.ps[g].ps.length c2 e2] false]):=Zav
   have SS:=(S2.cat S3).cat s4
   refine ⟨by omega,(ih (by omega) (m.same SS) (fun j hj=>⟨by have:=(hSi j hj).1; have:=SS.le; omega,(hSi j hj).2⟩) (Yft ht' _ hm) (hkr.same s4)).mono ?_⟩
   rintro x h5 ⟨rfl,s5⟩
   simp only [Zah]
   refine Zds (fun hb=>?_) (fun hb=>?_)
   ·refine ⟨?_,SS.cat s5⟩
    have:(t'.ps.any fun p=>occ v (sb V12 F p))=true:=List.any_eq_true.2 ⟨_,hm,hb⟩
    rw [this]
   ·rw [Zbp (by omega)]
    exact hR (g + 1) _ _ (by omega) ⟨rfl,by omega,(S3.cat s4).cat s5,by rw [Ygt hg',hk,hb]; rfl⟩
  ·apply Zgc.A5x0i
   have:g=t'.ps.length:=by omega
   subst this
   rw [List.take_length] at hk
   exact ⟨by rw [hk],S2.cat S3⟩
def Zns (S:Nat→Prop) (i:Nat) (P:Ty→Prop) (σ:Nat→Option Ty) (F:Nat→Ty) (a b:Ty) (h:Zaa) (v:Zag) (h':Zaa):Prop:=
 Zif i h h'∧((v=.bool true∧∃ σ' F',Zpg S h' i σ'∧Rsv V12 σ' F'∧(∀ θ,Sol V12 σ' θ ↔ Sol V12 σ θ∧sb V12 θ a=sb V12 θ b)∧Inc Zpl V12 σ'∧(∀ c t,σ' c=some t→P (.k c)∧P t)∧((σ'=σ∧F'=F) ∨ unb Zfb σ' < unb Zfb σ)) ∨
  (v=.bool false∧∀ θ,Sol V12 σ θ→sb V12 θ a≠sb V12 θ b))
theorem Zns.walk {P:Ty→Prop} (rs:Rsv V12 σ F) {a b a' b':Ty} {n n':Nat} (hw:Wlk σ n a a') (hw':Wlk σ n' b b') {h h':Zaa} {v:Zag} (u:Zns S i P σ F a' b' h v h'):Zns S i P σ F a b h v h':=by
 have key:∀ θ,Sol V12 σ θ→(sb V12 θ a=sb V12 θ b ↔ sb V12 θ a'=sb V12 θ b'):=fun θ hs=>by rw [hw.sbS rs hs,hw'.sbS rs hs]
 obtain ⟨K,u⟩:=u
 refine ⟨K,u.imp ?_ ?_⟩
 ·rintro ⟨e,σ',F',h1,h2,h3,h4⟩
  exact ⟨e,σ',F',h1,h2,fun θ=>(h3 θ).trans (and_congr_right fun hs=>(key θ hs).symm),h4⟩
 ·rintro ⟨e,h1⟩
  exact ⟨e,fun θ hs he=>h1 θ hs ((key θ hs).1 he)⟩
theorem Zns.symm {P:Ty→Prop} {a b:Ty} {h h':Zaa} {v:Zag} (u:Zns S i P σ F a b h v h'):Zns S i P σ F b a h v h':=by
 obtain ⟨K,u⟩:=u
 refine ⟨K,u.imp ?_ ?_⟩
 ·rintro ⟨e,σ',F',h1,h2,h3,h4⟩
  exact ⟨e,σ',F',h1,h2,fun θ=>(h3 θ).trans (and_congr_right fun _=>eq_comm),h4⟩
 ·rintro ⟨e,h1⟩
  exact ⟨e,fun θ hs he=>h1 θ hs he.symm⟩
end
end Go.Sim

set_option linter.unusedVariables false
set_option linter.unusedSimpArgs false
set_option maxRecDepth 20000
namespace Go.Sim
open Go Go.RowKit

def Zql (Q:QT) (a0:Pt) (l l0:Nat) (x_52 x_55:Int) (h_54:Zaa):Prop:=
 bcase (decide ((x_52:Int) ≥ 0)) (bcase ((x_52:Int) == x_55) (Q (.bool true) h_54) (bcase (decide ((x_52:Int) ≥ 0)) (bcase (decide ((x_55:Int) < 0)) (Zco .u8 (Zaf h_54 (.ptr (some (l,0 + 0)))) fun x_56=>Zcy (Zbo h_54 (.ptr (some (l0,0))) 2) fun cs_57=>Zam cs_57 fun c_58 r_59=>Zco .u8 (some c_58) fun x_60=>Zam r_59 fun c_61 r_62=>xSl (some c_61) fun a_63 n_64 c_65 e_66=>Zcq r_62 (Zad pg Zcv [.ptr a0,.int .u8 x_56,.agg [.int .u8 x_60,.slice a_63 n_64 c_65 e_66]] h_54 fun v_67 h_68=>
 Zbw (some v_67) fun b_69=>bcase b_69 (Q (.bool false) h_68) (Zbf a0 fun i_70 o_71=>Zcy (Zbo h_68 (.ptr (some (l0,0))) 2) fun cs_72=>Zam cs_72 fun c_73 r_74=>Zco .u8 (some c_73) fun x_75=>Zam r_74 fun c_76 r_77=>xSl (some c_76) fun a_78 n_79 c_80 e_81=>Zcq r_77 ((0≤(x_52:Int)∧(x_52:Int) < (12:Nat))∧(Zcf (Zbd h_68 (.ptr (some (i_70,o_71 + (Int.toNat x_52) * 2))) [.int .u8 x_75,.slice a_78 n_79 c_80 e_81]) fun h_82=>Q (.bool true) h_82))))) (bcase (decide ((x_52:Int) < x_55)) (Zco .u8 (Zaf h_54 (.ptr (some (l,0 + 0)))) fun x_83=>Zcy (Zbo h_54 (.ptr (some (l0,0))) 2) fun cs_84=>Zam cs_84 fun c_85 r_86=>Zco .u8 (some c_85) fun x_87=>Zam r_86 fun c_88 r_89=>xSl (some c_88) fun a_90 n_91 c_92 e_93=>Zcq r_89 (Zad pg Zcv [.ptr a0,.int .u8 x_83,.agg [.int .u8 x_87,.slice a_90 n_91 c_92 e_93]] h_54 fun v_94 h_95=>
 Zbw (some v_94) fun b_96=>bcase b_96 (Q (.bool false) h_95) (Zbf a0 fun i_97 o_98=>Zcy (Zbo h_95 (.ptr (some (l0,0))) 2) fun cs_99=>Zam cs_99 fun c_100 r_101=>Zco .u8 (some c_100) fun x_102=>Zam r_101 fun c_103 r_104=>xSl (some c_103) fun a_105 n_106 c_107 e_108=>Zcq r_104 ((0≤(x_52:Int)∧(x_52:Int) < (12:Nat))∧(Zcf (Zbd h_95 (.ptr (some (i_97,o_98 + (Int.toNat x_52) * 2))) [.int .u8 x_102,.slice a_105 n_106 c_107 e_108]) fun h_109=>Q (.bool true) h_109))))) (bcase (decide ((x_55:Int) ≥ 0)) (Zcy (Zbo h_54 (.ptr (some (l0,0))) 2) fun cs_110=>Zam cs_110 fun c_111 r_112=>Zco .u8 (some c_111) fun x_113=>Zam r_112 fun c_114 r_115=>xSl (some c_114) fun a_116 n_117 c_118 e_119=>Zcq r_115 (Zcy (Zbo h_54 (.ptr (some (l,0))) 2) fun cs_120=>Zam cs_120 fun c_121 r_122=>Zco .u8 (some c_121) fun x_123=>Zam r_122 fun c_124 r_125=>xSl (some c_124) fun a_126 n_127 c_128 e_129=>Zcq r_125 (Zad pg Zcn [.ptr a0,.agg [.int .u8 x_113,.slice a_116 n_117 c_118 e_119],.agg [.int .u8 x_123,.slice a_126 n_127 c_128 e_129]] h_54 fun v_130 h_131=>
 Zbw (some v_130) fun b_132=>Q (.bool b_132) h_131))) (Zco .u8 (Zaf h_54 (.ptr (some (l,0 + 0)))) fun x_133=>Zco .u8 (Zaf h_54 (.ptr (some (l0,0 + 0)))) fun x_134=>bcase (!((x_133:Int) == x_134)) (Q (.bool false) h_54) (Zdp.J15 Q l 0 a0 (l0) 0 h_54))))) (bcase (decide ((x_55:Int) ≥ 0)) (Zcy (Zbo h_54 (.ptr (some (l0,0))) 2) fun cs_135=>Zam cs_135 fun c_136 r_137=>Zco .u8 (some c_136) fun x_138=>Zam r_137 fun c_139 r_140=>xSl (some c_139) fun a_141 n_142 c_143 e_144=>Zcq r_140 (Zcy (Zbo h_54 (.ptr (some (l,0))) 2) fun cs_145=>Zam cs_145 fun c_146 r_147=>Zco .u8 (some c_146) fun x_148=>Zam r_147 fun c_149 r_150=>xSl (some c_149) fun a_151 n_152 c_153 e_154=>Zcq r_150 (Zad pg Zcn [.ptr a0,.agg [.int .u8 x_138,.slice a_141 n_142 c_143 e_144],.agg [.int .u8 x_148,.slice a_151 n_152 c_153 e_154]] h_54 fun v_155 h_156=>
 Zbw (some v_155) fun b_157=>Q (.bool b_157) h_156))) (Zco .u8 (Zaf h_54 (.ptr (some (l,0 + 0)))) fun x_158=>Zco .u8 (Zaf h_54 (.ptr (some (l0,0 + 0)))) fun x_159=>bcase (!((x_158:Int) == x_159)) (Q (.bool false) h_54) (Zdp.J15 Q l 0 a0 (l0) 0 h_54))))) (bcase (decide ((x_52:Int) ≥ 0)) (bcase (decide ((x_55:Int) < 0)) (Zco .u8 (Zaf h_54 (.ptr (some (l,0 + 0)))) fun x_160=>Zcy (Zbo h_54 (.ptr (some (l0,0))) 2) fun cs_161=>Zam cs_161 fun c_162 r_163=>Zco .u8 (some c_162) fun x_164=>Zam r_163 fun c_165 r_166=>xSl (some c_165) fun a_167 n_168 c_169 e_170=>Zcq r_166 (Zad pg Zcv [.ptr a0,.int .u8 x_160,.agg [.int .u8 x_164,.slice a_167 n_168 c_169 e_170]] h_54 fun v_171 h_172=>
 Zbw (some v_171) fun b_173=>bcase b_173 (Q (.bool false) h_172) (Zbf a0 fun i_174 o_175=>Zcy (Zbo h_172 (.ptr (some (l0,0))) 2) fun cs_176=>Zam cs_176 fun c_177 r_178=>Zco .u8 (some c_177) fun x_179=>Zam r_178 fun c_180 r_181=>xSl (some c_180) fun a_182 n_183 c_184 e_185=>Zcq r_181 ((0≤(x_52:Int)∧(x_52:Int) < (12:Nat))∧(Zcf (Zbd h_172 (.ptr (some (i_174,o_175 + (Int.toNat x_52) * 2))) [.int .u8 x_179,.slice a_182 n_183 c_184 e_185]) fun h_186=>Q (.bool true) h_186))))) (bcase (decide ((x_52:Int) < x_55)) (Zco .u8 (Zaf h_54 (.ptr (some (l,0 + 0)))) fun x_187=>Zcy (Zbo h_54 (.ptr (some (l0,0))) 2) fun cs_188=>Zam cs_188 fun c_189 r_190=>Zco .u8 (some c_189) fun x_191=>Zam r_190 fun c_192 r_193=>xSl (some c_192) fun a_194 n_195 c_196 e_197=>Zcq r_193 (Zad pg Zcv [.ptr a0,.int .u8 x_187,.agg [.int .u8 x_191,.slice a_194 n_195 c_196 e_197]] h_54 fun v_198 h_199=>
 Zbw (some v_198) fun b_200=>bcase b_200 (Q (.bool false) h_199) (Zbf a0 fun i_201 o_202=>Zcy (Zbo h_199 (.ptr (some (l0,0))) 2) fun cs_203=>Zam cs_203 fun c_204 r_205=>Zco .u8 (some c_204) fun x_206=>Zam r_205 fun c_207 r_208=>xSl (some c_207) fun a_209 n_210 c_211 e_212=>Zcq r_208 ((0≤(x_52:Int)∧(x_52:Int) < (12:Nat))∧(Zcf (Zbd h_199 (.ptr (some (i_201,o_202 + (Int.toNat x_52) * 2))) [.int .u8 x_206,.slice a_209 n_210 c_211 e_212]) fun h_213=>Q (.bool true) h_213))))) (bcase (decide ((x_55:Int) ≥ 0)) (Zcy (Zbo h_54 (.ptr (some (l0,0))) 2) fun cs_214=>Zam cs_214 fun c_215 r_216=>Zco .u8 (some c_215) fun x_217=>Zam r_216 fun c_218 r_219=>xSl (some c_218) fun a_220 n_221 c_222 e_223=>Zcq r_219 (Zcy (Zbo h_54 (.ptr (some (l,0))) 2) fun cs_224=>Zam cs_224 fun c_225 r_226=>Zco .u8 (some c_225) fun x_227=>Zam r_226 fun c_228 r_229=>xSl (some c_228) fun a_230 n_231 c_232 e_233=>Zcq r_229 (Zad pg Zcn [.ptr a0,.agg [.int .u8 x_217,.slice a_220 n_221 c_222 e_223],.agg [.int .u8 x_227,.slice a_230 n_231 c_232 e_233]] h_54 fun v_234 h_235=>
 Zbw (some v_234) fun b_236=>Q (.bool b_236) h_235))) (Zco .u8 (Zaf h_54 (.ptr (some (l,0 + 0)))) fun x_237=>Zco .u8 (Zaf h_54 (.ptr (some (l0,0 + 0)))) fun x_238=>bcase (!((x_237:Int) == x_238)) (Q (.bool false) h_54) (Zdp.J15 Q l 0 a0 (l0) 0 h_54))))) (bcase (decide ((x_55:Int) ≥ 0)) (Zcy (Zbo h_54 (.ptr (some (l0,0))) 2) fun cs_239=>Zam cs_239 fun c_240 r_241=>Zco .u8 (some c_240) fun x_242=>Zam r_241 fun c_243 r_244=>xSl (some c_243) fun a_245 n_246 c_247 e_248=>Zcq r_244 (Zcy (Zbo h_54 (.ptr (some (l,0))) 2) fun cs_249=>Zam cs_249 fun c_250 r_251=>Zco .u8 (some c_250) fun x_252=>Zam r_251 fun c_253 r_254=>xSl (some c_253) fun a_255 n_256 c_257 e_258=>Zcq r_254 (Zad pg Zcn [.ptr a0,.agg [.int .u8 x_242,.slice a_245 n_246 c_247 e_248],.agg [.int .u8 x_252,.slice a_255 n_256 c_257 e_258]] h_54 fun v_259 h_260=>
 Zbw (some v_259) fun b_261=>Q (.bool b_261) h_260))) (Zco .u8 (Zaf h_54 (.ptr (some (l,0 + 0)))) fun x_262=>Zco .u8 (Zaf h_54 (.ptr (some (l0,0 + 0)))) fun x_263=>bcase (!((x_262:Int) == x_263)) (Q (.bool false) h_54) (Zdp.J15 Q l 0 a0 (l0) 0 h_54))))
section
variable {S:Nat→Prop} {i:Nat} {σ:Nat→Option Ty} {F:Nat→Ty}
theorem Zpq {Q:QT} (rs:Rsv V12 σ F) (hdom:∀ c u,σ c=some u→V12 c=true∧okL Zqb u=true) {h:Zaa} {a b a' b':Ty} {n n':Nat} {va vb:List Zag} (m:Zpg S h i σ) (hSi:∀ j,S j→j < h.length∧j≠i) (hao:okL Zqb a=true) (hbo:okL Zqb b=true) (hw:Wlk σ n a a') (hw':Wlk σ n' b b') (ra:Zei S h a va) (rb:Zei S h b vb)
  (hK:∀ (hX:Zaa) (pa pb:Pt) (ca cb:Nat) (ea eb:Bool),Zbb h.length h hX→hX[h.length]?=some (.cells Zab [.int .u8 (a'.hd:Int),.slice pa a'.ps.length ca ea] false)→hX[h.length + 1]?=some (.cells Zab [.int .u8 (b'.hd:Int),.slice pb b'.ps.length cb eb] false) →
   Zei S hX a' [.int .u8 (a'.hd:Int),.slice pa a'.ps.length ca ea]→Zei S hX b' [.int .u8 (b'.hd:Int),.slice pb b'.ps.length cb eb]→Zpg S hX i σ→Zql Q (some (i,0)) h.length (h.length + 1) (Zno Zfb a'.hd) (Zno Zfb b'.hd) hX) :
  Zad pg Zcn [.ptr (some (i,0)),.agg va,.agg vb] h Q:=by
 obtain ⟨aa,ca,ea,rfl⟩:=ra.shape
 obtain ⟨ab,cb,eb,rfl⟩:=rb.shape
 have hil:=m.lt
 apply Zdp.call
 simp only [Zba]
 generalize hh0:h ++ [Zcp.cells Zab [.int .u8 (a.hd:Int),.slice aa a.ps.length ca ea] false]=h0
 generalize hh1:h0 ++ [Zcp.cells Zab [.int .u8 (b.hd:Int),.slice ab b.ps.length cb eb] false]=h1
 have s0:Zbb h.length h h0:=by rw [← hh0]; exact Zav
 have s1:Zbb h0.length h0 h1:=by rw [← hh1]; exact Zav
 have l0:h0.length=h.length + 1:=by rw [← hh0]; simp
 have l1:h1.length=h.length + 2:=by rw [← hh1]; simp [l0]
 have oa0:h0[h.length]?=some (.cells Zab [.int .u8 (a.hd:Int),.slice aa a.ps.length ca ea] false):=by rw [← hh0]; simp
 have oa:=s1.get oa0 (Own.lt oa0)
 have ob:h1[h0.length]?=some (.cells Zab [.int .u8 (b.hd:Int),.slice ab b.ps.length cb eb] false):=by rw [← hh1]; simp
 have S1:=s0.cat s1
 have hSi':∀ hX:Zaa,h.length≤hX.length→∀ j,S j→j < hX.length∧j≠i:=fun hX hl j hj=>⟨by have:=(hSi j hj).1; omega,(hSi j hj).2⟩
 rw [Zbr oa]
 simp only [Zas,Zak,Zar,Zal,Zai]
 refine (Zqd (m.same S1) (hSi' h1 (by omega)) hdom hao hw (ra.same S1)).mono ?_
 rintro v h2 ⟨s2,va',rfl,ra2⟩
 obtain ⟨pa,pca,pea,rfl⟩:=ra2.shape
 have oa2:=s2.get oa (Own.lt oa)
 have ob2:=s2.get ob (Own.lt ob)
 have l2:=s2.le
 simp only [Zcw,Zak,Zar,Zal,Zai]
 rw [Zbk oa2 (by simp)]
 simp only [Zaq,Zbm,List.take_zero,List.length_cons,List.length_nil,List.drop_succ_cons,List.drop_zero,List.drop_nil,List.cons_append,List.nil_append,List.append_nil,Nat.zero_add]
 generalize hh3:h2.set h.length (.cells Zab [.int .u8 (a'.hd:Int),.slice pa a'.ps.length pca pea] false)=h3
 have oa3:h3[h.length]?=some (.cells Zab [.int .u8 (a'.hd:Int),.slice pa a'.ps.length pca pea] false):=by rw [← hh3]; exact Zcc oa2
 have l3:h3.length=h2.length:=by rw [← hh3]; simp
 have k3:∀ j,j≠h.length→h3[j]?=h2[j]?:=fun j hj=>by rw [← hh3]; exact Zbv fun e=>hj e.symm
 have ob3:h3[h0.length]?=some (.cells Zab [.int .u8 (b.hd:Int),.slice ab b.ps.length cb eb] false):=by rw [k3 _ (by omega)]; exact ob2
 have S3:Zbb h.length h h3:=⟨by omega,fun j hj=>by rw [k3 j (by omega),s2.eq j (by omega)]; exact S1.eq j hj⟩
 rw [Zbr ob3]
 simp only [Zas,Zak,Zar,Zal,Zai]
 refine (Zqd (m.same S3) (hSi' h3 (by omega)) hdom hbo hw' (rb.same S3)).mono ?_
 rintro v h4 ⟨s4,vb',rfl,rb4⟩
 obtain ⟨pb,pcb,peb,rfl⟩:=rb4.shape
 have oa4:=s4.get oa3 (Own.lt oa3)
 have ob4:=s4.get ob3 (Own.lt ob3)
 have l4:=s4.le
 simp only [Zcw,Zak,Zar,Zal,Zai]
 rw [Zbk ob4 (by simp)]
 simp only [Zaq,Zbm,List.take_zero,List.length_cons,List.length_nil,List.drop_succ_cons,List.drop_zero,List.drop_nil,List.cons_append,List.nil_append,List.append_nil,Nat.zero_add]
 generalize hh5:h4.set h0.length (.cells Zab [.int .u8 (b'.hd:Int),.slice pb b'.ps.length pcb peb] false)=h5
 have ob5:h5[h0.length]?=some (.cells Zab [.int .u8 (b'.hd:Int),.slice pb b'.ps.length pcb peb] false):=by rw [← hh5]; exact Zcc ob4
 have l5:h5.length=h4.length:=by rw [← hh5]; simp
 have k5:∀ j,j≠h0.length→h5[j]?=h4[j]?:=fun j hj=>by rw [← hh5]; exact Zbv fun e=>hj e.symm
 have oa5:h5[h.length]?=some (.cells Zab [.int .u8 (a'.hd:Int),.slice pa a'.ps.length pca pea] false):=by rw [k5 _ (by omega)]; exact oa4
 have S5:Zbb h.length h h5:=⟨by omega,fun j hj=>by rw [k5 j (by omega),s4.eq j (by omega)]; exact S3.eq j hj⟩
 have ra5:Zei S h5 a' [.int .u8 (a'.hd:Int),.slice pa a'.ps.length pca pea]:=ra2.agree fun j hj=>by
  have:=(hSi j hj).1
  rw [S5.eq j this,← S3.eq j this,k3 j (by omega)]
 have rb5:Zei S h5 b' [.int .u8 (b'.hd:Int),.slice pb b'.ps.length pcb peb]:=rb4.agree fun j hj=>k5 j (by have:=(hSi j hj).1; omega)
 simp only [Zan oa5,Zan ob5,List.getElem?_cons_zero,Zal]
 refine (Zly a'.hd).mono ?_
 rintro v h6 ⟨rfl,rfl⟩
 simp only [Zal]
 refine ⟨by rw [Zan ob5]; rfl,?_⟩
 refine (Zly b'.hd).mono ?_
 rintro v h7 ⟨rfl,rfl⟩
 simp only [Zal]
 rw [l0] at ob5
 refine ⟨by trivial,?_⟩
 have key:=hK h7 pa pb pca pcb pea peb S5 oa5 ob5 ra5 rb5 (m.same S5)
 unfold Zql at key
 rw [l0]
 simp only [Zan oa5,Zan ob5,Nat.zero_add,List.getElem?_cons_zero,Zal] at key ⊢
 exact key
theorem Zqj {P:Ty→Prop} (rs:Rsv V12 σ F) (hi:Inc Zpl V12 σ) (hP:∀ t,P t→okL Zqb t=true) (hσ:∀ c t,σ c=some t→P (.k c)∧P t) {h:Zaa} {a b b':Ty} {x n n':Nat} {va vb:List Zag} (m:Zpg S h i σ) (hSi:∀ j,S j→j < h.length∧j≠i)
  (ha:P a) (hb:P b) (hx:P (.k x)) (hb':P b') (hw:Wlk σ n a (.k x)) (hw':Wlk σ n' b b') (hxv:V12 x=true) (hle:V12 b'.hd=true→Zpl x < Zpl b'.hd) (ra:Zei S h a va) (rb:Zei S h b vb) :
  Zad pg Zcn [.ptr (some (i,0)),.agg va,.agg vb] h (Zns S i P σ F a b h):=by
 have hdom:∀ c u,σ c=some u→V12 c=true∧okL Zqb u=true:=fun c u h=>⟨rs.dom c u h,hP u (hσ c u h).2⟩
 have hx0:σ x=none:=hw.end_ x rfl
 have hbend:=hw'.end_
 have hbok:=hP b' hb'
 refine Zad.mono (Q:=Zns S i P σ F (.k x) b' h) ?_ (fun v h' u=>u.walk rs hw hw')
 refine Zpq rs hdom m hSi (hP a ha) (hP b hb) hw hw' ra rb fun hX pa pb ca cb ea eb S5 oa ob ra5 rb5 mX=>?_
 obtain ⟨k,hk,hkv,hix⟩:=Zmh hxv
 have hrk:Zpl x=k:=by unfold Zpl; rw [hix]; rfl
 have hbc:∀ c,b'=.k c→σ c=none∧c≠x:=fun c e=>⟨hbend c e,fun e'=>by
  subst e'; subst e
  have:=hle (by simpa [Ty.hd] using hxv)
  simp [Ty.hd] at this⟩
 have hSX:∀ j,S j→j < hX.length∧j≠i:=fun j hj=>⟨by have:=(hSi j hj).1; have:=S5.le; omega,(hSi j hj).2⟩
 have hil:=m.lt
 have fin:∀ (Q:QT),(∀ v h',Zns S i P σ F (.k x) b' h v h'→Q v h')→(Zco .u8 (Zaf hX (.ptr (some (h.length,0 + 0)))) fun x_56=>Zcy (Zbo hX (.ptr (some (h.length + 1,0))) 2) fun cs_57=>Zam cs_57 fun c_58 r_59=>Zco .u8 (some c_58) fun x_60=>Zam r_59 fun c_61 r_62=>xSl (some c_61) fun a_63 n_64 c_65 e_66=>Zcq r_62 (Zad pg Zcv [.ptr (some (i,0)),.int .u8 x_56,.agg [.int .u8 x_60,.slice a_63 n_64 c_65 e_66]] hX fun v_67 h_68=>
   Zbw (some v_67) fun b_69=>bcase b_69 (Q (.bool false) h_68) (Zbf (some (i,0)) fun i_70 o_71=>Zcy (Zbo h_68 (.ptr (some (h.length + 1,0))) 2) fun cs_72=>Zam cs_72 fun c_73 r_74=>Zco .u8 (some c_73) fun x_75=>Zam r_74 fun c_76 r_77=>xSl (some c_76) fun a_78 n_79 c_80 e_81=>Zcq r_77 ((0≤((k:Nat):Int)∧((k:Nat):Int) < (12:Nat))∧(Zcf (Zbd h_68 (.ptr (some (i_70,o_71 + (Int.toNat (k:Int)) * 2))) [.int .u8 x_75,.slice a_78 n_79 c_80 e_81]) fun h_82=>Q (.bool true) h_82))))):=by
  intro Q hQ
  rw [Zbr ob]
  simp only [Zan oa,Nat.zero_add,List.getElem?_cons_zero,Zal,Zas,Zak,Zar,Zai]
  refine (Yaa rs hdom (v:=x) hxv hx0 _ (Nat.le_refl _) mX hSX hbok rb5).mono ?_
  rintro v h6 ⟨rfl,s6⟩
  have K6:Zif i h h6:=⟨(S5.cat s6).le,fun j hj _=>(S5.cat s6).eq j hj⟩
  simp only [Zah]
  refine Zds (fun ho=>?_) (fun ho=>?_)
  ·refine hQ _ _ ⟨K6,.inr ⟨rfl,fun θ hs he=>Yhl rs hx0 hxv hbc ho θ ⟨hs,?_⟩⟩⟩
   rw [← he,sb,if_pos hxv]
  ·have ob6:=s6.get ob (Own.lt ob)
   rw [Zbr ob6]
   obtain ⟨h7,hst,K7,m7⟩:=(mX.same s6).put (fun j hj=>(hSi j hj).2) hkv (rb5.same s6)
   simp only [Zau,Zas,Zak,Zar,Zal,Zai,Int.toNat_natCast]
   rw [hst]
   simp only [Zaq]
   obtain ⟨r2,hsol⟩:=rs.bind hx0 hxv hbc ho
   refine ⟨by omega,hQ _ _ ⟨K6.trans K7,.inl ⟨rfl,_,_,m7,r2,fun θ=>?_,hi.bind fun d hd hdv=>?_,fun c t hc=>?_,.inr (Ylp hx0 (List.mem_of_getElem? hkv))⟩⟩⟩
   ·rw [hsol θ,sb,if_pos hxv]
   ·have:=hle (by rw [hd]; exact hdv)
    rw [hd] at this; exact this
   ·unfold upd at hc
    split at hc
    ·rename_i e; cases hc; rw [e]; exact ⟨hx,hb'⟩
    ·exact hσ c t hc
 unfold Zql
 have hix':Zno Zfb (Ty.k x).hd=(k:Int):=hix
 rw [hix']
 refine Zaj (fun _=>?_) (fun h=>absurd (by omega:(k:Int) ≥ 0) h)
 cases hv:V12 b'.hd with
 | false=>
  rw [Zsl hbok hv]
  refine Zek (fun h=>by omega) (fun _=>?_)
  refine Zaj (fun _=>?_) (fun h=>absurd (by omega:(k:Int) ≥ 0) h)
  refine Zaj (fun _=>fin _ fun v h' u=>u) (fun h=>absurd (by omega) h)
 | true=>
  obtain ⟨k',hk',hkv',hix2⟩:=Zmh hv
  have hrk':Zpl b'.hd=k':=by unfold Zpl; rw [hix2]; rfl
  have hlt:=hle hv
  rw [hix2]
  refine Zek (fun h=>by omega) (fun _=>?_)
  refine Zaj (fun _=>?_) (fun h=>absurd (by omega:(k:Int) ≥ 0) h)
  refine Zaj (fun h=>by omega) (fun _=>?_)
  refine Zaj (fun _=>fin _ fun v h' u=>u) (fun h=>absurd (by omega) h)
end
end Go.Sim

set_option linter.unusedVariables false
set_option linter.unusedSimpArgs false
set_option maxRecDepth 20000
namespace Go.Sim
open Go Go.RowKit

theorem Ydd {i:Nat} {h h':Zaa} (s:Zbb h.length h h'):Zif i h h':=⟨s.le,fun j hj _=>s.eq j hj⟩
theorem Yje {h h':Zaa} {i j:Nat} {x:Zcp} (K:Zif i h h') (hj:h[j]?=some x) (hi:j≠i):h'[j]?=some x:=by rw [K.eq j (Own.lt hj) hi]; exact hj
section
variable {S:Nat→Prop} {i:Nat} {P:Ty→Prop}
theorem Zns.base {σ:Nat→Option Ty} {F:Nat→Ty} {a b:Ty} {h hX h':Zaa} {v:Zag} (s:Zbb h.length h hX) (u:Zns S i P σ F a b hX v h'):Zns S i P σ F a b h v h':=⟨(Ydd s).trans u.1,u.2⟩
theorem Yei (hP:∀ t,P t→okL Zqb t=true) (hPs:∀ t,P t→∀ p∈t.ps,P p):∀ (U K:Nat) {σ:Nat→Option Ty} {F:Nat→Ty} {h:Zaa} {a b:Ty} {va vb:List Zag},unb Zfb σ≤U→(sb V12 F a).size≤K→Rsv V12 σ F→Inc Zpl V12 σ→(∀ c t,σ c=some t→P (.k c)∧P t) →
  Zpg S h i σ→(∀ j,S j→j < h.length∧j≠i)→P a→P b→Zei S h a va→Zei S h b vb→Zad pg Zcn [.ptr (some (i,0)),.agg va,.agg vb] h (Zns S i P σ F a b h):=by
 intro U
 induction U using Nat.strongRecOn with
 | ind U ihU=>
 intro K
 induction K using Nat.strongRecOn with
 | ind K ihK=>
 intro σ F h a b va vb hU hK rs hi hσ m hSi ha hb ra rb
 have hdom:∀ c u,σ c=some u→V12 c=true∧okL Zqb u=true:=fun c u h=>⟨rs.dom c u h,hP u (hσ c u h).2⟩
 obtain ⟨n,a',hw,ha',heqa⟩:=rs.walked P (fun c t h=>(hσ c t h).2) ha
 obtain ⟨n',b',hw',hb',heqb⟩:=rs.walked P (fun c t h=>(hσ c t h).2) hb
 have hao:=hP a' ha'
 have hbo:=hP b' hb'
 have haend:=hw.end_
 have hbend:=hw'.end_
 have hil:=m.lt
 cases hva:V12 a'.hd with
 | true=>
  have hak:=Zmx hao hva
  obtain ⟨k,hk,hkv,hix⟩:=Zmh hva
  have hrk:Zpl a'.hd=k:=by unfold Zpl; rw [hix]; rfl
  cases hvb:V12 b'.hd with
  | false=>
   rw [hak] at hw
   exact Zqj rs hi hP hσ m hSi ha hb (by rw [← hak]; exact ha') hb' hw hw' hva (fun h=>by rw [hvb] at h; cases h) ra rb
  | true=>
   have hbk:=Zmx hbo hvb
   obtain ⟨k',hk',hkv',hix'⟩:=Zmh hvb
   have hrk':Zpl b'.hd=k':=by unfold Zpl; rw [hix']; rfl
   rcases Nat.lt_trichotomy k k' with hlt | heq | hgt
   ·rw [hak] at hw
    exact Zqj rs hi hP hσ m hSi ha hb (by rw [← hak]; exact ha') hb' hw hw' hva (fun _=>by omega) ra rb
   ·have hab:a'=b':=by
     rw [heq,hkv'] at hkv
     rw [hak,hbk,Option.some.inj hkv]
    refine Zad.mono (Q:=Zns S i P σ F a' b' h) ?_ (fun v h' u=>u.walk rs hw hw')
    refine Zpq rs hdom m hSi (hP a ha) (hP b hb) hw hw' ra rb fun hX pa pb ca cb ea eb S5 oa ob ra5 rb5 mX=>?_
    unfold Zql
    rw [hix,hix']
    refine Zaj (fun _=>?_) (fun h=>absurd (by omega:(k:Int) ≥ 0) h)
    refine Zek (fun _=>?_) (fun h=>absurd (by omega) h)
    exact ⟨Ydd S5,.inl ⟨rfl,σ,F,mX,rs,fun θ=>⟨fun h=>⟨h,by rw [hab]⟩,And.left⟩,hi,hσ,.inl ⟨rfl,rfl⟩⟩⟩
   ·refine Zad.mono (Q:=Zns S i P σ F a' b' h) ?_ (fun v h' u=>u.walk rs hw hw')
    refine Zpq rs hdom m hSi (hP a ha) (hP b hb) hw hw' ra rb fun hX pa pb ca cb ea eb S5 oa ob ra5 rb5 mX=>?_
    unfold Zql
    rw [hix,hix']
    refine Zaj (fun _=>?_) (fun h=>absurd (by omega:(k:Int) ≥ 0) h)
    refine Zek (fun h=>by omega) (fun _=>?_)
    refine Zaj (fun _=>?_) (fun h=>absurd (by omega:(k:Int) ≥ 0) h)
    refine Zaj (fun h=>by omega) (fun _=>?_)
    refine Zaj (fun h=>by omega) (fun _=>?_)
    refine Zaj (fun _=>?_) (fun h=>absurd (by omega) h)
    rw [Zbr oa,Zbr ob]
    simp only [Zas,Zak,Zar,Zal,Zai]
    have hb2:=hb'
    rw [hbk] at hb2
    have wb:Wlk σ 0 b' (.k b'.hd):=by rw [← hbk]; exact .stop hbend
    refine (Zqj (S:=S) (va:=[.int .u8 (b'.hd:Int),.slice pb b'.ps.length cb eb]) (vb:=[.int .u8 (a'.hd:Int),.slice pa a'.ps.length ca ea]) rs hi hP hσ mX (fun j hj=>⟨by have:=(hSi j hj).1; have:=S5.le; omega,(hSi j hj).2⟩) hb' ha' hb2 ha' wb (.stop haend) hvb (fun _=>by omega) rb5 ra5).mono ?_
    rintro v h6 u
    have hu:=u.symm.base S5
    obtain ⟨_,⟨rfl,_⟩ | ⟨rfl,_⟩⟩:=id u
    ·simp only [Zah]; exact hu
    ·simp only [Zah]; exact hu
 | false=>
  refine Zad.mono (Q:=Zns S i P σ F a' b' h) ?_ (fun v h' u=>u.walk rs hw hw')
  refine Zpq rs hdom m hSi (hP a ha) (hP b hb) hw hw' ra rb fun hX pa pb ca cb ea eb S5 oa ob ra5 rb5 mX=>?_
  have hSX:∀ j,S j→j < hX.length∧j≠i:=fun j hj=>⟨by have:=(hSi j hj).1; have:=S5.le; omega,(hSi j hj).2⟩
  unfold Zql
  rw [Zsl hao hva]
  refine Zaj (fun h=>by omega) (fun _=>?_)
  refine Zaj (fun h=>by omega) (fun _=>?_)
  cases hvb:V12 b'.hd with
  | true=>
   have hbk:=Zmx hbo hvb
   obtain ⟨k',hk',hkv',hix'⟩:=Zmh hvb
   rw [hix']
   refine Zaj (fun _=>?_) (fun h=>absurd (by omega) h)
   rw [Zbr oa,Zbr ob]
   simp only [Zas,Zak,Zar,Zal,Zai]
   have hb2:=hb'
   rw [hbk] at hb2
   have wb:Wlk σ 0 b' (.k b'.hd):=by rw [← hbk]; exact .stop hbend
   refine (Zqj (S:=S) (va:=[.int .u8 (b'.hd:Int),.slice pb b'.ps.length cb eb]) (vb:=[.int .u8 (a'.hd:Int),.slice pa a'.ps.length ca ea]) rs hi hP hσ mX hSX hb' ha' hb2 ha' wb (.stop haend) hvb (fun h=>by rw [hva] at h; cases h) rb5 ra5).mono ?_
   rintro v h6 u
   have hu:=u.symm.base S5
   obtain ⟨_,⟨rfl,_⟩ | ⟨rfl,_⟩⟩:=id u
   ·simp only [Zah]; exact hu
   ·simp only [Zah]; exact hu
  | false=>
   rw [Zsl hbo hvb]
   refine Zaj (fun h=>by omega) (fun _=>?_)
   simp only [Zan oa,Zan ob,Nat.zero_add,List.getElem?_cons_zero,Zal]
   refine Zfp (fun hne=>?_) (fun he=>?_)
   ·exact ⟨Ydd S5,.inr ⟨rfl,fun θ _=>Yjs (.inr hva) (.inr hvb) fun e=>hne (by rw [e])⟩⟩
   have hh:a'.hd=b'.hd:=by omega
   have hlen:=Ymc hao hbo hh
   have hps2:a'.ps.length≤2:=by cases a' <;> simp [Ty.ps]
   obtain ⟨_,_,_,vas,heqv,rowa,hSa,hval,hvas⟩:=id ra5.parts
   simp only [List.cons.injEq,Zag.slice.injEq,true_and,and_true] at heqv
   obtain ⟨rfl,rfl,rfl⟩:=heqv
   obtain ⟨_,_,_,vbs,heqv,rowb,hSb,hvbl,hvbs⟩:=id rb5.parts
   simp only [List.cons.injEq,Zag.slice.injEq,true_and,and_true] at heqv
   obtain ⟨rfl,rfl,rfl⟩:=heqv
   have hparts:∀ θ:Nat→Ty,sb V12 θ a'=sb V12 θ b' ↔ ∀ (j:Nat) (p q:Ty),a'.ps[j]?=some p→b'.ps[j]?=some q→sb V12 θ p=sb V12 θ q:=fun θ=>Yiw (.inr hva) (.inr hvb) hh hlen
   apply Zdp.J15i
   simp only [Zan oa,Nat.zero_add,List.getElem?_cons_succ,List.getElem?_cons_zero,Zai]
   refine Zdp.L16ind (J:=fun (g:Nat) x68 h'=>x68=(g:Int)∧g≤a'.ps.length∧Zif i hX h'∧∃ σg Fg,Zpg S h' i σg∧Rsv V12 σg Fg∧(∀ θ,Sol V12 σg θ ↔ Sol V12 σ θ∧∀ (j:Nat) (p q:Ty),j < g→a'.ps[j]?=some p→b'.ps[j]?=some q→sb V12 θ p=sb V12 θ q)∧Inc Zpl V12 σg∧(∀ c t,σg c=some t→P (.k c)∧P t)∧((σg=σ∧Fg=F) ∨ unb Zfb σg < unb Zfb σ)) (m:=fun g=>a'.ps.length - g) (hr:=?_) (g:=0)
    (hj:=⟨rfl,by omega,Zif.refl _ _,σ,F,mX,rs,fun θ=>⟨fun h=>⟨h,fun j p q hj=>by omega⟩,And.left⟩,hi,hσ,.inl ⟨rfl,rfl⟩⟩)
   rintro g x68 h3 ⟨rfl,hg,K3,σg,Fg,mg,rg,hsol,hig,hσg,hcase⟩ R hR
   unfold Zdp.L16t
   have hX5:=S5.le
   refine Zaj (fun hlt=>?_) (fun hge=>?_)
   ·have hga:g < a'.ps.length:=by omega
    have hgb:g < b'.ps.length:=by omega
    have oa3:=Yje K3 oa (by omega)
    have ob3:=Yje K3 ob (by omega)
    obtain ⟨ja,ofa,a3,c3,e3,rfl,hra,hka⟩:=Zei.get (rowa.keepAt (i:=i) (fun j o h0 e=>(hSi j (hSa j o (by omega) e)).2) K3) hval (fun k w x h1 h2=>(hvas k w x h1 h2).keep fun j hj hl=>K3.eq j hl (hSi j hj).2) hga
    obtain ⟨jb,ofb,a4,c4,e4,rfl,hrb,hkb⟩:=Zei.get (rowb.keepAt (i:=i) (fun j o h0 e=>(hSi j (hSb j o (by omega) e)).2) K3) hvbl (fun k w x h1 h2=>(hvbs k w x h1 h2).keep fun j hj hl=>K3.eq j hl (hSi j hj).2) hgb
    simp only [Zan oa3,Zan ob3,Nat.zero_add,List.getElem?_cons_succ,List.getElem?_cons_zero,Zai,Zau,Int.toNat_natCast,hra,hrb,Zas,Zak,Zar,Zal,true_and]
    have hma:=List.getElem_mem hga
    have hmb:=List.getElem_mem hgb
    have hpg:a'.ps[g]?=some a'.ps[g]:=List.getElem?_eq_getElem hga
    have hqg:b'.ps[g]?=some b'.ps[g]:=List.getElem?_eq_getElem hgb
    have hS3:∀ j,S j→j < h3.length∧j≠i:=fun j hj=>⟨by have:=(hSX j hj).1; have:=K3.le; omega,(hSi j hj).2⟩
    have hrec:Zad pg Zcn [.ptr (some (i,0)),.agg [.int .u8 (a'.ps[g].hd:Int),.slice a3 a'.ps[g].ps.length c3 e3],.agg [.int .u8 (b'.ps[g].hd:Int),.slice a4 b'.ps[g].ps.length c4 e4]] h3 (Zns S i P σg Fg a'.ps[g] b'.ps[g] h3):=by
     rcases hcase with ⟨rfl,rfl⟩ | hlt'
     ·have:=Znu (V:=V12) hma Fg
      rw [heqa] at hK
      exact ihK _ (by omega) hU (Nat.le_refl _) rg hig hσg mg hS3 (hPs a' ha' _ hma) (hPs b' hb' _ hmb) hka hkb
     ·exact ihU (unb Zfb σg) (by omega) _ (Nat.le_refl _) (Nat.le_refl _) rg hig hσg mg hS3 (hPs a' ha' _ hma) (hPs b' hb' _ hmb) hka hkb
    refine ⟨by omega,by omega,hrec.mono ?_⟩
    rintro v h4 ⟨K4,⟨rfl,σ',F',m',r',hsol',hi',hσ',hc'⟩ | ⟨rfl,hno⟩⟩
    ·have oa4:=Yje K4 oa3 (by omega)
     simp only [Zah,Bool.not_true,Zay,Zan oa4,List.getElem?_cons_succ,List.getElem?_cons_zero,true_and]
     rw [Zbp (by omega)]
     refine hR (g + 1) _ _ (by omega) ⟨rfl,by omega,K3.trans K4,σ',F',m',r',fun θ=>?_,hi',hσ',?_⟩
     ·rw [hsol' θ,hsol θ]
      constructor
      ·rintro ⟨⟨h1,h2⟩,h3⟩
       refine ⟨h1,fun j p q hj hp hq=>?_⟩
       by_cases e:j=g
       ·subst e; rw [hpg] at hp; rw [hqg] at hq; cases hp; cases hq; exact h3
       ·exact h2 j p q (by omega) hp hq
      ·rintro ⟨h1,h2⟩
       exact ⟨⟨h1,fun j p q hj=>h2 j p q (by omega)⟩,h2 g _ _ (by omega) hpg hqg⟩
     ·rcases hc' with ⟨rfl,rfl⟩ | hc'
      ·exact hcase
      ·rcases hcase with ⟨rfl,rfl⟩ | hcase
       ·exact .inr hc'
       ·exact .inr (by omega)
    ·have oa4:=Yje K4 oa3 (by omega)
     simp only [Zah,Bool.not_false,Zcs,Zan oa4,List.getElem?_cons_succ,List.getElem?_cons_zero,true_and]
     refine ⟨(Ydd S5).trans (K3.trans K4),.inr ⟨rfl,fun θ hs he=>?_⟩⟩
     have hall:=(hparts θ).1 he
     exact hno θ ((hsol θ).2 ⟨hs,fun j p q _=>hall j p q⟩) (hall g _ _ hpg hqg)
   ·apply Zdp.A16x1i
    have:g=a'.ps.length:=by omega
    subst this
    refine ⟨(Ydd S5).trans K3,.inl ⟨rfl,σg,Fg,mg,rg,fun θ=>?_,hig,hσg,hcase⟩⟩
    rw [hsol θ,hparts θ]
    exact and_congr_right fun _=>⟨fun h j p q hp hq=>h j p q (List.getElem?_eq_some_iff.1 hp).1 hp hq,fun h j p q _=>h j p q⟩
end
end Go.Sim

set_option linter.unusedVariables false
set_option linter.unusedSimpArgs false
set_option maxRecDepth 20000
namespace Go.Sim
open Go Go.RowKit

end Go.Sim

set_option linter.unusedVariables false
set_option linter.unusedSimpArgs false
set_option maxRecDepth 20000
namespace Go.Sim
open Go Go.RowKit

theorem Zei.below {S:Nat→Prop} {h:Zaa}:∀ {t:Ty} {v:List Zag},Zei S h t v→Zei (fun j=>S j∧j < h.length) h t v
 | .k d,_,h=>h
 | .u d x,_,⟨j,c,e,r,hv,sj,hj,hr⟩=>⟨j,c,e,r,hv,⟨sj,Own.lt hj⟩,hj,hr.below⟩
 | .w d x y,_,⟨j,c,e,r,r',hv,sj,hj,hr,hr'⟩=>⟨j,c,e,r,r',hv,⟨sj,Own.lt hj⟩,hj,hr.below,hr'.below⟩
theorem Ztg:pg.underlying Zgg=some (.slice Zab):=by kernel_rfl
theorem Zyc:pg.cellsOf Zab=2:=by kernel_rfl
theorem Zxf:pg.okElem Zab=true:=by kernel_rfl
theorem Zyk:pg.bytesOf Zab≤127:=Nat.le_of_ble_eq_true (by kernel_rfl)
theorem Zrh {vs:List (List Zag)} (h:∀ v∈vs,v.length=2):vs.flatten.length=vs.length * 2:=by
 rw [List.length_flatten]
 induction vs with
 | nil=>rfl
 | cons v vs ih=>
  have h1:=h v (by simp)
  have h2:=ih (fun x hx=>h x (by simp [hx]))
  simp only [List.map_cons,List.sum_cons,List.length_cons]; omega
end Go.Sim
