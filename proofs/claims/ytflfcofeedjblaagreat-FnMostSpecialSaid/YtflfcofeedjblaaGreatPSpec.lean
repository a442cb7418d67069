/- A part of the proof of a statement of this seat: see the text that holds the theorem. No condition. -/
import Derived.Test.YtflfcofeedjblaaGreatCVars
import Derived.Test.YtflfcofeedjblaaGreatPTCMatch
import Derived.Test.YtflfcofeedjblaaGreatCIter
import Derived.Test.YtflfcofeedjblaaGreatPTCApply
set_option linter.unusedVariables false
set_option linter.unusedSimpArgs false
set_option linter.all false
set_option linter.unusedSimpArgs false
set_option linter.unusedVariables false
namespace Go.Sim

abbrev Bd:=List (Nat × Ty)
def Zff:Bd→Nat→Option Ty
 | [],_=>none
 | (v,t) :: m,x=>if v=x then some t else Zff m x
def Zpa (m:Bd) (v:Nat) (t:Ty):Option Bd:=match Zff m v with | some t'=>if t'=t then some m else none | none=>some (m ++ [(v,t)])
def matchT:Bd→Ty→Ty→Option Bd
 | m,.k c,t=>if Zcr c then Zpa m c t else if c=t.hd then some m else none
 | m,.u c a,t=>if c=t.hd then (match t.ps with | [x]=>matchT m a x | _=>none) else none
 | m,.w c a b,t=>if c=t.hd then (match t.ps with | [x,y]=>(match matchT m a x with | some m1=>matchT m1 b y | none=>none) | _=>none) else none
def matchL:Bd→List Ty→List Ty→Option Bd
 | m,[],_=>some m
 | m,a :: xs,[]=>none
 | m,a :: xs,t :: ys=>match matchT m a t with | some m1=>matchL m1 xs ys | none=>none
theorem Zry {a:Ty} (h:a.ok=true) (hv:Zcr a.hd=true):a=.k a.hd:=by
 cases a with
 | k c=>rfl
 | u c a=>simp only [Ty.ok,Bool.and_eq_true,Bool.or_eq_true,beq_iff_eq] at h; rcases h.1 with rfl | rfl <;> simp [Ty.hd,Zcr] at hv
 | w c a b=>simp only [Ty.ok,Bool.and_eq_true,beq_iff_eq] at h; rcases h.1.1 with rfl; simp [Ty.hd,Zcr] at hv
theorem Ydg {a t:Ty} (ha:a.ok=true) (ht:t.ok=true) (h:a.hd=t.hd):a.ps.length=t.ps.length:=by
 have h1:=Ty.ok_ar ha; have h2:=Ty.ok_ar ht
 rw [h,h2] at h1; omega
theorem Ycp {m:Bd} {a t:Ty} (ha:a.ok=true) (ht:t.ok=true) :
  matchT m a t=if Zcr a.hd then Zpa m a.hd t else if a.hd=t.hd then matchL m a.ps t.ps else none:=by
 cases a with
 | k c=>
  show matchT m (.k c) t=if Zcr c then Zpa m c t else if c=t.hd then matchL m [] t.ps else none
  rw [matchT,matchL]
 | u c a=>
  have hnv:Zcr c=false:=by
   cases h:Zcr c with
   | false=>rfl
   | true=>have:=Zry ha h; cases this
  show matchT m (.u c a) t=if Zcr c then Zpa m c t else if c=t.hd then matchL m [a] t.ps else none
  rw [matchT,hnv,if_neg (show ¬ (false=true) by decide)]
  by_cases h:c=t.hd
  ·have hl:1=t.ps.length:=Ydg ha ht h
   rw [if_pos h,if_pos h]
   match t.ps,hl with
   | [x],_=>simp only [matchL]; cases matchT m a x <;> rfl
  ·rw [if_neg h,if_neg h]
 | w c a b=>
  have hnv:Zcr c=false:=by
   cases h:Zcr c with
   | false=>rfl
   | true=>have:=Zry ha h; cases this
  show matchT m (.w c a b) t=if Zcr c then Zpa m c t else if c=t.hd then matchL m [a,b] t.ps else none
  rw [matchT,hnv,if_neg (show ¬ (false=true) by decide)]
  by_cases h:c=t.hd
  ·have hl:2=t.ps.length:=Ydg ha ht h
   rw [if_pos h,if_pos h]
   match t.ps,hl with
   | [x,y],_=>
    simp only [matchL]
    cases matchT m a x with
    | none=>rfl
    | some m1=>simp only []; cases matchT m1 b y <;> rfl
  ·rw [if_neg h,if_neg h]
theorem Zts:∀ (xs ys:List Ty) (m:Bd) (g:Nat) (h1:g < xs.length) (h2:g < ys.length),matchL m (xs.take (g + 1)) (ys.take (g + 1))=match matchL m (xs.take g) (ys.take g) with | some m1=>matchT m1 xs[g] ys[g] | none=>none
 | a :: xs,t :: ys,m,0,_,_=>by
  simp only [List.take_succ_cons,List.take_zero,matchL,List.getElem_cons_zero]
  cases matchT m a t <;> rfl
 | a :: xs,t :: ys,m,g + 1,h1,h2=>by
  simp only [List.length_cons,Nat.add_lt_add_iff_right] at h1 h2
  simp only [List.take_succ_cons,matchL,List.getElem_cons_succ]
  cases hm:matchT m a t with
  | none=>rfl
  | some m1=>
   have:=Zts xs ys m1 g h1 h2
   simpa only [List.take_succ_cons] using this
theorem Ztr:∀ (xs ys:List Ty) (m:Bd) (g:Nat),xs.length=ys.length→matchL m (xs.take g) (ys.take g)=none→matchL m xs ys=none
 | [],_,m,g,_,h=>by simp [matchL] at h
 | a :: xs,[],m,g,hl,h=>by simp at hl
 | a :: xs,t :: ys,m,0,_,h=>by simp [matchL] at h
 | a :: xs,t :: ys,m,g + 1,hl,h=>by
  simp only [List.take_succ_cons,matchL] at h ⊢
  cases hm:matchT m a t with
  | none=>rfl
  | some m1=>
   rw [hm] at h
   exact Ztr xs ys m1 g (by simpa using hl) h

structure BOk (n:Nat) (m:Bd):Prop where
 var:∀ p∈m,Zcr p.1=true∧p.2.ok=true∧p.2.txt.length≤n
 nd:(m.map (·.1)).Nodup
theorem Znf:∀ {m:Bd} {v:Nat} {t:Ty},Zff m v=some t→(v,t)∈m
 | (w,u) :: m,v,t,h=>by
  simp only [Zff] at h
  split at h
  ·rename_i e; cases h; subst e; simp
  ·exact List.mem_cons_of_mem _ (Znf h)
theorem Zty:∀ {m:Bd} {v:Nat},Zff m v=none ↔ v ∉ m.map (·.1)
 | [],v=>by simp [Zff]
 | (w,u) :: m,v=>by
  simp only [Zff]
  by_cases e:w=v
  ·simp [e]
  ·simp only [e,if_false,Zty (m:=m),List.map_cons,List.mem_cons,not_or]
   exact ⟨fun h=>⟨fun e'=>e e'.symm,h⟩,fun h=>h.2⟩
theorem Yfy {m:Bd} {v:Nat}:(Zff m v).isSome=true ↔ v∈m.map (·.1):=by
 cases h:Zff m v with
 | none=>simp [Zty.1 h]
 | some t=>simp only [Option.isSome_some,true_iff]; exact List.mem_map.2 ⟨_,Znf h,rfl⟩
theorem Zss {m:Bd} {v x:Nat} {t:Ty}:Zff (m ++ [(v,t)]) x=match Zff m x with | some u=>some u | none=>if v=x then some t else none:=by
 induction m with
 | nil=>simp [Zff]
 | cons p m ih=>
  obtain ⟨w,u⟩:=p
  simp only [List.cons_append,Zff,ih]
  split <;> rfl
theorem BOk.nil {n:Nat}:BOk n []:=⟨by simp,by simp⟩
theorem BOk.note {n:Nat} {m m':Bd} {v:Nat} {t:Ty} (b:BOk n m) (hv:Zcr v=true) (ht:t.ok=true) (hn:t.txt.length≤n) (h:Zpa m v t=some m'):BOk n m':=by
 unfold Zpa at h
 split at h
 ·split at h
  ·cases h; exact b
  ·cases h
 ·rename_i hg
  cases h
  refine ⟨?_,?_⟩
  ·intro p hp
   rcases List.mem_append.1 hp with hp | hp
   ·exact b.var p hp
   ·simp at hp; subst hp; exact ⟨hv,ht,hn⟩
  ·rw [List.map_append,List.nodup_append]
   refine ⟨b.nd,by simp,?_⟩
   intro x hx y hy e
   simp at hy; subst hy; subst e
   exact Zty.1 hg hx
theorem Zot {t x:Ty} (h:x∈t.ps):x.txt.length≤t.txt.length:=by
 cases t with
 | k c=>simp [Ty.ps] at h
 | u c a=>simp [Ty.ps] at h; subst h; simp [Ty.txt]; omega
 | w c a b=>simp [Ty.ps] at h; rcases h with rfl | rfl <;> simp [Ty.txt] <;> omega
theorem BOk.matchT {n:Nat}:∀ {a t:Ty} {m m':Bd},a.ok=true→t.ok=true→t.txt.length≤n→BOk n m→Go.Sim.matchT m a t=some m'→BOk n m'
 | .k c,t,m,m',ha,ht,hn,b,h=>by
  simp only [Go.Sim.matchT] at h
  split at h
  ·rename_i hv; exact b.note hv ht hn h
  ·split at h
   ·cases h; exact b
   ·cases h
 | .u c a,t,m,m',ha,ht,hn,b,h=>by
  simp only [Ty.ok,Bool.and_eq_true] at ha
  simp only [Go.Sim.matchT] at h
  split at h
  ·split at h
   ·rename_i x hx
    have hm:x∈t.ps:=by rw [hx]; simp
    exact BOk.matchT ha.2 (Ty.ok_ps ht x hm) (Nat.le_trans (Zot hm) hn) b h
   ·cases h
  ·cases h
 | .w c a a2,t,m,m',ha,ht,hn,b,h=>by
  simp only [Ty.ok,Bool.and_eq_true] at ha
  simp only [Go.Sim.matchT] at h
  split at h
  ·split at h
   ·rename_i x y hx
    have hm:x∈t.ps:=by rw [hx]; simp
    have hm2:y∈t.ps:=by rw [hx]; simp
    split at h
    ·rename_i m1 h1
     exact BOk.matchT ha.2 (Ty.ok_ps ht y hm2) (Nat.le_trans (Zot hm2) hn) (BOk.matchT ha.1.2 (Ty.ok_ps ht x hm) (Nat.le_trans (Zot hm) hn) b h1) h
    ·cases h
   ·cases h
  ·cases h
theorem BOk.matchL {n:Nat}:∀ {xs ys:List Ty} {m m':Bd},(∀ a∈xs,a.ok=true)→(∀ t∈ys,t.ok=true∧t.txt.length≤n)→BOk n m→Go.Sim.matchL m xs ys=some m'→BOk n m'
 | [],_,m,m',_,_,b,h=>by simp [Go.Sim.matchL] at h; subst h; exact b
 | a :: xs,[],m,m',_,_,b,h=>by simp [Go.Sim.matchL] at h
 | a :: xs,t :: ys,m,m',ha,ht,b,h=>by
  simp only [Go.Sim.matchL] at h
  split at h
  ·rename_i m1 h1
   exact BOk.matchL (fun a h=>ha a (by simp [h])) (fun t h=>ht t (by simp [h])) (BOk.matchT (ha a (by simp)) (ht t (by simp)).1 (ht t (by simp)).2 b h1) h
  ·cases h
def bdL (m:Bd):List Nd:=Zed.filterMap fun v=>(Zff m v).map fun t=>([v],t.txt)
noncomputable def Zhn (p s:List Nat):Option Bd:=match Zhk p,Zhk s with | some a,some b=>matchT [] a b | _,_=>none
noncomputable def Zlg (p s:List Nat):Bool:=(Zhn p s).isSome
noncomputable def Zjd (p s:List Nat):List Nd:=match Zhn p s with | some m=>bdL m | none=>[]
theorem Zuf {p s:List Nat} {m:Bd} (h:Zhn p s=some m):BOk 60 m:=by
 unfold Zhn at h
 split at h
 ·rename_i a b ha hb
  obtain ⟨h1,_,_⟩:=Zdt.1 ha
  obtain ⟨h2,h3,h4⟩:=Zdt.1 hb
  exact BOk.matchT h1 h2 (by rw [← h3]; exact h4) BOk.nil h
 ·cases h
theorem Zof:Zed.Nodup:=by decide
theorem Zwj:Zed.Pairwise (· < ·):=by decide
theorem Yhg (m:Bd):bdL m=(Zed.filter fun v=>(Zff m v).isSome).map fun v=>([v],((Zff m v).getD default).txt):=by
 unfold bdL
 induction Zed with
 | nil=>rfl
 | cons v l ih=>
  simp only [List.filterMap_cons,List.filter_cons]
  cases h:Zff m v with
  | none=>simpa [h] using ih
  | some t=>simp [h,ih]
theorem Yfj {n:Nat} {m:Bd} (b:BOk n m) {ks:List Nat} (hp:ks.Perm (m.map (·.1))) (hs:ks.Pairwise (·≤·)):ks=Zed.filter fun v=>(Zff m v).isSome:=by
 have hnd:ks.Nodup:=hp.nodup_iff.2 b.nd
 have h1:ks.Pairwise (· < ·):=by
  have:=List.pairwise_and_iff.2 ⟨hs,hnd⟩
  exact this.imp fun h=>by have:=h.1; have:=h.2; omega
 have h2:(Zed.filter fun v=>(Zff m v).isSome).Pairwise (· < ·):=Zwj.filter _
 have hp2:ks.Perm (Zed.filter fun v=>(Zff m v).isSome):=by
  rw [List.perm_ext_iff_of_nodup hnd (Zof.filter _)]
  intro v
  rw [hp.mem_iff,List.mem_filter,Yfy]
  constructor
  ·intro hv
   obtain ⟨p,hp,rfl⟩:=List.mem_map.1 hv
   exact ⟨(Zno _).2 (b.var p hp).1,hv⟩
  ·exact fun h=>h.2
 exact hp2.eq_of_pairwise (fun a b _ _ h1 h2=>by omega) h1 h2
end Go.Sim

set_option linter.unusedVariables false
set_option linter.unusedSimpArgs false
set_option maxRecDepth 20000
namespace Go.Sim
open Go Go.RowKit

def Ylg (h:Zaa) (i:Nat) (m:Bd):Prop:=∃ es clk,h[i]?=some (.map es clk)∧es.map (·.1)=m.map (fun p=>Zau.str [p.1])∧es.map (·.2.1)=m.map (fun p=>Zau.str p.2.txt)∧(es.map (·.2.2)).Nodup∧∀ e∈es,e.2.2 < clk
theorem Ylg.eq {h h':Zaa} {i:Nat} {m:Bd} (r:Ylg h i m) (he:h'[i]?=h[i]?):Ylg h' i m:=by
 obtain ⟨es,clk,h1,x⟩:=r
 exact ⟨es,clk,by rw [he]; exact h1,x⟩
theorem Ylg.lt {h:Zaa} {i:Nat} {m:Bd} (r:Ylg h i m):i < h.length:=by obtain ⟨es,clk,h1,_⟩:=r; exact Own.lt h1
theorem Zsm:∀ {es:List ME} {m:Bd} {v k:Nat} {t:Ty},es.map (·.1)=m.map (fun p=>Zau.str [p.1])→es.map (·.2.1)=m.map (fun p=>Zau.str p.2.txt)→Zff m v=some t→∃ j b,Zvv es [v] k=some (some (k + j,.str t.txt))∧es[j]?=some (.str [v],.str t.txt,b)
 | _,[],v,k,t,_,_,h=>by simp [Zff] at h
 | [],p :: m,v,k,t,h,_,_=>by simp at h
 | (ek,ev,eb) :: es,(w,u) :: m,v,k,t,hk,hv,h=>by
  simp only [List.map_cons,List.cons.injEq] at hk hv
  obtain ⟨rfl,hk⟩:=hk
  obtain ⟨rfl,hv⟩:=hv
  simp only [Zff] at h
  by_cases e:w=v
  ·rw [if_pos e] at h
   cases h; subst e
   exact ⟨0,eb,by simp [Zvv],rfl⟩
  ·rw [if_neg e] at h
   obtain ⟨j,b,h1,h2⟩:=Zsm (k:=k + 1) hk hv h
   have:¬ [v]=[w]:=fun x=>e (by simpa using x.symm)
   exact ⟨j + 1,b,by simp only [Zvv,this,if_false,h1]; rw [show k + 1 + j=k + (j + 1) by omega],h2⟩
theorem Zsk:∀ {es:List ME} {m:Bd} {v k:Nat},es.map (·.1)=m.map (fun p=>Zau.str [p.1])→Zff m v=none→Zvv es [v] k=some none
 | [],[],v,k,_,_=>rfl
 | [],p :: m,v,k,h,_=>by simp at h
 | e :: es,[],v,k,h,_=>by simp at h
 | (ek,ev,eb) :: es,(w,u) :: m,v,k,hk,h=>by
  simp only [List.map_cons,List.cons.injEq] at hk
  obtain ⟨rfl,hk⟩:=hk
  simp only [Zff] at h
  by_cases e:w=v
  ·rw [if_pos e] at h; cases h
  ·rw [if_neg e] at h
   have:¬ [v]=[w]:=fun x=>e (by simpa using x.symm)
   simp only [Zvv,this,if_false]
   exact Zsk hk h
theorem Zxv {α:Type} {f:α→α} {e:α}:∀ {l:List α} {j:Nat},l[j]?=some e→f e=e→l.modify j f=l
 | [],j,h,_=>by simp at h
 | a :: l,0,h,hf=>by simp at h; subst h; simp [hf]
 | a :: l,j + 1,h,hf=>by simp at h; simp [Zxv h hf]
theorem Yip (c:Nat):Zkr [c]=Zcr c:=rfl
theorem Row.keepAt {i:Nat} {h h':Zaa} {a:Pt} {n:Nat} {cs:List Zau} (r:Row h.length h a n cs) (hne:∀ j o,n≠0→a=some (j,o)→j≠i) (k:Zdu i h h'):Row h'.length h' a n cs:=by
 obtain ⟨hl,r⟩:=r
 by_cases h0:n=0
 ·exact ⟨hl,.inl h0⟩
 ·refine ⟨hl,r.imp id ?_⟩
  rintro ⟨j,o',t,all,ro,ha,hi,hg,x⟩
  have:=k.le
  exact ⟨j,o',t,all,ro,ha,by omega,by rw [k.eq j hi (hne j o' h0 ha)]; exact hg,x⟩
def Yul (h:Zaa) (i:Nat) (r:Option Bd) (v:Zau) (h':Zaa):Prop:=Zdu i h h'∧(match r with | some m'=>v=.bool true∧Ylg h' i m' | none=>v=.bool false)
theorem Yhe:∀ (N:Nat) {a t:Ty} {S:Nat→Prop} {h:Zaa} {p q:Pt} {i n:Nat} {m:Bd},a.size≤N→a.ok=true→t.ok=true→t.txt.length≤1048576→t.txt.length≤n→BOk n m→(∀ j,S j→j≠i)→Ztc S h a p→Ztc S h t q→Ylg h i m →
  Zah pg Zik [.ptr p,.ptr q,.map (some i)] h (Yul h i (matchT m a t))
 | 0,a,t,S,h,p,q,i,n,m,hN,_,_,_,_,_,_,_,_,_=>by have:=a.size_ps; omega
 | N + 1,a,t,S,h,p,q,i,n,m,hN,ha,ht,hB,hn,bo,hSi,ra,rt,rm=>by
  have hcase:=Ycp (m:=m) ha ht
  obtain ⟨ia,aa,ca,ea,qa,rfl,sia,hia,rowa,hSa,hqal,hqa⟩:=ra.parts
  obtain ⟨it,at',ct,et,qt,rfl,sit,hit,rowt,hSt,hqtl,hqt⟩:=id rt.parts
  have hps2:a.ps.length≤2:=by cases a <;> simp [Ty.ps]
  apply Zfh.call
  simp only [Zav,Zao hia,Nat.zero_add,List.getElem?_cons_succ,List.getElem?_cons_zero,Zae,Zal]
  refine (Ybp [a.hd]).mono ?_
  rintro v h1 ⟨rfl,rfl⟩
  simp only [Zap,Yip]
  refine Zcv (fun hv=>?_) (fun hv=>?_)
  ·rw [hv] at hcase
   simp only [if_true] at hcase
   refine (Ynw _ (Nat.le_refl _) hB rt).mono ?_
   rintro v h2 ⟨rfl,s2⟩
   have hia2:=s2.get hia (Own.lt hia)
   obtain ⟨es,clk,hm,hk,hvv,hb,hlt⟩:=id rm
   have hm2:=s2.get hm (Own.lt hm)
   have rm2:Ylg h2 i m:=rm.eq (s2.eq i (Own.lt hm))
   simp only [Zal,Zao hia2,List.getElem?_cons_succ,List.getElem?_cons_zero,Zic,hm2,Zzp]
   have K2:Zdu i h1 h2:=⟨s2.le,fun j hj _=>s2.eq j hj⟩
   have hput:∀ r:Option Bd,(∀ (es':List ME) (k':Nat),Yoh es clk [a.hd] (.str t.txt) (fun x y=>x=es'∧y=k')→Yul h1 i r (.bool true) (h2.set i (.map es' k')))→Zfh.J6 (Yul h1 i r) (some i) (some (ia,0)) t.txt h2:=by
    intro r hr
    apply Zfh.J6i
    simp only [Zav,Zao hia2,Nat.zero_add,List.getElem?_cons_zero,Zal,xMp,Zic,hm2,Zaw]
    unfold Yoh at hr ⊢
    cases hg:Zff m a.hd with
    | none=>
     rw [Zsk hk hg] at hr ⊢
     exact hr _ _ ⟨rfl,rfl⟩
    | some u=>
     obtain ⟨j,b,hf,_⟩:=Zsm (k:=0) hk hvv hg
     rw [hf] at hr ⊢
     exact hr _ _ ⟨rfl,rfl⟩
   have KS:∀ x,Zdu i h1 (h2.set i x):=fun x=>K2.trans (Zdu.set i h2 x)
   have hil:=Own.lt hm2
   cases hg:Zff m a.hd with
   | none=>
    have hbn:Zpa m a.hd t=some (m ++ [(a.hd,t)]):=by unfold Zpa; rw [hg]
    rw [hbn] at hcase
    rw [hcase,Zsk hk hg]
    simp only [Option.getD_none,Zal,Option.isSome_none,Zca]
    refine hput _ fun es' k' hp=>⟨KS _,rfl,?_⟩
    unfold Yoh at hp
    rw [Zsk hk hg] at hp
    obtain ⟨rfl,rfl⟩:=hp
    refine ⟨_,_,List.getElem?_set_self hil,by simp [hk],by simp [hvv],?_,?_⟩
    ·rw [List.map_append,List.nodup_append]
     refine ⟨hb,by simp,?_⟩
     intro x hx y hy e
     simp at hy
     obtain ⟨z,hz,rfl⟩:=List.mem_map.1 hx
     have:=hlt z hz; omega
    ·intro e he
     rcases List.mem_append.1 he with he | he
     ·have:=hlt e he; omega
     ·simp at he; subst he; simp
   | some u=>
    obtain ⟨j,b,hf,hj⟩:=Zsm (k:=0) hk hvv hg
    rw [hf]
    simp only [Option.getD_some,Zal,Option.isSome_some,Zcn]
    have hu:u.ok=true ∨ True:=.inr trivial
    by_cases he:u=t
    ·subst he
     have hbn:Zpa m a.hd u=some m:=by unfold Zpa; rw [hg]; simp
     rw [hbn] at hcase
     rw [hcase]
     simp only [decide_true,Bool.not_true,Zca]
     refine hput _ fun es' k' hp=>⟨KS _,rfl,?_⟩
     unfold Yoh at hp
     rw [hf] at hp
     obtain ⟨rfl,rfl⟩:=hp
     rw [Nat.zero_add,Zxv hj rfl]
     exact ⟨es,clk,List.getElem?_set_self hil,hk,hvv,hb,hlt⟩
    ·have hu:=(bo.var _ (Znf hg)).2.1
     have hne:¬ u.txt=t.txt:=fun e=>he (Ty.txt_inj' hu ht e)
     have hbn:Zpa m a.hd t=none:=by unfold Zpa; rw [hg]; simp [he]
     rw [hbn] at hcase
     rw [hcase]
     simp only [hne,decide_false,Bool.not_false,Zcn]
     exact ⟨K2,rfl⟩
  ·rw [hv] at hcase
   simp only [Bool.false_eq_true,if_false] at hcase
   simp only [Zav,Zao hia,Zao hit,Nat.zero_add,List.getElem?_cons_succ,List.getElem?_cons_zero,Zae,Zal,true_and]
   refine Zpi (fun hne=>?_) (fun he=>?_)
   ·rw [if_neg (fun e=>hne (by rw [e]))] at hcase
    rw [hcase]
    exact ⟨Zdu.refl _ _,rfl⟩
   ·have he':a.hd=t.hd:=by simpa using he
    rw [if_pos he'] at hcase
    rw [hcase]
    have hlen:=Ydg ha ht he'
    refine Zfh.L11ind _ _ _ _ _ _ _ _ (J:=fun (g:Nat) x54 h'=>x54=(g:Int)∧g≤a.ps.length∧Zdu i h1 h'∧∃ m1,matchL m (a.ps.take g) (t.ps.take g)=some m1∧Ylg h' i m1) (fun g=>a.ps.length - g) ?_ 0 _ _ ⟨rfl,by omega,Zdu.refl _ _,m,by simp [matchL],rm⟩
    rintro g x54 h' ⟨rfl,hg,hK,m1,hm1,rm1⟩ R hR
    unfold Zfh.L11t
    refine Zat (fun hlt=>?_) (fun hge=>?_)
    ·have hga:g < a.ps.length:=by omega
     have hgt:g < t.ps.length:=by omega
     have hit1:h'[it]?=some (.cells Zfj [.str [t.hd],.slice at' t.ps.length ct et,.ptr none] false):=by rw [hK.eq _ (Own.lt hit) (hSi _ sit)]; exact hit
     obtain ⟨ja,oa,rfl,_,hca⟩:=(rowa.keepAt (i:=i) (fun j o h0 e=>hSi j (hSa j o h0 e)) hK).at hga
     obtain ⟨jt,ot,rfl,_,hct⟩:=(rowt.keepAt (i:=i) (fun j o h0 e=>hSi j (hSt j o h0 e)) hK).at hgt
     have hqag:g < qa.length:=by omega
     have hqtg:g < qt.length:=by omega
     rw [List.getElem?_map,List.getElem?_eq_getElem hqag] at hca
     rw [List.getElem?_map,List.getElem?_eq_getElem hqtg] at hct
     simp only [Zav,Int.toNat_natCast,Nat.mul_one,hca,hct,Option.map_some,Zhr,Zao hit1,Nat.zero_add,List.getElem?_cons_succ,List.getElem?_cons_zero,Zae]
     have hma:=List.getElem_mem hga
     have hmt:=List.getElem_mem hgt
     have h1:=Ty.size_part hma
     have h2:=Ty.len_part hmt
     have bo1:BOk n m1:=BOk.matchL (fun x hx=>Ty.ok_ps ha x (List.mem_of_mem_take hx)) (fun x hx=>⟨Ty.ok_ps ht x (List.mem_of_mem_take hx),by have:=Ty.len_part (List.mem_of_mem_take hx); omega⟩) bo hm1
     have htk:=Zts a.ps t.ps m g hga hgt
     rw [hm1] at htk
     simp only at htk
     refine ⟨by omega,by omega,(Yhe N (by omega) (Ty.ok_ps ha _ hma) (Ty.ok_ps ht _ hmt) (by omega) (by omega) bo1 hSi ((hqa g _ _ (List.getElem?_eq_getElem hqag) (List.getElem?_eq_getElem hga)).keep fun j hj hl=>hK.eq j hl (hSi j hj)) ((hqt g _ _ (List.getElem?_eq_getElem hqtg) (List.getElem?_eq_getElem hgt)).keep fun j hj hl=>hK.eq j hl (hSi j hj)) rm1).mono ?_⟩
     rintro v h3 ⟨K3,hres⟩
     cases hmm:matchT m1 a.ps[g] t.ps[g] with
     | none=>
      rw [hmm] at hres htk
      subst hres
      simp only [Zap,Bool.not_false,Zcn]
      rw [Ztr a.ps t.ps m (g + 1) hlen htk]
      exact ⟨hK.trans K3,rfl⟩
     | some m2=>
      rw [hmm] at hres htk
      obtain ⟨rfl,rm2⟩:=hres
      simp only [Zap,Bool.not_true,Zca]
      rw [Zbl (by omega)]
      exact hR (g + 1) _ _ (by omega) ⟨rfl,by omega,hK.trans K3,m2,htk,rm2⟩
    ·apply Zfh.A11x0i
     have:g=a.ps.length:=by omega
     subst this
     rw [List.take_length,hlen,List.take_length] at hm1
     rw [hm1]
     exact ⟨hK,rfl,rm1⟩
end Go.Sim

set_option linter.unusedVariables false
set_option linter.unusedSimpArgs false
set_option maxRecDepth 20000
namespace Go.Sim
open Go Go.RowKit

theorem Zyt:pg.underlying Zmt=some (.slice Zbi):=by kernel_rfl
theorem Ydc:pg.cellsOf Zbi=2:=by kernel_rfl
theorem Yck:pg.okElem Zbi=true:=by kernel_rfl
theorem Yec:pg.bytesOf Zbi≤127:=Nat.le_of_ble_eq_true (by kernel_rfl)
theorem Vec.fresh {α:Type} {ty:TypeId} {enc:α→List Zau} {b:Nat} {h:Zaa} {a:Pt} {n c:Nat} {l:List α} (v:Vec ty h a n c (Zdn enc l)) (hn:n=l.length) (ha:∀ i,a=some (i,0)→b≤i):Zdh ty enc b h a n l:=by
 refine ⟨hn.symm,?_⟩
 rcases v with ⟨rfl,h0,_⟩ | ⟨i,rfl,hi⟩
 ·exact .inl h0
 ·exact .inr ⟨i,rfl,ha i rfl,hi⟩
theorem Yfg {h:Zaa} {i:Nat} {m:Bd} (rm:Ylg h i m) (bo:BOk 60 m) :
  Zah pg Znq [.map (some i)] h fun v h'=>Zbc h.length h h'∧∃ a n c e,v=.slice a n c e∧n≤c∧Zdh Zbi eP h.length h' a n (bdL m):=by
 have hml:m.length≤6:=by
  have hp:(m.map (·.1)).Perm (Zed.filter fun v=>decide (v∈m.map (·.1))):=by
   rw [List.perm_ext_iff_of_nodup bo.nd (Zof.filter _)]
   intro v
   rw [List.mem_filter]
   constructor
   ·intro hv
    obtain ⟨p,hp,rfl⟩:=List.mem_map.1 hv
    exact ⟨(Zno _).2 (bo.var p hp).1,by simpa using hv⟩
   ·exact fun h=>by simpa using h.2
  have h1:=hp.length_eq
  have h2:=List.length_filter_le (fun v=>decide (v∈m.map (·.1))) Zed
  rw [List.length_map] at h1
  have h3:Zed.length=6:=rfl
  omega
 apply Zht.call
 simp only [Zaw]
 generalize hh0:h ++ [Zcd.cells Zbi [] false]=h0
 have s0:Zbc h.length h h0:=by rw [← hh0]; exact Zam
 have l0:h0.length=h.length + 1:=by rw [← hh0]; simp
 have o0:h0[h.length]?=some (.cells Zbi [] false):=by rw [← hh0]; simp
 refine Yph.mono ?_
 rintro v h2 ⟨rfl,hh2⟩
 simp only [Yaw]
 have s2:Zbc h0.length h0 h2:=by rw [hh2]; exact Zam
 have hc2:h2[h0.length]?=some (.cells Zgw [.map (some i)] false):=by rw [hh2]; simp
 obtain ⟨es,clk,hm,hk,hvv,hb,hlt⟩:=id rm
 have S2:=s0.cat s2
 have hm2:=S2.get hm (Own.lt hm)
 have hel:es.length=m.length:=by have:=congrArg List.length hk; simpa using this
 refine (Zzy hc2 hm2 (vs:=m.map (·.1)) (by rw [hk,List.map_map]; rfl) bo.nd hb hlt (by omega)).mono ?_
 rintro v h3 ⟨us,hp,hsrt,hcase⟩
 have hus:=Yfj bo hp hsrt
 have hbd:bdL m=us.map fun v=>([v],((Zff m v).getD default).txt):=by rw [Yhg,hus]
 have hul:us.length≤6:=by rw [hp.length_eq]; simpa using hml
 have hmem:∀ v∈us,∃ t,Zff m v=some t:=fun v hv=>by
  rw [hus,List.mem_filter] at hv; exact Option.isSome_iff_exists.1 hv.2
 have hgen:∃ a c e,v=.slice a us.length c e∧Row h3.length h3 a us.length (us.map fun v=>Zau.str [v])∧Zbc h2.length h2 h3:=by
  rcases hcase with ⟨rfl,rfl,rfl⟩ | ⟨c,rfl,hc,rfl⟩
  ·exact ⟨_,_,_,rfl,Row.nil,Zbc.refl _ _⟩
  ·refine ⟨_,_,_,rfl,⟨by simp,.inr ⟨h2.length,0,Zbe,_,false,rfl,by simp,by simp; rfl,by simp,by rw [List.drop_zero,List.take_of_length_le (by simp)]⟩⟩,Zam⟩
 obtain ⟨a9,c9,e9,rfl,hrow,s3⟩:=hgen
 simp only [Zae]
 have S3:=S2.cat s3
 have hS3le:=S3.le
 have o3:h3[h.length]?=some (.cells Zbi [] false):=s3.get (s2.get o0 (Own.lt o0)) (by have:=Own.lt o0; have:=s2.le; omega)
 refine Zht.L3ind _ _ _ _ _ _ _ (J:=fun (g:Nat) a3 n3 c3 e3 x11 h'=>x11=(g:Int)∧g≤us.length∧Zbc h.length h h'∧(∀ j,j < h3.length→j≠h.length→h'[j]?=h3[j]?)∧h3.length≤h'.length∧n3=g∧n3≤c3∧Vec Zbi h' a3 n3 c3 (Zdn eP ((bdL m).take g))∧(∀ i,a3=some (i,0)→i=h.length ∨ h3.length≤i)) (fun g=>us.length - g) ?_ 0 _ _ _ _ _ _
  ⟨rfl,by omega,S3,fun _ _ _=>rfl,Nat.le_refl _,rfl,Nat.le_refl _,Vec.mk1 (by simpa using o3),fun i hi=>by cases hi; exact .inl rfl⟩
 rintro g a3 n3 c3 e3 x11 h' ⟨rfl,hg,hSm,hK,hle3,rfl,hnc,hv,ha⟩ R hR
 unfold Zht.L3t
 have hbl:(bdL m).length=us.length:=by rw [hbd]; simp
 refine Zat (fun hlt=>?_) (fun hge=>?_)
 ·have hg':n3 < us.length:=by omega
  obtain ⟨j,o,rfl,hj,hc⟩:=hrow.at hg'
  rw [List.getElem?_map,List.getElem?_eq_getElem hg',Option.map_some] at hc
  -- the row of keys has not turned: it lies apart from the row of bindings
  have hjr:j≠h.length:=by
   rcases hcase with ⟨h0,_⟩ | ⟨c,hsl,_,_⟩
   ·rw [h0] at hg'; simp at hg'
   ·simp only [Zau.slice.injEq,Option.some.injEq,Prod.mk.injEq] at hsl
    have:=s2.le; omega
  have hc':Zag h' (.ptr (some (j,o + n3)))=some (.str [us[n3]]):=by
   rw [← hc]; simp only [Zag,hK j hj hjr]
  obtain ⟨t,ht⟩:=hmem _ (List.getElem_mem hg')
  have hm':=hSm.get hm (Own.lt hm)
  obtain ⟨jj,bb,hf,_⟩:=Zsm (k:=0) hk hvv ht
  simp only [Zav,Int.toNat_natCast,Nat.mul_one,hc',Zal,Zic,hm',Zzp,hf,Option.getD_some,Zaw]
  have htk:(bdL m).take (n3 + 1)=(bdL m).take n3 ++ [([us[n3]],t.txt)]:=by
   rw [List.take_succ_eq_append_getElem (by omega)]
   congr 2
   have:(bdL m)[n3]?=some ([us[n3]],t.txt):=by
    rw [hbd,List.getElem?_map,List.getElem?_eq_getElem hg',Option.map_some,ht,Option.getD_some]
   exact (List.getElem?_eq_some_iff.1 this).2
  refine ⟨by omega,?_⟩
  refine hv.pushN Zyt Ydc Yck Yec (by rw [Zay Zea,List.length_take]; omega) rfl (by omega) rfl (by omega) (fun h6 hl6 hi6 hk6=>?_)
  simp only [Zae]
  rw [Zbl (by omega)]
  have hle:=hSm.le
  have hb9:∀ i,a3=some (i,0)→h.length≤i:=fun i hi=>by rcases ha i hi with hh | hh <;> omega
  refine hR (n3 + 1) _ _ _ _ _ _ (by omega) ⟨rfl,by omega,⟨by omega,fun j hj=>?_⟩,fun j hj hne=>?_,by omega,rfl,Nat.le_refl _,Vec.mk1 ?_,fun i hi=>by cases hi; right; omega⟩
  ·rw [hk6 j (by omega) fun i hi=>by have:=hb9 i hi; omega]; exact hSm.eq j hj
  ·rw [hk6 j (by omega) fun i hi=>by rcases ha i hi with hh | hh <;> omega]; exact hK j hj hne
  ·rw [hi6,htk,Zia]; rfl
 ·apply Zht.A3x0i
  have:n3=us.length:=by omega
  subst this
  rw [show (bdL m).take us.length=bdL m from List.take_of_length_le (by omega)] at hv
  exact ⟨hSm,_,_,_,_,rfl,hnc,hv.fresh (b:=h.length) hbl.symm fun i hi=>by rcases ha i hi with hh | hh <;> omega⟩
def Yhf (p s:List Nat) (h:Zaa) (v:Zau) (h':Zaa):Prop:=Zbc h.length h h'∧∃ a n c e,v=.tup [.slice a n c e,.bool (Zlg p s)]∧n≤c∧Zdh Zbi eP h.length h' a n (Zjd p s)
theorem Zrz (p s:List Nat) (h:Zaa):Zah pg Zhb [.str p,.str s] h (Yhf p s h):=by
 apply Zms.call
 refine (Zyk p h).mono ?_
 rintro v h1 ⟨s1,q1,rfl,r1⟩
 simp only [Zhr]
 refine (Zyk s h1).mono ?_
 rintro v h2 ⟨s2,q2,rfl,r2⟩
 simp only [Zhr,Zaw]
 have S2:=s1.cat s2
 have s3:Zbc h2.length h2 (h2 ++ [.map [] 0]):=Zam
 have S3:=S2.cat s3
 have no:Zhn p s=none→Yhf p s h (.tup [.slice none 0 0 true,.bool false]) (h2 ++ [.map [] 0]):=fun hn=>
  ⟨S3,none,0,0,true,by unfold Zlg; rw [hn]; rfl,Nat.le_refl _,by unfold Zjd; rw [hn]; exact ⟨rfl,.inl rfl⟩⟩
 cases hp:Zhk p with
 | none=>
  rw [hp] at r1; simp only at r1; subst r1
  simp only [Option.isNone_none,Zcn]
  exact no (by unfold Zhn; rw [hp])
 | some a=>
  rw [hp] at r1; simp only at r1
  obtain ⟨i1,rfl,b1,l1⟩:=r1.lt
  simp only [Option.isNone_some,Zca]
  cases ht:Zhk s with
  | none=>
   rw [ht] at r2; simp only at r2; subst r2
   simp only [Option.isNone_none,Zcn]
   exact no (by unfold Zhn; rw [hp,ht])
  | some t=>
   rw [ht] at r2; simp only at r2
   obtain ⟨i2,rfl,b2,l2⟩:=r2.lt
   simp only [Option.isNone_some,Zca]
   obtain ⟨ha1,ha2,ha3⟩:=Zdt.1 hp
   obtain ⟨ht1,ht2,ht3⟩:=Zdt.1 ht
   have hms:Zhn p s=matchT [] a t:=by unfold Zhn; rw [hp,ht]
   have hl1:=s1.le; have hl2:=s2.le
   have R1:=((r1.same s2).same s3).mono (S':=fun j=>j≠h2.length) (fun j hj=>by have:=hj.2; omega)
   have R2:=(r2.same s3).mono (S':=fun j=>j≠h2.length) (fun j hj=>by have:=hj.2; omega)
   have rm:Ylg (h2 ++ [.map [] 0]) h2.length []:=⟨[],0,by simp,rfl,rfl,by simp,by simp⟩
   refine (Yhe _ (Nat.le_refl _) ha1 ht1 (by rw [← ht2]; omega) (n:=60) (by rw [← ht2]; exact ht3) BOk.nil (fun j hj=>hj) R1 R2 rm).mono ?_
   rintro v h4 ⟨K4,hres⟩
   have S4:Zbc h.length h h4:=⟨by have:=K4.le; have:=S3.le; omega,fun j hj=>by rw [K4.eq j (by have:=S3.le; omega) (by have:=S2.le; omega)]; exact S3.eq j hj⟩
   cases hm:matchT [] a t with
   | none=>
    rw [hm] at hres hms
    subst hres
    simp only [Zap,Bool.not_false,Zcn]
    exact ⟨S4,none,0,0,true,by unfold Zlg; rw [hms]; rfl,Nat.le_refl _,by unfold Zjd; rw [hms]; exact ⟨rfl,.inl rfl⟩⟩
   | some m=>
    rw [hm] at hres hms
    obtain ⟨rfl,rm4⟩:=hres
    simp only [Zap,Bool.not_true,Zca]
    apply Zms.J4i
    refine (Yfg rm4 (Zuf hms)).mono ?_
    rintro v h5 ⟨s5,a5,n5,c5,e5,rfl,hc5,f5⟩
    simp only [Zae]
    refine ⟨S4.cat s5,a5,n5,c5,e5,by unfold Zlg; rw [hms]; rfl,hc5,?_⟩
    unfold Zjd; rw [hms]
    exact ⟨f5.1,f5.2.imp id fun ⟨i,ha,hb,hi⟩=>⟨i,ha,by have:=S4.le; omega,hi⟩⟩
theorem Zue (p s:List Nat) (h:Zaa):Zah pg Zin [.str p,.str s] h fun v h'=>v=.bool (Zlg p s)∧Zbc h.length h h':=by
 apply Zpl.call
 refine (Zrz p s h).mono ?_
 rintro v h1 ⟨s1,a,n,c,e,rfl,_⟩
 simp only [Zct,Zaf,Zae,Zap,Zan]
 exact ⟨by trivial,s1⟩
end Go.Sim

set_option linter.unusedVariables false
set_option linter.unusedSimpArgs false
set_option maxRecDepth 20000
namespace Go.Sim
open Go Go.RowKit

def Yih:List Nat:=[88,89,90,120,121,122,49,50,51,52,53,54]
theorem Zyn {v:Nat} (hv:Zcr v=true):∃ k:Nat,k < 6∧Zed[k]?=some v∧Zvf Yih v=(k:Int):=by
 have:=(Zno v).2 hv
 simp only [Zed,List.mem_cons,List.not_mem_nil,or_false] at this
 rcases this with rfl | rfl | rfl | rfl | rfl | rfl
 ·exact ⟨0,by omega,rfl,rfl⟩
 ·exact ⟨1,by omega,rfl,rfl⟩
 ·exact ⟨2,by omega,rfl,rfl⟩
 ·exact ⟨3,by omega,rfl,rfl⟩
 ·exact ⟨4,by omega,rfl,rfl⟩
 ·exact ⟨5,by omega,rfl,rfl⟩
theorem Zuz {t:Ty} (h:t.ok=true):t.hd∈[105,98,117,108,109,112,120,121,122,88,89,90]:=by
 have:=Ty.ok_ar h
 unfold arN Zkl Zcr at this
 simp only [Bool.or_eq_true,beq_iff_eq] at this
 simp only [List.mem_cons,List.not_mem_nil,or_false]
 split at this
 ·omega
 ·split at this
  ·omega
  ·split at this
   ·omega
   ·omega
theorem Ydu {t:Ty} (h:t.ok=true) (hv:Zcr t.hd=false):Zvf Yih t.hd=-1:=by
 apply Zze
 have:=Zuz h
 simp only [List.mem_cons,List.not_mem_nil,or_false] at this
 rcases this with e | e | e | e | e | e | e | e | e | e | e | e <;> rw [e] at hv ⊢ <;> first | (exact absurd hv (by decide)) | decide
theorem Zvx {h:Zaa} (c:Nat):Zah pg Zji [.int .u8 (c:Int)] h fun v h'=>v=.int .i64 (Zvf Yih c)∧h'=h:=by
 apply Zte.call
 refine (Ybz Yih c (by decide)).mono ?_
 rintro v h1 ⟨rfl,rfl⟩
 simp only [Zar]
 exact ⟨by trivial,by trivial⟩
def eR (x:Zau × Zau):List Zau:=[x.1,x.2]
theorem Zrn (x:Zau × Zau):(eR x).length=2:=rfl
theorem Ybv {α:Type} {enc:α→List Zau} {w:Nat} (hw:∀ x,(enc x).length=w):∀ {l:List α} {k:Nat} {x:α},k < l.length→putRow (Zdn enc l) (k * w) (enc x)=Zdn enc (l.set k x)
 | [],k,x,h=>by simp at h
 | y :: l,0,x,_=>by
  simp only [Nat.zero_mul,Zmj,List.set_cons_zero,putRow,List.take_zero,List.nil_append,Nat.zero_add,hw]
  rw [← hw y,List.drop_left]
 | y :: l,k + 1,x,h=>by
  have ih:=Ybv hw (l:=l) (k:=k) (x:=x) (by simpa using h)
  unfold putRow at ih ⊢
  simp only [Zmj,List.set_cons_succ]
  rw [← ih,Nat.succ_mul,Nat.add_comm (k * w) w,← hw y,List.take_length_add_append,Nat.add_assoc,List.drop_length_add_append]; simp only [List.append_assoc]
def Ztt (S:Nat→Prop) (h:Zaa) (i:Nat) (m:Bd):Prop:=∃ rows:List (Zau × Zau),rows.length=12∧h[i]?=some (.cells Zdf (Zdn eR rows) false) ∧
 ∀ (k:Nat) (x:Zau × Zau),rows[k]?=some x→match (Zed[k]?).bind (Zff m) with | some t=>Zhp S h t (eR x) | none=>x=(.int .u8 0,.slice none 0 0 true)
theorem Ztt.keep {S:Nat→Prop} {h h':Zaa} {i:Nat} {m:Bd} (r:Ztt S h i m) (hi:h'[i]?=h[i]?) (hh:∀ j,S j→j < h.length→h'[j]?=h[j]?):Ztt S h' i m:=by
 obtain ⟨rows,h1,h2,h3⟩:=r
 refine ⟨rows,h1,by rw [hi]; exact h2,fun k x hx=>?_⟩
 have:=h3 k x hx
 split at this
 ·exact this.keep hh
 ·exact this
theorem Ztt.same {S:Nat→Prop} {h h':Zaa} {i:Nat} {m:Bd} (r:Ztt S h i m) (s:Zbc h.length h h'):Ztt S h' i m:=by
 have hl:i < h.length:=by obtain ⟨_,_,h2,_⟩:=r; exact Own.lt h2
 exact r.keep (s.eq i hl) fun j _ hj=>s.eq j hj
theorem Ztt.lt {S:Nat→Prop} {h:Zaa} {i:Nat} {m:Bd} (r:Ztt S h i m):i < h.length:=by obtain ⟨_,_,h2,_⟩:=r; exact Own.lt h2
theorem Ztt.nil {S:Nat→Prop} {h:Zaa} {i:Nat} (hi:h[i]?=some (.cells Zdf (Zdn eR (List.replicate 12 (.int .u8 0,.slice none 0 0 true))) false)):Ztt S h i []:=by
 refine ⟨_,by simp,hi,fun k x hx=>?_⟩
 have:(Zed[k]?).bind (Zff [])=none:=by cases Zed[k]? <;> rfl
 rw [this]
 rw [List.getElem?_replicate] at hx
 split at hx
 ·cases hx; rfl
 ·cases hx
theorem Ztt.get {S:Nat→Prop} {h:Zaa} {i:Nat} {m:Bd} (r:Ztt S h i m) {k:Nat} (hk:k < 12):∃ x:Zau × Zau,Zag h (.ptr (some (i,0 + k * 2 + 0)))=some x.1∧Zbj h (.ptr (some (i,0 + k * 2))) 2=some [x.1,x.2] ∧
  match (Zed[k]?).bind (Zff m) with | some t=>Zhp S h t [x.1,x.2] | none=>x=(.int .u8 0,.slice none 0 0 true):=by
 obtain ⟨rows,h1,h2,h3⟩:=r
 have hrow:Row h.length h (some (i,0)) (12 * 2) (Zdn eR rows):=⟨by rw [Zay Zrn,h1],.inr ⟨i,0,_,_,_,rfl,Own.lt h2,h2,by rw [Zay Zrn,h1]; simp,by rw [List.drop_zero,List.take_of_length_le (by rw [Zay Zrn,h1]; simp)]⟩⟩
 obtain ⟨i',o',hk',he,_,hr,hc⟩:=Row.el Zrn hrow h1 hk (by omega)
 cases he
 exact ⟨rows[k],by have:=hc 0 (by omega); simpa [eR] using this,hr,h3 k _ (List.getElem?_eq_getElem hk')⟩
def Yoj (S:Nat→Prop) (h:Zaa) (i:Nat) (m:Bd):Prop:=∃ rows:List (Zau × Zau),rows.length=12∧h[i]?=some (.cells Zdf (Zdn eR rows) false) ∧
 ∀ (k:Nat) (x:Zau × Zau),k < 6→rows[k]?=some x→match (Zed[k]?).bind (Zff m) with | some t=>Zhp S h t (eR x) | none=>x=(.int .u8 0,.slice none 0 0 true)
theorem Ztt.w {S:Nat→Prop} {h:Zaa} {i:Nat} {m:Bd} (r:Ztt S h i m):Yoj S h i m:=by
 obtain ⟨rows,h1,h2,h3⟩:=r
 exact ⟨rows,h1,h2,fun k x _ hx=>h3 k x hx⟩
theorem Yoj.lt {S:Nat→Prop} {h:Zaa} {i:Nat} {m:Bd} (r:Yoj S h i m):i < h.length:=by obtain ⟨_,_,h2,_⟩:=r; exact Own.lt h2
theorem Yoj.same {S:Nat→Prop} {h h':Zaa} {i:Nat} {m:Bd} (r:Yoj S h i m) (s:Zbc h.length h h'):Yoj S h' i m:=by
 obtain ⟨rows,h1,h2,h3⟩:=r
 refine ⟨rows,h1,by rw [s.eq i (Own.lt h2)]; exact h2,fun k x hk hx=>?_⟩
 have:=h3 k x hk hx
 split at this
 ·exact this.keep fun j _ hj=>s.eq j hj
 ·exact this
theorem Yoj.get {S:Nat→Prop} {h:Zaa} {i:Nat} {m:Bd} (r:Yoj S h i m) {k:Nat} (hk:k < 6):∃ x:Zau × Zau,Zag h (.ptr (some (i,0 + k * 2 + 0)))=some x.1∧Zbj h (.ptr (some (i,0 + k * 2))) 2=some [x.1,x.2] ∧
  match (Zed[k]?).bind (Zff m) with | some t=>Zhp S h t [x.1,x.2] | none=>x=(.int .u8 0,.slice none 0 0 true):=by
 obtain ⟨rows,h1,h2,h3⟩:=r
 have hrow:Row h.length h (some (i,0)) (12 * 2) (Zdn eR rows):=⟨by rw [Zay Zrn,h1],.inr ⟨i,0,_,_,_,rfl,Own.lt h2,h2,by rw [Zay Zrn,h1]; simp,by rw [List.drop_zero,List.take_of_length_le (by rw [Zay Zrn,h1]; simp)]⟩⟩
 obtain ⟨i',o',hk',he,_,hr,hc⟩:=Row.el Zrn hrow h1 (show k < 12 by omega) (by omega)
 cases he
 exact ⟨rows[k],by have:=hc 0 (by omega); simpa [eR] using this,hr,h3 k _ hk (List.getElem?_eq_getElem hk')⟩
theorem Ztt.put {S:Nat→Prop} {h:Zaa} {i:Nat} {m:Bd} (r:Ztt S h i m) (hSi:∀ j,S j→j≠i) {k v:Nat} (hk:Zed[k]?=some v) (hg:Zff m v=none) {t:Ty} {x y:Zau} (ht:Zhp S h t [x,y]) :
  ∃ h',Zbb h (.ptr (some (i,0 + k * 2))) [x,y]=some h'∧Zdu i h h'∧Ztt S h' i (m ++ [(v,t)]):=by
 obtain ⟨rows,h1,h2,h3⟩:=r
 have hk6:k < 6:=(List.getElem?_eq_some_iff.1 hk).1
 have hput:putRow (Zdn eR rows) (k * 2) (eR (x,y))=Zdn eR (rows.set k (x,y)):=Ybv Zrn (by omega)
 refine ⟨h.set i (.cells Zdf (Zdn eR (rows.set k (x,y))) false),?_,Zdu.set _ _ _,?_⟩
 ·rw [Nat.zero_add,Zbd h2 (by rw [Zay Zrn,h1]; simp; omega),← hput]; rfl
 ·have hkeep:∀ j,S j→j < h.length→(h.set i (.cells Zdf (Zdn eR (rows.set k (x,y))) false))[j]?=h[j]?:=fun j hj _=>Zbs (fun e=>hSi j hj e.symm)
  refine ⟨_,by simp [h1],Zbz h2,fun k' x' hx'=>?_⟩
  by_cases e:k=k'
  ·subst e
   rw [List.getElem?_set_self (by omega)] at hx'
   cases hx'
   rw [hk]
   simp only [Option.bind_some,Zss,hg,if_true]
   exact ht.keep hkeep
  ·rw [List.getElem?_set_ne e] at hx'
   have:=h3 k' x' hx'
   have hb:(Zed[k']?).bind (Zff (m ++ [(v,t)]))=(Zed[k']?).bind (Zff m):=by
    cases hv':Zed[k']? with
    | none=>rfl
    | some w=>
     simp only [Option.bind_some,Zss]
     cases hb:Zff m w with
     | some u=>rfl
     | none=>
      have:¬ v=w:=fun e'=>by
       subst e'
       have h5:=List.getElem?_eq_some_iff.1 hk
       have h6:=List.getElem?_eq_some_iff.1 hv'
       exact e ((List.getElem_inj (h₀:=h5.1) (h₁:=h6.1) Zof).1 (h5.2.trans h6.2.symm))
      simp [this]
   rw [hb]
   split at this
   ·exact this.keep hkeep
   ·exact this
def Yuo (S:Nat→Prop) (h:Zaa) (i:Nat) (r:Option Bd) (v:Zau) (h':Zaa):Prop:=Zdu i h h'∧(match r with | some m'=>v=.bool true∧Ztt S h' i m' | none=>v=.bool false)
theorem Zdu.of_same {i:Nat} {h h':Zaa} (s:Zbc h.length h h'):Zdu i h h':=⟨s.le,fun j hj _=>s.eq j hj⟩
theorem Yad:∀ (N:Nat) {a t:Ty} {S:Nat→Prop} {h:Zaa} {va vt:List Zau} {i n:Nat} {m:Bd},a.size≤N→a.ok=true→t.ok=true→n≤1048576→t.txt.length≤n→BOk n m→(∀ j,S j→j≠i)→Zhp S h a va→Zhp S h t vt→Ztt S h i m →
  Zah pg Zlw [.ptr (some (i,0)),.agg va,.agg vt] h (Yuo S h i (matchT m a t))
 | 0,a,t,S,h,va,vt,i,n,m,hN,_,_,_,_,_,_,_,_,_=>by have:=a.size_ps; omega
 | N + 1,a,t,S,h,va,vt,i,n,m,hN,ha,ht,hB,hn,bo,hSi,ra,rt,rm=>by
  have hcase:=Ycp (m:=m) ha ht
  obtain ⟨aa,ca,ea,vas,rfl,rowa,hSa,hval,hva⟩:=id ra.parts
  obtain ⟨at',ct,et,vts,rfl,rowt,hSt,hvtl,hvt⟩:=id rt.parts
  have hps2:a.ps.length≤2:=by cases a <;> simp [Ty.ps]
  have hil:=rm.lt
  apply Zjf.call
  simp only [Zaw]
  generalize hh0:h ++ [Zcd.cells Zai [.int .u8 (a.hd:Int),.slice aa a.ps.length ca ea] false]=h0
  generalize hh1:h0 ++ [Zcd.cells Zai [.int .u8 (t.hd:Int),.slice at' t.ps.length ct et] false]=h1
  have s0:Zbc h.length h h0:=by rw [← hh0]; exact Zam
  have s1:Zbc h0.length h0 h1:=by rw [← hh1]; exact Zam
  have o0:h0[h.length]?=some (.cells Zai [.int .u8 (a.hd:Int),.slice aa a.ps.length ca ea] false):=by rw [← hh0]; simp
  have oa:=s1.get o0 (Own.lt o0)
  have ot:h1[h0.length]?=some (.cells Zai [.int .u8 (t.hd:Int),.slice at' t.ps.length ct et] false):=by rw [← hh1]; simp
  have S1:=s0.cat s1
  have l0:h0.length=h.length + 1:=by rw [← hh0]; simp
  have l1:h1.length=h.length + 2:=by rw [← hh1]; simp [l0]
  simp only [Zao oa,Nat.zero_add,List.getElem?_cons_succ,List.getElem?_cons_zero,Zar]
  refine (Zvx a.hd).mono ?_
  rintro v h2 ⟨rfl,rfl⟩
  have rm1:=rm.same S1
  have K1:Zdu i h h2:=Zdu.of_same S1
  simp only [Zar,Zav]
  cases hv:Zcr a.hd with
  | true=>
   rw [hv] at hcase
   simp only [if_true] at hcase
   obtain ⟨k,hk6,hkv,hix⟩:=Zyn hv
   rw [hix]
   obtain ⟨x,hx1,hx2,hx3⟩:=rm1.get (k:=k) (by omega)
   rw [hkv,Option.bind_some] at hx3
   have hge:decide ((k:Int) ≥ 0)=true:=by simp
   simp only [hge,Zcn,Int.toNat_natCast,hx1,hx2,Zef ot (show 0 + 2≤_ by simp),List.drop_zero,List.take_succ_cons,List.take_zero,Zaq,Zaf,Zan,Zar,Zae]
   refine ⟨by omega,?_⟩
   cases hg:Zff m a.hd with
   | none=>
    rw [hg] at hx3
    simp only at hx3
    subst hx3
    have hbn:Zpa m a.hd t=some (m ++ [(a.hd,t)]):=by unfold Zpa; rw [hg]
    rw [hcase,hbn]
    simp only [Zar,show ((0:Int) == 0)=true from rfl,Zcn]
    obtain ⟨h',hst,hK,hr'⟩:=rm1.put hSi hkv hg (rt.same S1)
    rw [hst]
    simp only [Zas]
    exact ⟨by omega,K1.trans hK,rfl,hr'⟩
   | some u=>
    rw [hg] at hx3
    simp only at hx3
    have hu:=bo.var _ (Znf hg)
    obtain ⟨ux,uc,ue,hux⟩:=hx3.shape
    simp only [List.cons.injEq,and_true] at hux
    obtain ⟨hux1,hux2⟩:=hux
    rw [hux1,hux2] at hx2 hx3
    rw [hux1,hux2]
    simp only [Zar,Zae]
    have hu0:(((u.hd:Nat):Int) == 0)=false:=by
     have:=Zuz hu.2.1
     have hne:u.hd≠0:=fun e=>by rw [e] at this; simp at this
     simp; omega
    simp only [hu0,Zca]
    have rt1:=rt.same S1
    refine ⟨by omega,(Zpm _ (Nat.le_refl _) (by omega) hu.2.1 hx3).mono ?_⟩
    rintro v h3 ⟨rfl,s3⟩
    have ot3:=s3.get ot (Own.lt ot)
    have rt3:=rt1.same s3
    simp only [Zal,Zef ot3 (show 0 + 2≤_ by simp),List.drop_zero,List.take_succ_cons,List.take_zero,true_and]
    refine (Zpm _ (Nat.le_refl _) (by omega) ht rt3).mono ?_
    rintro v h4 ⟨rfl,s4⟩
    simp only [Zal]
    have hri:∀ hx,Zbc h2.length h2 hx→Zbj hx (.ptr (some (i,0 + k * 2))) 2=Zbj h2 (.ptr (some (i,0 + k * 2))) 2:=fun hx sx=>by
     simp only [Zbj,sx.eq i (by omega)]
    rw [hri _ (s3.cat s4),hri _ s3]
    refine ⟨by trivial,?_⟩
    have K4:Zdu i h h4:=K1.trans (Zdu.of_same (s3.cat s4))
    by_cases he:u=t
    ·subst he
     have hbn:Zpa m a.hd u=some m:=by unfold Zpa; rw [hg]; simp
     rw [hcase,hbn]
     exact ⟨K4,by simp,(rm1.same (s3.cat s4))⟩
    ·have hne:¬ u.txt=t.txt:=fun e=>he (Ty.txt_inj' hu.2.1 ht e)
     have hbn:Zpa m a.hd t=none:=by unfold Zpa; rw [hg]; simp [he]
     rw [hcase,hbn]
     exact ⟨K4,by simp [hne]⟩
  | false=>
   rw [hv] at hcase
   simp only [Bool.false_eq_true,if_false] at hcase
   rw [Ydu ha hv]
   have hge:decide ((-1:Int) ≥ 0)=false:=by decide
   simp only [hge,Zca,Zao ot,Zao oa,List.getElem?_cons_succ,List.getElem?_cons_zero,Zar,Zae]
   refine Zgo (fun hne=>?_) (fun he=>?_)
   ·rw [if_neg (fun e=>hne (by rw [e]))] at hcase
    rw [hcase]
    exact ⟨K1,rfl⟩
   ·have he':a.hd=t.hd:=by omega
    rw [if_pos he'] at hcase
    rw [hcase]
    have hlen:=Ydg ha ht he'
    refine Zjf.L10ind _ _ _ _ _ _ _ (J:=fun (g:Nat) x43 h'=>x43=(g:Int)∧g≤a.ps.length∧Zdu i h2 h'∧∃ m1,matchL m (a.ps.take g) (t.ps.take g)=some m1∧Ztt S h' i m1) (fun g=>a.ps.length - g) ?_ 0 _ _ ⟨rfl,by omega,Zdu.refl _ _,m,by simp [matchL],rm1⟩
    rintro g x43 h' ⟨rfl,hg,hK,m1,hm1,rm1⟩ R hR
    unfold Zjf.L10t
    have KK:=K1.trans hK
    refine Zat (fun hlt=>?_) (fun hge=>?_)
    ·have hga:g < a.ps.length:=by omega
     have hgt:g < t.ps.length:=by omega
     have oa1:h'[h.length]?=some (.cells Zai [.int .u8 (a.hd:Int),.slice aa a.ps.length ca ea] false):=by rw [hK.eq _ (Own.lt oa) (by omega)]; exact oa
     have ot1:h'[h0.length]?=some (.cells Zai [.int .u8 (t.hd:Int),.slice at' t.ps.length ct et] false):=by rw [hK.eq _ (Own.lt ot) (by omega)]; exact ot
     obtain ⟨ja,ofa,a3,c3,e3,rfl,hra,hka⟩:=Zhp.get (rowa.keepAt (i:=i) (fun j o h0 e=>hSi j (hSa j o (by omega) e)) KK) hval (fun k w x h1 h2=>(hva k w x h1 h2).keep fun j hj hl=>KK.eq j hl (hSi j hj)) hga
     obtain ⟨jt,oft,a4,c4,e4,rfl,hrt,hkt⟩:=Zhp.get (rowt.keepAt (i:=i) (fun j o h0 e=>hSi j (hSt j o (by omega) e)) KK) hvtl (fun k w x h1 h2=>(hvt k w x h1 h2).keep fun j hj hl=>KK.eq j hl (hSi j hj)) hgt
     simp only [Zav,Int.toNat_natCast,Zao oa1,Zao ot1,hra,hrt,Nat.zero_add,List.getElem?_cons_succ,List.getElem?_cons_zero,Zae,Zaq,Zaf,Zan,Zar,true_and]
     have hma:=List.getElem_mem hga
     have hmt:=List.getElem_mem hgt
     have h1:=Ty.size_part hma
     have h2:=Ty.len_part hmt
     have bo1:BOk n m1:=BOk.matchL (fun x hx=>Ty.ok_ps ha x (List.mem_of_mem_take hx)) (fun x hx=>⟨Ty.ok_ps ht x (List.mem_of_mem_take hx),by have:=Ty.len_part (List.mem_of_mem_take hx); omega⟩) bo hm1
     have htk:=Zts a.ps t.ps m g hga hgt
     rw [hm1] at htk
     simp only at htk
     refine ⟨by omega,by omega,(Yad N (by omega) (Ty.ok_ps ha _ hma) (Ty.ok_ps ht _ hmt) hB (by omega) bo1 hSi hka hkt rm1).mono ?_⟩
     rintro v h3 ⟨K3,hres⟩
     have oa3:h3[h.length]?=some (.cells Zai [.int .u8 (a.hd:Int),.slice (some (ja,ofa)) a.ps.length ca ea] false):=by rw [K3.eq _ (Own.lt oa1) (by omega)]; exact oa1
     cases hmm:matchT m1 a.ps[g] t.ps[g] with
     | none=>
      rw [hmm] at hres htk
      subst hres
      simp only [Zap,Bool.not_false,Zcn,Zao oa3,List.getElem?_cons_succ,List.getElem?_cons_zero,true_and]
      rw [Ztr a.ps t.ps m (g + 1) hlen htk]
      exact ⟨KK.trans K3,rfl⟩
     | some m2=>
      rw [hmm] at hres htk
      obtain ⟨rfl,rm2⟩:=hres
      simp only [Zap,Bool.not_true,Zca,Zao oa3,List.getElem?_cons_succ,List.getElem?_cons_zero,true_and]
      rw [Zbl (by omega)]
      exact hR (g + 1) _ _ (by omega) ⟨rfl,by omega,hK.trans K3,m2,htk,rm2⟩
    ·apply Zjf.A10x0i
     have:g=a.ps.length:=by omega
     subst this
     rw [List.take_length,hlen,List.take_length] at hm1
     rw [hm1]
     exact ⟨KK,rfl,rm1⟩
end Go.Sim

set_option linter.unusedVariables false
set_option linter.unusedSimpArgs false
set_option maxRecDepth 20000
namespace Go.Sim
open Go Go.RowKit

theorem Zqz:∀ (N:Nat) {S:Nat→Prop} {h:Zaa} {t:Ty} {v:List Zau},t.size≤N→t.txt.length≤1048576→Zhp S h t v→Zah pg Zgq [.agg v] h fun x h'=>x=.int .i64 (t.txt.length:Nat)∧Zbc h.length h h'
 | 0,S,h,t,v,hN,_,_=>by have:=t.size_ps; omega
 | N + 1,S,h,t,v,hN,hB,r=>by
  obtain ⟨a,c,e,vs,rfl,hrow,hS,hvl,hp⟩:=r.parts
  have hps2:t.ps.length≤2:=by cases t <;> simp [Ty.ps]
  have htx:=t.txt_mids
  have hln:=congrArg List.length htx
  rw [List.length_append,List.length_cons] at hln
  apply Zga.call
  simp only [Zaw,Zey,Nat.zero_add,List.getElem?_cons_succ,List.getElem?_cons_zero,Zae]
  generalize hh0:h ++ [Zcd.cells Zai [.int .u8 (t.hd:Int),.slice a t.ps.length c e] false]=h0
  have s0:Zbc h.length h h0:=by rw [← hh0]; exact Zam
  have o0:h0[h.length]?=some (.cells Zai [.int .u8 (t.hd:Int),.slice a t.ps.length c e] false):=by rw [← hh0]; simp
  refine Zga.L3ind _ _ _ _ _ _ _ _ (J:=fun (g:Nat) x3 x9 h'=>x9=(g:Int)∧g≤t.ps.length∧Zbc h.length h h'∧Zbc h0.length h0 h'∧x3=((1 + (Zpg 0 (t.ps.take g)).length:Nat):Int)) (fun g=>t.ps.length - g) ?_ 0 _ _ _ ⟨rfl,by omega,s0,Zbc.refl _ _,by simp [Zpg]⟩
  rintro g x3 x9 h' ⟨rfl,hg,hSm,hS1,rfl⟩ R hR
  unfold Zga.L3t
  have o2:=hS1.get o0 (Own.lt o0)
  refine Zat (fun hlt=>?_) (fun hge=>?_)
  ·have hg':g < t.ps.length:=by omega
   obtain ⟨i,o,a2,c2,e2,rfl,hr,hk⟩:=Zhp.get (hrow.same' hSm) hvl (fun k w x h1 h2=>(hp k w x h1 h2).same hSm) hg'
   simp only [Zav,Int.toNat_natCast,hr,Zaq,Zaf,Zan,Zar,Zae,Zaw]
   rw [Zfk]
   simp only [Zas]
   rw [Yqj]
   simp only [Zaq,Zaf,Zan,Zar,Zae]
   have hm:=List.getElem_mem hg'
   have h1:=Ty.size_part hm
   have h2:=Ty.len_part hm
   have hmt:=Zvt t.ps 0 g hg'
   have hml:(Zpg 0 (t.ps.take (g + 1))).length≤(Zpg 0 t.ps).length:=Zxq _ _ _
   have hmtl:=congrArg List.length hmt
   simp only [List.length_append,List.length_cons,Nat.zero_add] at hmtl
   have s2:Zbc h'.length h' (h' ++ [.cells Zai [.int .u8 (t.ps[g].hd:Int),.slice a2 t.ps[g].ps.length c2 e2] false]):=Zam
   refine ⟨by omega,(Zqz N (by omega) (by omega) (hk.same s2)).mono ?_⟩
   rintro x h3 ⟨rfl,s3⟩
   simp only [Zar]
   rw [Zbl (by omega),Zbl (by omega),IntWalk.i64_in _ (by omega)]
   exact hR (g + 1) _ _ _ (by omega) ⟨rfl,by omega,(hSm.cat s2).cat s3,(hS1.cat s2).cat s3,by omega⟩
  ·apply Zga.A3x0i
   have:g=t.ps.length:=by omega
   subst this
   simp only [Zao o2,Nat.zero_add,List.getElem?_cons_succ,List.getElem?_cons_zero,Zae]
   rw [List.take_length]
   refine Zat (fun hpos=>?_) (fun hneg=>?_)
   ·have hne:t.ps≠[]:=fun e=>by rw [e] at hpos; simp at hpos
    rw [if_neg hne] at hln
    apply Zga.J9i
    simp only [List.length_cons,List.length_nil] at hln
    rw [Zbl (by omega)]
    exact ⟨by congr 1; omega,hSm⟩
   ·have hne:t.ps=[]:=List.eq_nil_of_length_eq_zero (by omega)
    rw [if_pos hne] at hln
    simp only [List.length_nil] at hln
    apply Zga.J9i
    exact ⟨by congr 1; omega,hSm⟩
def Yes (m:Bd) (g:Nat):List Nd:=(Zed.take g).filterMap fun v=>(Zff m v).map fun t=>([v],t.txt)
theorem Ymr (m:Bd) (g:Nat):Yes m (g + 1)=Yes m g ++ (match Zed[g]? with | some v=>(match Zff m v with | some t=>[([v],t.txt)] | none=>[]) | none=>[]):=by
 unfold Yes
 rw [List.take_succ,List.filterMap_append]
 cases Zed[g]? with
 | none=>simp
 | some v=>cases hb:Zff m v <;> simp [hb]
theorem Yot (m:Bd) (g:Nat):(Yes m g).length≤6:=by
 unfold Yes
 refine Nat.le_trans (List.length_filterMap_le _ _) ?_
 rw [List.length_take]; exact Nat.le_trans (Nat.min_le_right _ _) (by decide)
theorem Ypl {g v:Nat} (hv:Zed[g]?=some v):sub [88,89,90,120,121,122,49,50,51,52,53,54] (g:Int) ((g:Int) + 1)=[v]:=by
 have hg:g < 6:=(List.getElem?_eq_some_iff.1 hv).1
 match g,hg with
 | 0,_ | 1,_ | 2,_ | 3,_ | 4,_ | 5,_=>simp [Zed] at hv; subst hv; rfl
theorem Yny {S:Nat→Prop} {h:Zaa} {i:Nat} {m:Bd} (rm:Ztt S h i m) (bo:BOk 60 m) :
  Zah pg Zqq [.ptr (some (i,0))] h fun v h'=>Zbc h.length h h'∧∃ a n c e,v=.tup [.slice a n c e,.bool true]∧n≤c∧Zdh Zbi eP h.length h' a n (bdL m):=by
 apply Zft.call
 simp only [Zaw,Zav]
 generalize hh0:h ++ [Zcd.cells Zbi [] false]=h0
 have s0:Zbc h.length h h0:=by rw [← hh0]; exact Zam
 have l0:h0.length=h.length + 1:=by rw [← hh0]; simp
 have o0:h0[h.length]?=some (.cells Zbi [] false):=by rw [← hh0]; simp
 refine Zft.L3ind _ _ (J:=fun (g:Nat) a4 n4 c4 e4 x10 h'=>x10=(g:Int)∧g≤12∧Zbc h.length h h'∧n4=(Yes m g).length∧n4≤c4∧Vec Zbi h' a4 n4 c4 (Zdn eP (Yes m g))∧(∀ i,a4=some (i,0)→h.length≤i)) (fun g=>12 - g) ?_ 0 _ _ _ _ _ _
  ⟨rfl,by omega,s0,by simp [Yes],Nat.le_refl _,Vec.mk1 (by simpa [Yes] using o0),fun i hi=>by cases hi; omega⟩
 rintro g a4 n4 c4 e4 x10 h' ⟨rfl,hg,hSm,rfl,hnc,hv,ha⟩ R hR
 unfold Zft.L3t
 have hbl:=Yot m g
 refine Zat (fun hlt=>?_) (fun hge=>?_)
 ·have hg':g < 12:=by omega
  obtain ⟨x,hx1,hx2,hx3⟩:=(rm.same hSm).get hg'
  have il:=(rm.same hSm).lt
  have hx:∃ (d:Nat) (a:Pt) (n c:Nat) (e:Bool),x=(.int .u8 (d:Int),.slice a n c e)∧(match (Zed[g]?).bind (Zff m) with | some t=>d=t.hd | none=>d=0):=by
   split at hx3
   ·rename_i t ht
    obtain ⟨ua,uc,ue,hu⟩:=hx3.shape
    simp only [List.cons.injEq,and_true] at hu
    exact ⟨t.hd,ua,t.ps.length,uc,ue,by rw [← hu.1,← hu.2],by first | rfl | rw [ht]⟩
   ·rename_i hn; exact ⟨0,none,0,0,true,hx3,by first | rfl | rw [hn]⟩
  obtain ⟨d,ua,un,uc,ue,rfl,hd⟩:=hx
  simp only [Int.toNat_natCast,hx2,Zav,Zaq,Zaf,Zan,Zar,Zae,Zaw]
  generalize hq:h' ++ [Zcd.cells Zai [.int .u8 0,.slice none 0 0 true] false]=hq'
  have sq:Zbc h'.length h' hq':=by rw [← hq]; exact Zam
  have hrq:Zbj hq' (.ptr (some (i,0 + g * 2))) 2=some [.int .u8 (d:Int),.slice ua un uc ue]:=by
   rw [← hx2]; simp only [Zbj,sq.eq i il]
  rw [hrq,← hq,Zfk]
  generalize hw:h' ++ [Zcd.cells Zai [.int .u8 (d:Int),.slice ua un uc ue] false]=hw'
  have sw:Zbc h'.length h' hw':=by rw [← hw]; exact Zam
  have ow:hw'[h'.length]?=some (.cells Zai [.int .u8 (d:Int),.slice ua un uc ue] false):=by rw [← hw]; simp
  simp only [Zas,Zao ow,Nat.zero_add,List.getElem?_cons_zero,Zar,true_and]
  have SW:=hSm.cat sw
  have hsuc:=Ymr m g
  have skip:(Zed[g]?).bind (Zff m)=none→Zft.J9 (fun v h'=>Zbc h.length h h'∧∃ a n c e,v=.tup [.slice a n c e,.bool true]∧n≤c∧Zdh Zbi eP h.length h' a n (bdL m)) R (g:Int) (some (i,0)) a4 (Yes m g).length c4 e4 hw':=by
   intro hn
   have hsame:Yes m (g + 1)=Yes m g:=by
    rw [hsuc]
    cases hvg:Zed[g]? with
    | none=>simp
    | some v=>rw [hvg,Option.bind_some] at hn; simp [hn]
   apply Zft.J9i
   rw [Zbl (by omega)]
   exact hR (g + 1) _ _ _ _ _ _ (by omega) ⟨rfl,by omega,SW,by rw [hsame],hnc,by rw [hsame]; exact hv.same sw,ha⟩
  refine ⟨by omega,?_⟩
  cases hb:(Zed[g]?).bind (Zff m) with
  | none=>
   rw [hb] at hd
   simp only at hd
   subst hd
   simp only [show (((0:Nat):Int) == 0)=true from rfl,Zcn]
   exact skip hb
  | some t=>
   rw [hb] at hd hx3
   simp only at hd hx3
   obtain ⟨v,hvg,hbv⟩:=Option.bind_eq_some_iff.1 hb
   have hu:=bo.var _ (Znf hbv)
   have hg6:g < 6:=(List.getElem?_eq_some_iff.1 hvg).1
   have hd0:((d:Int) == 0)=false:=by
    have:=Zuz hu.2.1
    have hne:t.hd≠0:=fun e=>by rw [e] at this; simp at this
    simp; omega
   rw [show decide ((g:Int) ≥ 6)=false by simp; omega]
   simp only [hd0,Zca]
   apply Zft.J6i
   rw [← hw,Yqj,hw]
   simp only [Zaq,Zaf,Zan,Zar,Zae]
   have hu2:t.txt.length≤60:=hu.2.2
   refine (Zqz _ (Nat.le_refl _) (by omega) (hx3.same sw)).mono ?_
   rintro v' h3 ⟨rfl,s3⟩
   have o3:=s3.get ow (Own.lt ow)
   simp only [Zar]
   rw [show decide (((t.txt.length:Nat):Int) > 60)=false by simp; omega]
   simp only [Zca,Zef o3 (show 0 + 2≤_ by simp),List.drop_zero,List.take_succ_cons,List.take_zero,Zaq,Zaf,Zan,Zar,Zae]
   rw [Zbl (by omega),show (((g + 1:Nat):Int))=(g:Int) + 1 by omega,Ypl hvg]
   refine ⟨⟨by omega,by omega,by simp; omega⟩,(Zpm _ (Nat.le_refl _) (by omega) hu.2.1 ((hx3.same sw).same s3)).mono ?_⟩
   rintro v' h4 ⟨rfl,s4⟩
   simp only [Zal,Zaw]
   have S4:=(SW.cat s3).cat s4
   refine (((hv.same sw).same s3).same s4).pushN Zyt Ydc Yck Yec (by rw [Zay Zea]) rfl (by omega) rfl (by omega) (fun h6 hl6 hi6 hk6=>?_)
   simp only [Zae]
   apply Zft.J9i
   rw [Zbl (by omega)]
   have hle:=S4.le
   have hs':Yes m (g + 1)=Yes m g ++ [([v],t.txt)]:=by rw [hsuc,hvg]; simp [hbv]
   refine hR (g + 1) _ _ _ _ _ _ (by omega) ⟨rfl,by omega,⟨by omega,fun j hj=>?_⟩,by rw [hs']; simp,Nat.le_refl _,Vec.mk1 ?_,fun i hi=>by cases hi; omega⟩
   ·rw [hk6 j (by omega) fun i hi=>by have:=ha i hi; omega]; exact S4.eq j hj
   ·rw [hi6,hs',Zia]; rfl
 ·apply Zft.A3x0i
  have:g=12:=by omega
  subst this
  have hb12:Yes m 12=bdL m:=by unfold Yes bdL; rw [List.take_of_length_le (by decide)]
  rw [hb12] at hv hnc ⊢
  exact ⟨hSm,_,_,_,_,rfl,hnc,hv.fresh (b:=h.length) rfl fun i hi=>ha i hi⟩
theorem Yli:Zdn eR (List.replicate 12 (Zau.int .u8 0,Zau.slice none 0 0 true))=[.int .u8 0,.slice none 0 0 true,.int .u8 0,.slice none 0 0 true,.int .u8 0,.slice none 0 0 true,.int .u8 0,.slice none 0 0 true,.int .u8 0,.slice none 0 0 true,.int .u8 0,.slice none 0 0 true,.int .u8 0,.slice none 0 0 true,.int .u8 0,.slice none 0 0 true,.int .u8 0,.slice none 0 0 true,.int .u8 0,.slice none 0 0 true,.int .u8 0,.slice none 0 0 true,.int .u8 0,.slice none 0 0 true]:=rfl
theorem Zsy {h h':Zaa} {s:List Nat} {vs:List Zau} (hm:match Zhk s with | some t=>Zhp (Btw h.length h'.length) h' t vs | none=>vs=[.int .u8 0,.slice none 0 0 true]):∃ (d:Int) (a:Pt) (n c:Nat) (e:Bool),vs=[.int .u8 d,.slice a n c e]:=by
 split at hm
 ·obtain ⟨a,c,e,rfl⟩:=hm.shape; exact ⟨_,_,_,_,_,rfl⟩
 ·exact ⟨_,_,_,_,_,hm⟩
theorem Ztu (p s:List Nat) (hp0:p.length≤1048576) (hs0:s.length≤1048576) (h:Zaa):Zah pg Zjp [.str p,.str s] h (Yhf p s h):=by
 apply Zmo.call
 refine (Znx p (by omega) h).mono ?_
 rintro v h1 ⟨s1,vs1,rfl,r1⟩
 obtain ⟨d1,a1,n1,c1,e1,rfl⟩:=Zsy r1
 simp only [Zct,Zaf,Zdc,Zar,Zae,Zan,Zap,Zaw]
 rw [Zfk]
 generalize hh2:h1 ++ [Zcd.cells Zai [.int .u8 d1,.slice a1 n1 c1 e1] false]=h2
 have s2:Zbc h1.length h1 h2:=by rw [← hh2]; exact Zam
 have o2:h2[h1.length]?=some (.cells Zai [.int .u8 d1,.slice a1 n1 c1 e1] false):=by rw [← hh2]; simp
 simp only [Zas]
 refine (Znx s (by omega) h2).mono ?_
 rintro v h3 ⟨s3,vs3,rfl,r3⟩
 obtain ⟨d3,a3,n3,c3,e3,rfl⟩:=Zsy r3
 simp only [Zct,Zaf,Zdc,Zar,Zae,Zan,Zap]
 rw [Zfk]
 generalize hh4:h3 ++ [Zcd.cells Zai [.int .u8 d3,.slice a3 n3 c3 e3] false]=h4
 have s4:Zbc h3.length h3 h4:=by rw [← hh4]; exact Zam
 have o4:h4[h3.length]?=some (.cells Zai [.int .u8 d3,.slice a3 n3 c3 e3] false):=by rw [← hh4]; simp
 simp only [Zas]
 rw [← Yli]
 generalize hh5:h4 ++ [Zcd.cells Zdf (Zdn eR (List.replicate 12 (Zau.int .u8 0,Zau.slice none 0 0 true))) false]=h5
 have s5:Zbc h4.length h4 h5:=by rw [← hh5]; exact Zam
 have o5:h5[h4.length]?=some (.cells Zdf (Zdn eR (List.replicate 12 (Zau.int .u8 0,Zau.slice none 0 0 true))) false):=by rw [← hh5]; simp
 have x2:h5[h1.length]?=some (.cells Zai [.int .u8 d1,.slice a1 n1 c1 e1] false):=s5.get (s4.get (s3.get o2 (Own.lt o2)) (by have:=Own.lt o2; have:=s3.le; omega)) (by have:=Own.lt o2; have:=s3.le; have:=s4.le; omega)
 have x4:=s5.get o4 (Own.lt o4)
 have S2:=s1.cat s2
 have S5:=(((S2.cat s3).cat s4).cat s5)
 have no:Zhn p s=none→∀ hz,Zbc h.length h hz→Yhf p s h (.tup [.slice (some (hz.length,0)) 0 0 true,.bool false]) (hz ++ [Zcd.cells Zbi [] false]):=fun hn hz sz=>
  ⟨sz.cat Zam,_,0,0,true,by unfold Zlg; rw [hn]; rfl,Nat.le_refl _,by unfold Zjd; rw [hn]; exact ⟨rfl,.inl rfl⟩⟩
 cases hp:Zhk p with
 | none=>
  have:Zml p=false:=by unfold Zml; rw [hp]; rfl
  rw [this]
  simp only [Bool.not_false,Zcn]
  exact no (by unfold Zhn; rw [hp]) _ S5
 | some a=>
  rw [Ybs hp]
  simp only [Bool.not_true,Zca]
  cases ht:Zhk s with
  | none=>
   have:Zml s=false:=by unfold Zml; rw [ht]; rfl
   rw [this]
   simp only [Bool.not_false,Zcn]
   exact no (by unfold Zhn; rw [hp,ht]) _ S5
  | some t=>
   rw [Ybs ht]
   rw [hp] at r1
   rw [ht] at r3
   simp only at r1 r3
   simp only [Bool.not_true,Zca,Zef x2 (show 0 + 2≤_ by simp),Zef x4 (show 0 + 2≤_ by simp),List.drop_zero,List.take_succ_cons,List.take_zero,Zaq,Zaf,Zan,Zar,Zae]
   obtain ⟨ha1,ha2,ha3⟩:=Zdt.1 hp
   obtain ⟨ht1,ht2,ht3⟩:=Zdt.1 ht
   have hms:Zhn p s=matchT [] a t:=by unfold Zhn; rw [hp,ht]
   have l3:=s3.le; have l4:=s4.le; have l2:=s2.le
   have R1:=((((r1.same s2).same s3).same s4).same s5).mono (S':=fun j=>j≠h4.length) (fun j hj=>by have:=hj.2; omega)
   have R3:=((r3.same s4).same s5).mono (S':=fun j=>j≠h4.length) (fun j hj=>by have:=hj.2; omega)
   refine (Yad _ (Nat.le_refl _) ha1 ht1 (n:=60) (by omega) (by rw [← ht2]; exact ht3) BOk.nil (fun j hj=>hj) R1 R3 (Ztt.nil o5)).mono ?_
   rintro v h6 ⟨K6,hres⟩
   have l5:=S5.le
   have lh4:h.length≤h4.length:=(((S2.cat s3).cat s4)).le
   have S6:Zbc h.length h h6:=⟨by have:=K6.le; omega,fun j hj=>by rw [K6.eq j (by omega) (by omega)]; exact S5.eq j hj⟩
   cases hm:matchT [] a t with
   | none=>
    rw [hm] at hres hms
    subst hres
    simp only [Zap,Bool.not_false,Zcn]
    exact no hms _ S6
   | some m=>
    rw [hm] at hres hms
    obtain ⟨rfl,rm6⟩:=hres
    simp only [Zap,Bool.not_true,Zca]
    apply Zmo.J6i
    refine (Yny rm6 (Zuf hms)).mono ?_
    rintro v h7 ⟨s7,a7,n7,c7,e7,rfl,hc7,f7⟩
    simp only [Zct,Zaf,Zae,Zap,Zan]
    refine ⟨S6.cat s7,a7,n7,c7,e7,by unfold Zlg; rw [hms]; rfl,hc7,?_⟩
    unfold Zjd; rw [hms]
    exact ⟨f7.1,f7.2.imp id fun ⟨i,ha,hb,hi⟩=>⟨i,ha,by have:=S6.le; omega,hi⟩⟩
theorem Ztg (p s:List Nat) (hp0:p.length≤1048576) (hs0:s.length≤1048576) (h:Zaa):Zah pg Ziq [.str p,.str s] h fun v h'=>v=.bool (Zlg p s)∧Zbc h.length h h':=by
 apply Zpn.call
 refine (Ztu p s hp0 hs0 h).mono ?_
 rintro v h1 ⟨s1,a,n,c,e,rfl,_⟩
 simp only [Zct,Zaf,Zae,Zap,Zan]
 exact ⟨by trivial,s1⟩
end Go.Sim

set_option linter.unusedSimpArgs false
set_option linter.unusedVariables false
namespace Go.Sim

noncomputable def subst (f:Nat→Option Ty):Ty→Ty
 | .k c=>(f c).getD (.k c)
 | .u c a=>.u c (subst f a)
 | .w c a b=>.w c (subst f a) (subst f b)
end Go.Sim

set_option linter.unusedVariables false
set_option linter.unusedSimpArgs false
set_option maxRecDepth 20000
namespace Go.Sim
open Go Go.RowKit

end Go.Sim

set_option linter.unusedVariables false
set_option linter.unusedSimpArgs false
set_option maxRecDepth 20000
namespace Go.Sim
open Go Go.RowKit

theorem Zhp.below {S:Nat→Prop} {h:Zaa}:∀ {t:Ty} {v:List Zau},Zhp S h t v→Zhp (fun j=>S j∧j < h.length) h t v
 | .k d,_,h=>h
 | .u d x,_,⟨j,c,e,r,hv,sj,hj,hr⟩=>⟨j,c,e,r,hv,⟨sj,Own.lt hj⟩,hj,hr.below⟩
 | .w d x y,_,⟨j,c,e,r,r',hv,sj,hj,hr,hr'⟩=>⟨j,c,e,r,r',hv,⟨sj,Own.lt hj⟩,hj,hr.below,hr'.below⟩
theorem Ypv {f:Nat→Option Ty} {t:Ty} (h:f t.hd=none ∨ t.ps≠[]):(subst f t).hd=t.hd∧(subst f t).ps=t.ps.map (subst f):=by
 cases t with
 | k c=>
  have:f c=none:=by rcases h with h | h; exact h; exact absurd rfl h
  simp [subst,this,Ty.hd,Ty.ps]
 | u c a=>simp [subst,Ty.hd,Ty.ps]
 | w c a b=>simp [subst,Ty.hd,Ty.ps]
theorem Ygg:pg.underlying Zkj=some (.slice Zai):=by kernel_rfl
theorem Ymb:pg.cellsOf Zai=2:=by kernel_rfl
theorem Ylo:pg.okElem Zai=true:=by kernel_rfl
theorem Yns:pg.bytesOf Zai≤127:=Nat.le_of_ble_eq_true (by kernel_rfl)
theorem Yeo {vs:List (List Zau)} (h:∀ v∈vs,v.length=2):vs.flatten.length=vs.length * 2:=by
 rw [List.length_flatten]
 induction vs with
 | nil=>rfl
 | cons v vs ih=>
  have h1:=h v (by simp)
  have h2:=ih (fun x hx=>h x (by simp [hx]))
  simp only [List.map_cons,List.sum_cons,List.length_cons]; omega
theorem Ybd:∀ (N:Nat) {t:Ty} {S:Nat→Prop} {h:Zaa} {vt:List Zau} {i:Nat} {m:Bd},t.size≤N→t.ok=true→(∀ j,S j→j < h.length∧j≠i)→Zhp S h t vt→Yoj S h i m→(∀ v u,Zff m v=some u→u.ok=true)→(∀ v,Zcr v=false→Zff m v=none) →
  Zah pg Zmi [.ptr (some (i,0)),.agg vt] h fun x h'=>Zbc h.length h h'∧∃ vs,x=.agg vs∧Zhp (fun j=>S j ∨ h.length≤j) h' (subst (Zff m) t) vs
 | 0,t,S,h,vt,i,m,hN,_,_,_,_,_,_=>by have:=t.size_ps; omega
 | N + 1,t,S,h,vt,i,m,hN,ht,hSi,rt,rm,hmo,hmn=>by
  obtain ⟨at',ct,et,vts,rfl,rowt,hSt,hvtl,hvt⟩:=id rt.parts
  have hps2:t.ps.length≤2:=by cases t <;> simp [Ty.ps]
  have hil:=rm.lt
  apply Zie.call
  simp only [Zaw]
  generalize hh0:h ++ [Zcd.cells Zai [.int .u8 (t.hd:Int),.slice at' t.ps.length ct et] false]=h0
  generalize hh1:h0 ++ [Zcd.cells Zai [.int .u8 0,.slice none 0 0 true] false]=h1
  have s0:Zbc h.length h h0:=by rw [← hh0]; exact Zam
  have s1:Zbc h0.length h0 h1:=by rw [← hh1]; exact Zam
  have o0:h0[h.length]?=some (.cells Zai [.int .u8 (t.hd:Int),.slice at' t.ps.length ct et] false):=by rw [← hh0]; simp
  have oa:=s1.get o0 (Own.lt o0)
  have oz:h1[h0.length]?=some (.cells Zai [.int .u8 0,.slice none 0 0 true] false):=by rw [← hh1]; simp
  have S1:=s0.cat s1
  have l0:h0.length=h.length + 1:=by rw [← hh0]; simp
  have l1:h1.length=h.length + 2:=by rw [← hh1]; simp [l0]
  simp only [Zao oa,Nat.zero_add,List.getElem?_cons_succ,List.getElem?_cons_zero,Zar]
  refine (Zvx t.hd).mono ?_
  rintro v h2 ⟨rfl,rfl⟩
  have rm1:=rm.same S1
  simp only [Zar,Zav]
  -- nothing stands for the letter
  have main:Zff m t.hd=none→Zie.J4 (fun x h'=>Zbc h.length h h'∧∃ vs,x=.agg vs∧Zhp (fun j=>S j ∨ h.length≤j) h' (subst (Zff m) t) vs) h.length 0 (some (i,0)) h0.length 0 h2:=by
   intro hno
   obtain ⟨hsh,hsp⟩:=Ypv (f:=Zff m) (t:=t) (.inl hno)
   apply Zie.J4i
   simp only [Zao oa,Nat.zero_add,List.getElem?_cons_succ,List.getElem?_cons_zero,Zar,Zaw]
   generalize hh3:h2 ++ [Zcd.cells Zai [] false]=h3
   have s3:Zbc h2.length h2 h3:=by rw [← hh3]; exact Zam
   have o3:h3[h2.length]?=some (.cells Zai [] false):=by rw [← hh3]; simp
   have l3:h3.length=h2.length + 1:=by rw [← hh3]; simp
   rw [Zfk]
   generalize hh4:h3 ++ [Zcd.cells Zai [.int .u8 (t.hd:Int),.slice (some (h2.length,0)) 0 0 true] false]=h4
   have s4:Zbc h3.length h3 h4:=by rw [← hh4]; exact Zam
   have o4:h4[h3.length]?=some (.cells Zai [.int .u8 (t.hd:Int),.slice (some (h2.length,0)) 0 0 true] false):=by rw [← hh4]; simp
   have l4:h4.length=h3.length + 1:=by rw [← hh4]; simp
   have oa4:=s4.get (s3.get oa (Own.lt oa)) (by have:=Own.lt oa; omega)
   have oz4:=s4.get (s3.get oz (Own.lt oz)) (by have:=Own.lt oz; omega)
   have o34:=s4.get o3 (Own.lt o3)
   have S4:=(S1.cat s3).cat s4
   simp only [Zas,Zao oa4,List.getElem?_cons_succ,List.getElem?_cons_zero,Zae]
   refine Zie.L6ind _ _ _ _ _ _ _ _ _ _ _ (J:=fun (g:Nat) x35 h'=>x35=(g:Int)∧g≤t.ps.length∧Zbc h.length h h'∧h4.length≤h'.length∧h'[h0.length]?=some (.cells Zai [.int .u8 0,.slice none 0 0 true] false) ∧
    ∃ (a:Pt) (cp:Nat) (e:Bool) (vs:List (List Zau)),h'[h3.length]?=some (.cells Zai [.int .u8 (t.hd:Int),.slice a g cp e] false)∧vs.length=g∧Vec Zai h' a g cp vs.flatten∧(∀ j,a=some (j,0)→j=h2.length ∨ h4.length≤j) ∧
     ∀ (k:Nat) (v:List Zau) (x:Ty),vs[k]?=some v→t.ps[k]?=some x→Zhp (fun j=>(S j ∨ h4.length≤j)∧∀ j0,a=some (j0,0)→j≠j0) h' (subst (Zff m) x) v)
    (fun g=>t.ps.length - g) ?_ 0 _ _ ⟨rfl,by omega,S4,Nat.le_refl _,oz4,some (h2.length,0),0,true,[],o4,rfl,Vec.mk1 (by simpa using o34),fun j hj=>by cases hj; exact .inl rfl,by simp⟩
   rintro g x35 h' ⟨rfl,hg,hS,hl4,hz,a,cp,e,vs,ho,hvl,hv,ha,hp⟩ R hR
   unfold Zie.L6t
   have hz2:∀ v∈vs,v.length=2:=fun v hv=>by
    obtain ⟨k,hk,rfl⟩:=List.mem_iff_getElem.1 hv
    exact (hp k vs[k] (t.ps[k]'(by omega)) (List.getElem?_eq_getElem hk) (List.getElem?_eq_getElem (by omega))).len
   refine Zat (fun hlt=>?_) (fun hge=>?_)
   ·have hgt:g < t.ps.length:=by omega
    obtain ⟨jt,oft,a4,c4,e4,rfl,hrt,hkt⟩:=Zhp.get (rowt.same' hS) hvtl (fun k w x h1 h2=>(hvt k w x h1 h2).same hS) hgt
    simp only [Zav,Int.toNat_natCast,hrt,Zaq,Zaf,Zan,Zar,Zae,Zaw]
    rw [Zfk]
    generalize hq:h' ++ [Zcd.cells Zai [.int .u8 (t.ps[g].hd:Int),.slice a4 t.ps[g].ps.length c4 e4] false]=hq'
    have sq:Zbc h'.length h' hq':=by rw [← hq]; exact Zam
    have oq:=sq.get ho (Own.lt ho)
    simp only [Zas,Zao oq,Nat.zero_add,List.getElem?_cons_succ,List.getElem?_cons_zero,Zae]
    rw [← hq,Yqj,hq]
    simp only [Zaq,Zaf,Zan,Zar,Zae,true_and]
    have hmt:=List.getElem_mem hgt
    have h1:=Ty.size_part hmt
    have hlq:=sq.le
    have hSle:=hS.le
    refine ⟨by omega,(Ybd N (by omega) (Ty.ok_ps ht _ hmt) (S:=S) (fun j hj=>⟨by have:=(hSi j hj).1; omega,(hSi j hj).2⟩) (hkt.same sq) (rm.same (hS.cat sq)) hmo hmn).mono ?_⟩
    rintro v h5 ⟨s5,nv,rfl,hn5⟩
    obtain ⟨na,nc,ne,hnv⟩:=hn5.shape
    rw [hnv] at hn5
    have o5:=s5.get oq (Own.lt oq)
    simp only [hnv,Zdc,Zaf,Zan,Zar,Zae,Zao o5,List.getElem?_cons_succ,List.getElem?_cons_zero,true_and]
    have hc6:Zag (h5 ++ [Zcd.cells Zai [.int .u8 ((subst (Zff m) t.ps[g]).hd:Int),.slice na (subst (Zff m) t.ps[g]).ps.length nc ne] false]) (.ptr (some (h3.length,1)))=some (.slice a g cp e):=by rw [Zao (Zgr o5)]; rfl
    refine ⟨by rw [hc6],?_⟩
    have v5:=(hv.same sq).same s5
    have hl5:=s5.le
    refine v5.pushN Ygg Ymb Ylo Yns (by rw [Yeo hz2]; omega) rfl (by omega) rfl (by omega) (fun h7 hl7 hi7 hk7=>?_)
    simp only [Zae]
    have hz5:=s5.get (sq.get hz (Own.lt hz)) (by have:=Own.lt hz; omega)
    have ha5:∀ j,a=some (j,0)→j=h2.length ∨ h4.length≤j:=ha
    have o7:h7[h3.length]?=some (.cells Zai [.int .u8 (t.hd:Int),.slice a g cp e] false):=by
     rw [hk7 _ (Own.lt o5) fun j hj=>by rcases ha j hj with hh | hh <;> omega]; exact o5
    rw [Zbd o7 (by simp)]
    simp only [Zas,putRow,List.take_succ_cons,List.take_zero,List.length_cons,List.length_nil,List.drop_succ_cons,List.drop_nil,List.cons_append,List.nil_append,List.append_nil]
    rw [Zbl (by omega)]
    have hS5:=(hS.cat sq).cat s5
    have h7o:∀ j,j < h5.length→(∀ j0,a=some (j0,0)→j≠j0)→j≠h3.length→(h7.set h3.length (Zcd.cells Zai [.int .u8 (t.hd:Int),.slice (some (h5.length + 1,0)) (g + 1) (g + 1) false] false))[j]?=h5[j]?:=fun j hj hne hne2=>by rw [Zbs (by omega),hk7 j hj hne]
    refine hR (g + 1) _ _ (by omega) ⟨rfl,by omega,⟨by simp; omega,fun j hj=>?_⟩,by simp; omega,?_,some (h5.length + 1,0),g + 1,false,vs ++ [[.int .u8 ((subst (Zff m) t.ps[g]).hd:Int),.slice na (subst (Zff m) t.ps[g]).ps.length nc ne]],Zbz o7,by simp [hvl],Vec.mk1 ?_,fun j hj=>by cases hj; right; omega,?_⟩
    ·rw [h7o j (by omega) (fun j0 hj0=>by rcases ha j0 hj0 with hh | hh <;> omega) (by omega)]; exact hS5.eq j hj
    ·rw [h7o _ (Own.lt hz5) (fun j0 hj0=>by rcases ha j0 hj0 with hh | hh <;> omega) (by omega)]; exact hz5
    ·rw [Zbs (by omega),hi7]; simp
    ·intro k v x hv' hx
     have hkeep:∀ {t':Ty} {v':List Zau},Zhp (fun j=>(S j ∨ h4.length≤j)∧∀ j0,a=some (j0,0)→j≠j0) h5 t' v'→Zhp (fun j=>(S j ∨ h4.length≤j)∧∀ j0,(some (h5.length + 1,0):Pt)=some (j0,0)→j≠j0) (h7.set h3.length (Zcd.cells Zai [.int .u8 (t.hd:Int),.slice (some (h5.length + 1,0)) (g + 1) (g + 1) false] false)) t' v':=by
      intro t' v' hr
      have hr2:=hr.below
      refine Zhp.mono (S:=fun j=>((S j ∨ h4.length≤j)∧∀ j0,a=some (j0,0)→j≠j0)∧j < h5.length) (fun j hj=>⟨hj.1.1,fun j0 e0=>by cases e0; have:=hj.2; omega⟩) (hr2.agree fun j hj=>?_)
      refine h7o j hj.2 hj.1.2 ?_
      rcases hj.1.1 with h8 | h8
      ·have:=(hSi j h8).1; omega
      ·omega
     by_cases hkl:k < vs.length
     ·rw [List.getElem?_append_left hkl] at hv'
      exact hkeep (((hp k v x hv' hx).same sq).same s5)
     ·rw [List.getElem?_append_right (by omega)] at hv'
      have hk0:k=vs.length:=by
       by_cases e:k - vs.length=0
       ·omega
       ·rw [List.getElem?_eq_none (by simp; omega)] at hv'; cases hv'
      subst hk0
      simp at hv'
      subst hv'
      rw [hvl,List.getElem?_eq_getElem hgt] at hx
      cases hx
      refine hkeep (Zhp.mono (S:=fun j=>S j ∨ hq'.length≤j) (fun j hj=>⟨?_,fun j0 e0=>?_⟩) hn5)
      ·rcases hj with h8 | h8
       ·exact .inl h8
       ·exact .inr (by omega)
      ·have hj0:=(hv.same sq).lt' e0
       rcases hj with h8 | h8
       ·have:=(hSi j h8).1
        rcases ha j0 e0 with hh | hh <;> omega
       ·omega
   ·apply Zie.A6x0i
    have:g=t.ps.length:=by omega
    subst this
    have hrow:=Zef (o:=0) (n:=2) ho (by simp)
    rw [hrow]
    simp only [List.drop_zero,List.take_succ_cons,List.take_zero,Zaq,Zaf,Zan,Zar,Zae]
    rw [Zbd hz (by simp)]
    simp only [Zas]
    rw [Zef (Zbz hz) (by simp [putRow])]
    simp only [putRow,List.take_zero,List.nil_append,List.length_cons,List.length_nil,List.cons_append,List.drop_succ_cons,List.drop_zero,List.drop_nil,List.append_nil,List.take_succ_cons,Zaq,Zaf,Zar,Zae,Zan]
    refine ⟨⟨by simp; exact hS.le,fun j hj=>by rw [Zbs (by omega)]; exact hS.eq j hj⟩,_,rfl,?_⟩
    have hget:∀ j,j≠h0.length→(h'.set h0.length (Zcd.cells Zai [.int .u8 (t.hd:Int),.slice a t.ps.length cp e] false))[j]?=h'[j]?:=fun j hj=>Zbs (fun e=>hj e.symm)
    rcases hv with ⟨rfl,h0',_,hvs⟩ | ⟨j0,rfl,hj0⟩
    ·-- no parts
     have hps:t.ps=[]:=List.eq_nil_of_length_eq_zero h0'
     cases t with
     | k d=>
      simp only [subst,show Zff m d=none from hno,Option.getD_none]
      exact ⟨_,_,_,rfl⟩
     | u d x=>simp [Ty.ps] at hps
     | w d x y=>simp [Ty.ps] at hps
    ·have hj0n:j0≠h0.length:=by rcases ha j0 rfl with hh | hh <;> omega
     have hS4:=ha j0 rfl
     have:=Zhp.make (S:=fun j=>S j ∨ h.length≤j) (h:=h'.set h0.length (Zcd.cells Zai [.int .u8 (t.hd:Int),.slice (some (j0,0)) t.ps.length cp e] false)) (t:=subst (Zff m) t) (j:=j0) (n:=t.ps.length) (c:=cp) (e:=e) (vs:=vs)
      (by rw [hsp,List.length_map]) (.inr (by rcases hS4 with hh | hh <;> omega)) (by rw [hget j0 hj0n]; exact hj0) hvl (fun k w x hw hx=>by
       rw [hsp,List.getElem?_map] at hx
       obtain ⟨y,hy,rfl⟩:=Option.map_eq_some_iff.1 hx
       have hr:=hp k w y hw hy
       refine Zhp.mono (S:=fun j=>(S j ∨ h4.length≤j)∧∀ j1,(some (j0,0):Pt)=some (j1,0)→j≠j1) (fun j hj=>hj.1.imp id (fun h=>by omega)) (hr.agree fun j hj=>hget j ?_)
       rcases hj.1 with h8 | h8
       ·have:=(hSi j h8).1; omega
       ·omega)
     rw [hsh] at this
     exact this
  cases hv:Zcr t.hd with
  | true=>
   obtain ⟨k,hk6,hkv,hix⟩:=Zyn hv
   rw [hix]
   obtain ⟨x,hx1,hx2,hx3⟩:=rm1.get (k:=k) hk6
   rw [hkv,Option.bind_some] at hx3
   have hge:decide ((k:Int) ≥ 0)=true:=by simp
   simp only [hge,Zcn,Int.toNat_natCast,hx1,hx2,Zaq,Zaf,Zan]
   refine ⟨by omega,?_⟩
   cases hg:Zff m t.hd with
   | none=>
    rw [hg] at hx3
    simp only at hx3
    subst hx3
    simp only [Zar,show ((0:Int) == 0)=true from rfl,Bool.not_true,Zca]
    exact main hg
   | some u=>
    rw [hg] at hx3
    simp only at hx3
    have hu:=hmo _ _ hg
    obtain ⟨ux,uc,ue,hux⟩:=hx3.shape
    simp only [List.cons.injEq,and_true] at hux
    obtain ⟨hux1,hux2⟩:=hux
    rw [hux1,hux2] at hx3
    rw [hux1,hux2]
    have hu0:(((u.hd:Nat):Int) == 0)=false:=by
     have:=Zuz hu
     have hne:u.hd≠0:=fun e=>by rw [e] at this; simp at this
     simp; omega
    simp only [Zar,Zae,hu0,Bool.not_false,Zcn]
    rw [Zbd oz (by simp)]
    simp only [Zas]
    rw [Zef (Zbz oz) (by simp [putRow])]
    simp only [putRow,List.take_zero,List.nil_append,List.length_cons,List.length_nil,List.cons_append,List.drop_succ_cons,List.drop_zero,List.drop_nil,List.append_nil,List.take_succ_cons,Zaq,Zaf,Zar,Zae,Zan]
    refine ⟨by omega,⟨by simp; omega,fun j hj=>by rw [Zbs (by omega)]; exact S1.eq j hj⟩,_,rfl,?_⟩
    have hsub:subst (Zff m) t=u:=by rw [Zry ht hv]; simp [subst,hg]
    rw [hsub]
    refine Zhp.mono (S:=S) (fun j hj=>.inl hj) (hx3.agree fun j hj=>Zbs (by have:=(hSi j hj).1; omega))
  | false=>
   rw [Ydu ht hv]
   have hge:decide ((-1:Int) ≥ 0)=false:=by decide
   simp only [hge,Zca]
   exact main (hmn _ hv)
end Go.Sim

set_option linter.unusedVariables false
set_option linter.unusedSimpArgs false
set_option maxRecDepth 20000
namespace Go.Sim
open Go Go.RowKit

end Go.Sim

set_option linter.unusedSimpArgs false
set_option linter.unusedVariables false
namespace Go.Sim

def Zlh:Ty→List Nat
 | .k c=>if Zcr c then [c] else []
 | .u c a=>Zlh a
 | .w c a b=>Zlh a ++ Zlh b
theorem Yru {a t:Ty} (ha:a.ok=true) (ht:t.ok=true) (h:a.hd=t.hd) (hp:a.ps=t.ps):a=t:=by
 cases a <;> cases t <;> simp_all [Ty.hd,Ty.ps]
theorem Zqc {f g:Nat→Option Ty}:∀ {a:Ty},(∀ v∈Zlh a,f v=g v)→(∀ v,Zcr v=false→f v=none∧g v=none)→subst f a=subst g a
 | .k c,h,h0=>by
  simp only [subst]
  by_cases hv:Zcr c=true
  ·rw [h c (by simp [Zlh,hv])]
  ·obtain ⟨h1,h2⟩:=h0 c (by simpa using hv); rw [h1,h2]
 | .u c a,h,h0=>by simp only [subst]; rw [Zqc (a:=a) h h0]
 | .w c a b,h,h0=>by
  simp only [subst]
  rw [Zqc (a:=a) (fun v hv=>h v (by simp [Zlh,hv])) h0,Zqc (a:=b) (fun v hv=>h v (by simp [Zlh,hv])) h0]
structure Yvf (m m':Bd) (a t:Ty):Prop where
 keep:∀ v u,Zff m v=some u→Zff m' v=some u
 sub:subst (Zff m') a=t
 vars:∀ v,(Zff m' v).isSome=true ↔ ((Zff m v).isSome=true ∨ v∈Zlh a)
theorem Yix {m m':Bd} (hk:∀ v u,Zff m v=some u→Zff m' v=some u) (hv:∀ v,Zcr v=false→Zff m' v=none):∀ {a:Ty},(∀ v∈Zlh a,(Zff m v).isSome=true)→subst (Zff m') a=subst (Zff m) a:=by
 intro a h
 refine Zqc (fun v hvv=>?_) (fun v hvv=>⟨hv v hvv,?_⟩)
 ·obtain ⟨u,hu⟩:=Option.isSome_iff_exists.1 (h v hvv)
  rw [hu,hk v u hu]
 ·cases hb:Zff m v with
  | none=>rfl
  | some u=>have:=hk v u hb; rw [hv v hvv] at this; cases this
theorem BOk.novar {n:Nat} {m:Bd} (b:BOk n m):∀ v,Zcr v=false→Zff m v=none:=by
 intro v hv
 cases h:Zff m v with
 | none=>rfl
 | some t=>have:=(b.var _ (Znf h)).1; simp [hv] at this
theorem Zpu {n:Nat}:∀ {a t:Ty} {m m':Bd},a.ok=true→t.ok=true→t.txt.length≤n→BOk n m→matchT m a t=some m'→Yvf m m' a t
 | .k c,t,m,m',ha,ht,hn,b,h=>by
  simp only [matchT] at h
  split at h
  ·rename_i hv
   unfold Zpa at h
   split at h
   ·rename_i u hu
    split at h
    ·rename_i he
     cases h; subst he
     refine ⟨fun v u h=>h,by simp [subst,hu],fun v=>?_⟩
     simp only [Zlh,hv,if_true,List.mem_singleton]
     constructor
     ·exact .inl
     ·rintro (h | rfl)
      ·exact h
      ·rw [hu]; rfl
    ·cases h
   ·rename_i hu
    cases h
    refine ⟨fun v u h=>by rw [Zss,h],by simp [subst,Zss,hu],fun v=>?_⟩
    simp only [Zss,Zlh,hv,if_true,List.mem_singleton]
    cases hb:Zff m v with
    | some u=>simp
    | none=>
     by_cases e:c=v
     ·subst e; simp
     ·have:¬ v=c:=fun e'=>e e'.symm
      simp [e,this]
  ·rename_i hv
   split at h
   ·rename_i he
    cases h
    have hc:Zff m c=none:=b.novar c (by simpa using hv)
    refine ⟨fun v u h=>h,?_,fun v=>by simp [Zlh,hv]⟩
    simp only [subst,hc,Option.getD_none]
    have hl:=Ydg ha ht (by simpa [Ty.hd] using he)
    refine Yru ha ht (by simpa [Ty.hd] using he) ?_
    simp only [Ty.ps,List.length_nil] at hl ⊢
    exact (List.eq_nil_of_length_eq_zero hl.symm).symm
   ·cases h
 | .u c a,t,m,m',ha,ht,hn,b,h=>by
  have ha':=ha
  simp only [Ty.ok,Bool.and_eq_true] at ha
  simp only [matchT] at h
  split at h
  ·rename_i he
   split at h
   ·rename_i x hx
    have hm:x∈t.ps:=by rw [hx]; simp
    have o:=Zpu ha.2 (Ty.ok_ps ht x hm) (Nat.le_trans (Zot hm) hn) b h
    refine ⟨o.keep,?_,o.vars⟩
    simp only [subst,o.sub]
    cases t <;> simp_all [Ty.hd,Ty.ps]
   ·cases h
  ·cases h
 | .w c a a2,t,m,m',ha,ht,hn,b,h=>by
  simp only [Ty.ok,Bool.and_eq_true] at ha
  simp only [matchT] at h
  split at h
  ·rename_i he
   split at h
   ·rename_i x y hx
    have hm:x∈t.ps:=by rw [hx]; simp
    have hm2:y∈t.ps:=by rw [hx]; simp
    split at h
    ·rename_i m1 h1
     have b1:=BOk.matchT ha.1.2 (Ty.ok_ps ht x hm) (Nat.le_trans (Zot hm) hn) b h1
     have b2:=BOk.matchT ha.2 (Ty.ok_ps ht y hm2) (Nat.le_trans (Zot hm2) hn) b1 h
     have o1:=Zpu ha.1.2 (Ty.ok_ps ht x hm) (Nat.le_trans (Zot hm) hn) b h1
     have o2:=Zpu ha.2 (Ty.ok_ps ht y hm2) (Nat.le_trans (Zot hm2) hn) b1 h
     refine ⟨fun v u hv=>o2.keep v u (o1.keep v u hv),?_,fun v=>?_⟩
     ·have hs:subst (Zff m') a=x:=by
       rw [Yix o2.keep b2.novar (fun v hv=>(o1.vars v).2 (.inr hv)),o1.sub]
      simp only [subst,hs,o2.sub]
      cases t <;> simp_all [Ty.hd,Ty.ps]
     ·rw [o2.vars,o1.vars]; simp [Zlh,or_assoc]
    ·cases h
   ·cases h
  ·cases h
end Go.Sim

set_option linter.unusedSimpArgs false
set_option linter.unusedVariables false
namespace Go.Sim

structure Yca (f:Nat→Option Ty):Prop where
 nv:∀ v,Zcr v=false→f v=none
 ok:∀ v t,f v=some t→t.ok=true
theorem Zvb {f:Nat→Option Ty} (hf:Yca f):∀ {a:Ty},a.ok=true→(subst f a).ok=true
 | .k c,h=>by
  simp only [subst]
  cases hb:f c with
  | none=>exact h
  | some t=>exact hf.ok c t hb
 | .u c a,h=>by
  simp only [Ty.ok,Bool.and_eq_true] at h
  simp only [subst,Ty.ok,Bool.and_eq_true]; exact ⟨h.1,Zvb hf h.2⟩
 | .w c a b,h=>by
  simp only [Ty.ok,Bool.and_eq_true] at h
  simp only [subst,Ty.ok,Bool.and_eq_true]; exact ⟨⟨h.1.1,Zvb hf h.1.2⟩,Zvb hf h.2⟩
theorem Zqe {f:Nat→Option Ty} (hf:Yca f) (hall:∀ v,Zcr v=true→(f v).isSome=true):∀ {a:Ty} {m:Bd},a.ok=true→(∀ v u,Zff m v=some u→f v=some u)→∃ m',matchT m a (subst f a)=some m'∧∀ v u,Zff m' v=some u→f v=some u
 | .k c,m,ha,hm=>by
  simp only [matchT,subst]
  by_cases hv:Zcr c=true
  ·obtain ⟨t,ht⟩:=Option.isSome_iff_exists.1 (hall c hv)
   rw [if_pos hv,ht,Option.getD_some]
   unfold Zpa
   cases hb:Zff m c with
   | some u=>
    have:=hm c u hb
    rw [ht] at this; cases this
    exact ⟨m,by simp,hm⟩
   | none=>
    refine ⟨_,rfl,fun v u h=>?_⟩
    rw [Zss] at h
    cases hb2:Zff m v with
    | some x=>rw [hb2] at h; cases h; exact hm v _ hb2
    | none=>
     rw [hb2] at h
     simp only at h
     split at h
     ·rename_i e; subst e; cases h; exact ht
     ·cases h
  ·have hn:=hf.nv c (by simpa using hv)
   refine ⟨m,?_,hm⟩
   simp [hv,hn,Ty.hd]
 | .u c a,m,ha,hm=>by
  simp only [Ty.ok,Bool.and_eq_true] at ha
  simp only [matchT,subst,Ty.hd,Ty.ps,if_true]
  exact Zqe hf hall ha.2 hm
 | .w c a b,m,ha,hm=>by
  simp only [Ty.ok,Bool.and_eq_true] at ha
  simp only [matchT,subst,Ty.hd,Ty.ps,if_true]
  obtain ⟨m1,h1,hm1⟩:=Zqe hf hall ha.1.2 hm
  rw [h1]
  exact Zqe hf hall ha.2 hm1
def Yir (f:Nat→Option Ty) (v:Nat):Option Ty:=if Zcr v then some ((f v).getD (.k v)) else none
theorem Yqp {f:Nat→Option Ty} (hf:∀ v t,f v=some t→t.ok=true):Yca (Yir f):=by
 refine ⟨fun v hv=>by simp [Yir,hv],fun v t h=>?_⟩
 unfold Yir at h
 split at h
 ·rename_i hv
  cases h
  cases hb:f v with
  | none=>simp only [Option.getD_none,Ty.ok,Zkl,hv,Bool.or_true]
  | some u=>exact hf v u hb
 ·cases h
theorem Zqf {f:Nat→Option Ty} (h0:∀ v,Zcr v=false→f v=none):∀ (a:Ty),subst (Yir f) a=subst f a
 | .k c=>by
  simp only [subst,Yir]
  by_cases hv:Zcr c=true
  ·rw [if_pos hv]; rfl
  ·rw [if_neg hv,h0 c (by simpa using hv)]
 | .u c a=>by simp only [subst,Zqf h0 a]
 | .w c a b=>by simp only [subst,Zqf h0 a,Zqf h0 b]
theorem Zuu {p s:List Nat} {a t:Ty} (ha:Zhk p=some a) (ht:Zhk s=some t):Zlg p s=true ↔ ∃ f,Yca f∧subst f a=t:=by
 obtain ⟨h1,h2,h3⟩:=Zdt.1 ha
 obtain ⟨h4,h5,h6⟩:=Zdt.1 ht
 have hms:Zhn p s=matchT [] a t:=by unfold Zhn; rw [ha,ht]
 unfold Zlg
 rw [hms]
 constructor
 ·intro h
  obtain ⟨m,hm⟩:=Option.isSome_iff_exists.1 h
  have b:=BOk.matchT h1 h4 (by rw [← h5]; exact h6) BOk.nil hm
  have o:=Zpu h1 h4 (by rw [← h5]; exact h6) BOk.nil hm
  exact ⟨Zff m,⟨b.novar,fun v t h=>(b.var _ (Znf h)).2.1⟩,o.sub⟩
 ·rintro ⟨f,hf,rfl⟩
  obtain ⟨m,hm,_⟩:=Zqe (Yqp hf.ok) (fun v hv=>by simp [Yir,hv]) h1 (m:=[]) (fun v u h=>by simp [Zff] at h)
  rw [Zqf hf.nv] at hm
  rw [hm]; rfl
theorem Zwz:∀ (a:Ty),subst (fun _=>none) a=a
 | .k c=>rfl
 | .u c a=>by simp only [subst,Zwz a]
 | .w c a b=>by simp only [subst,Zwz a,Zwz b]
theorem Yjk {p:List Nat} (h:Zml p=true):Zlg p p=true:=by
 obtain ⟨a,ha⟩:=Zkk h
 exact (Zuu ha ha).2 ⟨fun _=>none,⟨fun _ _=>rfl,fun _ _ h=>by cases h⟩,Zwz a⟩
noncomputable def after (f g:Nat→Option Ty) (v:Nat):Option Ty:=if Zcr v then some (subst g ((f v).getD (.k v))) else none
noncomputable def Znb (a b:Ins):Bool:=decide (a.1.1=b.1.1) && Zlg b.1.2 a.1.2
end Go.Sim
