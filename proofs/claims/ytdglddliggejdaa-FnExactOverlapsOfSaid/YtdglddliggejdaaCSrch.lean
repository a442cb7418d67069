/- A part of the proof of a statement of this seat: see the text that holds the theorem. No condition. -/
import Derived.Test.YtdglddliggejdaaPTCGrE
import Derived.Test.YtdglddliggejdaaCGr
import Derived.Test.YtdglddliggejdaaCSApply
import Derived.Test.YtdglddliggejdaaPTCSUn5
import Derived.Test.YtdglddliggejdaaCWVar2
import Derived.Test.YtdglddliggejdaaNm
import Derived.Test.YtdglddliggejdaaCSplit
set_option linter.unusedVariables false
set_option linter.unusedSimpArgs false
set_option linter.all false
set_option linter.unusedVariables false
set_option linter.unusedSimpArgs false
set_option maxRecDepth 20000
namespace Go.Sim
open Go Go.RowKit

def Zuc (h:Zaa) (i:Nat) (A:List Nat):Prop:=∃ es clk,h[i]?=some (.map es clk)∧es.map (·.1)=A.map (fun n=>Zag.ptr (some (n,0)))∧es.map (·.2.1)=A.map (fun _=>Zag.bool true)
theorem Zsi {h:Zaa}:∀ {es:List ME} {A:List Nat} {n k:Nat},es.map (·.1)=A.map (fun n=>Zag.ptr (some (n,0)))→es.map (·.2.1)=A.map (fun _=>Zag.bool true)→(∀ x∈A,Zdf h x=true)→Zdf h n=true→n∈A →
  ∃ j b,Zkg h es (n,0) k=some (some (k + j,.bool true))∧A[j]?=some n∧(∀ i,i < j→A[i]?≠some n)∧es[j]?=some (.ptr (some (n,0)),.bool true,b)
 | _,[],n,k,_,_,_,_,h=>by cases h
 | [],x :: A,n,k,h,_,_,_,_=>by simp at h
 | (ek,ev,eb) :: es,x :: A,n,k,hk,hv,hA,hn,hm=>by
  simp only [List.map_cons,List.cons.injEq] at hk hv
  obtain ⟨rfl,hk⟩:=hk
  obtain ⟨rfl,hv⟩:=hv
  by_cases e:n=x
  ·subst e
   exact ⟨0,eb,by simp [Zkg],rfl,fun i hi=>by omega,rfl⟩
  ·obtain ⟨j,b,h1,h2,h3,h4⟩:=Zsi (k:=k + 1) hk hv (fun y hy=>hA y (List.mem_cons_of_mem _ hy)) hn ((List.mem_cons.1 hm).resolve_left e)
   have hne:¬ ((n,0):Nat × Nat)=(x,0):=fun h=>e (by simpa using h)
   refine ⟨j + 1,b,?_,h2,fun i hi=>?_,h4⟩
   ·unfold Zkg
    rw [if_neg hne,if_pos ⟨e,hn,hA x List.mem_cons_self⟩,h1,show k + 1 + j=k + (j + 1) by omega]
   ·match i with
    | 0=>simp; exact fun h=>e h.symm
    | i + 1=>simpa using h3 i (by omega)
theorem Zte {h:Zaa}:∀ {es:List ME} {A:List Nat} {n k:Nat},es.map (·.1)=A.map (fun n=>Zag.ptr (some (n,0)))→(∀ x∈A,Zdf h x=true)→Zdf h n=true→n ∉ A→Zkg h es (n,0) k=some none
 | [],[],n,k,_,_,_,_=>rfl
 | [],x :: A,n,k,h,_,_,_=>by simp at h
 | e :: es,[],n,k,h,_,_,_=>by simp at h
 | (ek,ev,eb) :: es,x :: A,n,k,hk,hA,hn,hm=>by
  simp only [List.map_cons,List.cons.injEq] at hk
  obtain ⟨rfl,hk⟩:=hk
  have e:n≠x:=fun e=>hm (by rw [e]; exact List.mem_cons_self)
  have hne:¬ ((n,0):Nat × Nat)=(x,0):=fun h=>e (by simpa using h)
  unfold Zkg
  rw [if_neg hne,if_pos ⟨e,hn,hA x List.mem_cons_self⟩]
  exact Zte hk (fun y hy=>hA y (List.mem_cons_of_mem _ hy)) hn fun h=>hm (List.mem_cons_of_mem _ h)
section
variable {h h':Zaa} {i n:Nat} {A:List Nat}
theorem Zuc.get (r:Zuc h i A) (he:h'[i]?=h[i]?):Zuc h' i A:=by obtain ⟨es,k,h1,x⟩:=r; exact ⟨es,k,by rw [he]; exact h1,x⟩
theorem Zuc.map (r:Zuc h i A):∃ es k,h[i]?=some (.map es k):=by obtain ⟨es,k,h1,_⟩:=r; exact ⟨es,k,h1⟩
theorem Zuc.look (r:Zuc h i A) (hA:∀ x∈A,Zdf h x=true) (hn:Zdf h n=true) {K:Bool→Prop} (hK:K (decide (n∈A))) :
  Zdm h (some i) fun es _=>Zsv (Zkg h es (n,0) 0) fun r=>Zbw (some (Option.getD r (.bool false))) K:=by
 obtain ⟨es,k,h1,hk,hv⟩:=r
 simp only [Zdm,h1]
 by_cases hm:n∈A
 ·obtain ⟨j,b,hf,_⟩:=Zsi (k:=0) hk hv hA hn hm
  rw [hf]
  simp only [Zsv,Option.getD_some,Zah]
  rw [decide_eq_true hm] at hK; exact hK
 ·rw [Zte (k:=0) hk hA hn hm]
  simp only [Zsv,Option.getD_none,Zah]
  rw [decide_eq_false hm] at hK; exact hK
theorem Zuc.put (r:Zuc h i A) (hA:∀ x∈A,Zdf h x=true) (hn:Zdf h n=true):∃ es k es' k',h[i]?=some (.map es k)∧Zuc (h.set i (.map es' k')) i (if n∈A then A else A ++ [n]) ∧
  ∀ K:List ME→Nat→Prop,K es' k'→Yir (Zkg h es (n,0) 0) es k (n,0) (.bool true) K:=by
 obtain ⟨es,k,h1,hk,hv⟩:=r
 have hl:=Own.lt h1
 by_cases hm:n∈A
 ·obtain ⟨j,b,hf,_,_,hj⟩:=Zsi (k:=0) hk hv hA hn hm
  refine ⟨es,k,es,k,h1,?_,fun K hK=>?_⟩
  rotate_left
  ·rw [hf]
   simp only [Yir,Nat.zero_add]
   rw [Zub hj rfl]
   exact hK
  ·rw [if_pos hm]
   exact ⟨es,k,List.getElem?_set_self hl,hk,hv⟩
 ·refine ⟨es,k,es ++ [(.ptr (some (n,0)),.bool true,k)],k + 1,h1,?_,fun K hK=>?_⟩
  rotate_left
  ·rw [Zte (k:=0) hk hA hn hm]
   exact hK
  ·rw [if_neg hm]
   exact ⟨_,_,List.getElem?_set_self hl,by simp [hk],by simp [hv]⟩
theorem Zuc.del (r:Zuc h i (A ++ [n])) (hA:∀ x∈A,Zdf h x=true) (hn:Zdf h n=true) (hm:n ∉ A):∃ es k es',h[i]?=some (.map es k)∧Zuc (h.set i (.map es' k)) i A ∧
  ∀ K:List ME→Prop,K es'→Yki (Zkg h es (n,0) 0) es K:=by
 obtain ⟨es,k,h1,hk,hv⟩:=r
 have hl:=Own.lt h1
 have hA':∀ x∈A ++ [n],Zdf h x=true:=fun x hx=>by
  rcases List.mem_append.1 hx with hx | hx
  ·exact hA x hx
  ·rw [List.mem_singleton.1 hx]; exact hn
 obtain ⟨j,b,hf,hj,hfirst,_⟩:=Zsi (k:=0) hk hv hA' hn (by simp)
 have hjA:j=A.length:=by
  have hjl:=(List.getElem?_eq_some_iff.1 hj).1
  simp at hjl
  by_cases h:j < A.length
  ·rw [List.getElem?_append_left h] at hj
   exact absurd (List.mem_of_getElem? hj) hm
  ·omega
 refine ⟨es,k,es.eraseIdx j,h1,⟨_,_,List.getElem?_set_self hl,?_,?_⟩,fun K hK=>?_⟩
 ·rw [← Zeh,hk,hjA,List.map_append,List.eraseIdx_append_of_length_le (by simp)]; simp
 ·rw [← Zeh,hv,hjA,List.map_append,List.eraseIdx_append_of_length_le (by simp)]; simp
 ·rw [hf]
  simp only [Yki,Nat.zero_add]
  exact hK
end
def Zmq (i j:Nat) (h h':Zaa):Prop:=h.length≤h'.length∧∀ k,k < h.length→k≠i→k≠j→h'[k]?=h[k]?
theorem Zmq.refl (i j:Nat) (h:Zaa):Zmq i j h h:=⟨Nat.le_refl _,fun _ _ _ _=>rfl⟩
theorem Zmq.trans {i j:Nat} {h h1 h2:Zaa} (a:Zmq i j h h1) (b:Zmq i j h1 h2):Zmq i j h h2:=⟨Nat.le_trans a.1 b.1,fun k hk h1 h2=>by rw [b.2 k (by have:=a.1; omega) h1 h2]; exact a.2 k hk h1 h2⟩
theorem Zmq.set1 (i j:Nat) (h:Zaa) (x:Zcp):Zmq i j h (h.set i x):=⟨by simp,fun k _ h1 _=>Zbv fun e=>h1 e.symm⟩
theorem Zmq.set2 (i j:Nat) (h:Zaa) (x:Zcp):Zmq i j h (h.set j x):=⟨by simp,fun k _ _ h2=>Zbv fun e=>h2 e.symm⟩
section
variable {G:Gr} {N:List Nat} {lk:Nat→Option Nat} {Z:Nat→Prop}
theorem GH.keepM {h h':Zaa} {i j:Nat} (g:GH h G N lk Z) (k:Zmq i j h h') (hi:∃ es c,h[i]?=some (.map es c)) (hj:∃ es c,h[j]?=some (.map es c)):GH h' G N lk Z:=by
 obtain ⟨es,c,hi⟩:=hi
 obtain ⟨es',c',hj⟩:=hj
 exact g.agree k.1 fun q t cs ro hq=>k.2 q (Own.lt hq) (fun e=>by subst e; rw [hi] at hq; cases hq) (fun e=>by subst e; rw [hj] at hq; cases hq)
def Yqi (G:Gr) (N:List Nat) (lk:Nat→Option Nat) (n mA mD:Nat) (A:List Nat) (h:Zaa) (v:Zag) (h':Zaa):Prop:=
 Zmq mA mD h h'∧((v=.bool true∧∀ val,Str G N val→¬ Rsp N lk val) ∨ (v=.bool false∧(∀ nu,∃ T,VT G lk nu n T)∧Zuc h' mA A∧∃ D,Zuc h' mD D∧(∀ x∈D,x∈N)∧∀ d∈D,∀ nu,∃ T,VT G lk nu d T))
theorem Yne {N A:List Nat} {e:Nat} (he:e∈N) (hA:e ∉ A):N.countP (fun x=>decide (x ∉ A ++ [e])) < N.countP (fun x=>decide (x ∉ A)):=by
 have key:∀ L:List Nat,e∈L→L.countP (fun x=>decide (x ∉ A ++ [e])) < L.countP (fun x=>decide (x ∉ A)):=by
  intro L hL
  induction L with
  | nil=>cases hL
  | cons n L ih=>
   have hm:L.countP (fun x=>decide (x ∉ A ++ [e]))≤L.countP (fun x=>decide (x ∉ A)):=List.countP_mono_left fun x _ h=>by
    simp only [decide_eq_true_eq,List.mem_append,not_or] at h ⊢; exact h.1
   rw [List.countP_cons,List.countP_cons]
   by_cases en:n=e
   ·subst en
    rw [if_neg (by simp),if_pos (by simpa using hA)]; omega
   ·have:=ih ((List.mem_cons.1 hL).resolve_left fun h=>en h.symm)
    by_cases hn:n∈A
    ·rw [if_neg (by simp [hn]),if_neg (by simp [hn])]; omega
    ·rw [if_pos (by simp [hn,en]),if_pos (by simp [hn])]; omega
 exact key N he
theorem Ydv (ok:GOk G N lk):∀ (M:Nat) {h:Zaa} {n mA mD:Nat} {A D:List Nat},N.countP (fun x=>decide (x ∉ A))≤M→GH h G N lk Z→n∈N→Zuc h mA A→Zuc h mD D→mA≠mD→(∀ x∈A,x∈N)→(∀ x∈D,x∈N) →
  (∀ d∈D,∀ nu,∃ T,VT G lk nu d T)→(∀ val,Str G N val→Rsp N lk val→∀ x∈A,(val n).size < (val x).size) →
  Zad pg Zfh [.ptr (some (n,0)),.map (some mA),.map (some mD)] h (Yqi G N lk n mA mD A h):=by
 intro M
 induction M using Nat.strongRecOn with
 | ind M ih=>
 intro h n mA mD A D hM g hn rA rD hne hAN hDN hDV hlt
 obtain ⟨k,e,hp,he0,he⟩:=ok.ends hn
 have hoA:∀ x∈A,Zdf h x=true:=fun x hx=>Zju g (hAN x hx)
 have hoD:∀ x∈D,Zdf h x=true:=fun x hx=>Zju g (hDN x hx)
 have hoe:=Zju g he
 apply Zej.call
 refine (Yfh g ok hn hp he0).mono ?_
 rintro v h1 ⟨rfl,rfl⟩
 simp only [Zdj,Zau]
 refine rA.look hoA hoe ?_
 refine Zaj (fun hin=>?_) (fun hnA=>?_)
 ·refine ⟨Zmq.refl _ _ _,.inl ⟨rfl,fun val hs hr=>?_⟩⟩
  have:=hlt val hs hr e hin
  rw [hr.path ok hn hp] at this
  omega
 refine rD.look hoD hoe ?_
 refine Zaj (fun hin=>?_) (fun hnD=>?_)
 ·exact ⟨Zmq.refl _ _ _,.inr ⟨rfl,fun nu=>(hDV e hin nu).imp fun T v=>v.of_path hp,rA,D,rD,hDN,hDV⟩⟩
 obtain ⟨esA,kA,esA',kA',hA0,rA1,hput⟩:=rA.put hoA hoe
 simp only [xMp,Zau,Zba,Zdm,hA0]
 refine hput _ ?_
 rw [if_neg hnA] at rA1
 have K1:=Zmq.set1 mA mD h1 (.map esA' kA')
 have rD1:Zuc (h1.set mA (.map esA' kA')) mD D:=rD.get (Zbv hne)
 have g1:=g.keepM K1 rA.map rD.map
 generalize h1.set mA (.map esA' kA')=h2 at rA1 rD1 g1 K1 ⊢
 obtain ⟨pa,pc,pe,hei,her,hed⟩:=g1.node e he
 simp only [Zan hei,Nat.zero_add,List.getElem?_cons_succ,List.getElem?_cons_zero,Zai]
 have hAN':∀ x∈A ++ [e],x∈N:=fun x hx=>by
  rcases List.mem_append.1 hx with hx | hx
  ·exact hAN x hx
  ·rw [List.mem_singleton.1 hx]; exact he
 refine Zej.L8ind (J:=fun (i:Nat) x24 h'=>x24=(i:Int)∧i≤(G.ps e).length∧Zmq mA mD h2 h'∧Zuc h' mA (A ++ [e])∧(∃ D',Zuc h' mD D'∧(∀ x∈D',x∈N)∧∀ d∈D',∀ nu,∃ T,VT G lk nu d T)∧∀ j p,j < i→(G.ps e)[j]?=some p→∀ nu,∃ T,VT G lk nu p T) (m:=fun i=>(G.ps e).length - i) (hr:=?_) (g:=0)
  (hj:=⟨rfl,by omega,Zmq.refl _ _ _,rA1,⟨D,rD1,hDN,hDV⟩,fun j p hj=>by omega⟩)
 rintro i x24 h3 ⟨rfl,hi,K3,rA3,⟨D3,rD3,hDN3,hDV3⟩,hdone⟩ R hR
 unfold Zej.L8t
 have g3:=g1.keepM K3 rA1.map rD1.map
 have KK:=K1.trans K3
 refine Zaj (fun hlt3=>?_) (fun hge=>?_)
 ·have hi':i < (G.ps e).length:=by omega
  have hpg:(G.ps e)[i]?=some (G.ps e)[i]:=List.getElem?_eq_getElem hi'
  have her3:Row h3.length h3 pa (G.ps e).length ((G.ps e).map fun p=>Zag.ptr (some (p,0))):=her.to K3.1 fun j o h0 ha hl=>by
   obtain ⟨t,all,ro,hj⟩:=her.cellsAt h0 ha
   obtain ⟨es1,c1,q1⟩:=rA1.map
   obtain ⟨es2,c2,q2⟩:=rD1.map
   exact K3.2 j hl (fun e'=>by subst e'; rw [q1] at hj; cases hj) (fun e'=>by subst e'; rw [q2] at hj; cases hj)
  obtain ⟨ja,oa,rfl,hca⟩:=Zvs her3 hpg
  simp only [Zau,Int.toNat_natCast,hca,Zdj]
  have hpN:=ok.par e he _ (List.getElem_mem hi')
  refine ⟨by omega,(ih _ (Nat.lt_of_lt_of_le (Yne he hnA) hM) (Nat.le_refl _) g3 hpN rA3 rD3 hne hAN' hDN3 hDV3 (fun val hs hr x hx=>?_)).mono ?_⟩
  ·have hpe:(val (G.ps e)[i]).size < (val e).size:=Yok ok hs hr he (List.getElem_mem hi') .refl
   rcases List.mem_append.1 hx with hx | hx
   ·have:=hlt val hs hr x hx
    rw [hr.path ok hn hp] at this
    omega
   ·rw [List.mem_singleton.1 hx]; exact hpe
  ·rintro v h4 ⟨K4,⟨rfl,hno⟩ | ⟨rfl,hT,rA4,D4,rD4,hDN4,hDV4⟩⟩
   ·simp only [Zah,Zcs]
    exact ⟨KK.trans K4,.inl ⟨rfl,hno⟩⟩
   ·simp only [Zah,Zay]
    rw [Zbp (by have:=ok.ps_le he; omega)]
    refine hR (i + 1) _ _ (by omega) ⟨rfl,by omega,K3.trans K4,rA4,⟨D4,rD4,hDN4,hDV4⟩,fun j p hj hp'=>?_⟩
    by_cases hji:j=i
    ·subst hji; rw [hpg] at hp'; cases hp'; exact hT
    ·exact hdone j p (by omega) hp'
 ·apply Zej.A8x0i
  have:i=(G.ps e).length:=by omega
  subst this
  have hVe:∀ nu,∃ T,VT G lk nu e T:=fun nu=>VT.make ok he he0 fun p hp'=>by
   obtain ⟨j,hj⟩:=List.getElem?_of_mem hp'
   exact hdone j p (List.getElem?_eq_some_iff.1 hj).1 hj nu
  obtain ⟨es3,k3,es3',hA3,rA4,hdel⟩:=rA3.del (fun x hx=>Zju g3 (hAN x hx)) (Zju g3 he) hnA
  simp only [xMp,Zau,Zba,Zdm,hA3]
  refine hdel _ ?_
  have K4:=Zmq.set1 mA mD h3 (.map es3' k3)
  have rD4:Zuc (h3.set mA (.map es3' k3)) mD D3:=rD3.get (Zbv hne)
  have g4:=g3.keepM K4 rA3.map rD3.map
  generalize h3.set mA (.map es3' k3)=h4 at rA4 rD4 g4 K4 ⊢
  obtain ⟨es4,k4,es4',k4',hD4,rD5,hput4⟩:=rD4.put (fun x hx=>Zju g4 (hDN3 x hx)) (Zju g4 he)
  simp only [hD4]
  refine hput4 _ ?_
  have rA5:Zuc (h4.set mD (.map es4' k4')) mA A:=rA4.get (Zbv fun e=>hne e.symm)
  refine ⟨(KK.trans K4).trans (Zmq.set2 mA mD h4 _),.inr ⟨rfl,fun nu=>(hVe nu).imp fun T v=>v.of_path hp,rA5,_,rD5,fun x hx=>?_,fun d hd=>?_⟩⟩
  ·split at hx
   ·exact hDN3 x hx
   ·rcases List.mem_append.1 hx with hx | hx
    ·exact hDN3 x hx
    ·rw [List.mem_singleton.1 hx]; exact he
  ·split at hd
   ·exact hDV3 d hd
   ·rcases List.mem_append.1 hd with hd | hd
    ·exact hDV3 d hd
    ·rw [List.mem_singleton.1 hd]; exact hVe
theorem Ymu (ok:GOk G N lk) {h:Zaa} {n:Nat} (g:GH h G N lk Z) (hn:n∈N) :
  Zad pg Zjj [.ptr (some (n,0))] h fun v h'=>Zbb h.length h h'∧((v=.bool false∧∀ val,Str G N val→¬ Rsp N lk val) ∨ (v=.bool true∧∀ nu,∃ T,VT G lk nu n T)):=by
 apply Znd.call
 simp only [Zba]
 generalize hh0:h ++ [Zcp.map [] 0]=h0
 have s0:Zbb h.length h h0:=by rw [← hh0]; exact Zav
 have m0:h0[h.length]?=some (.map [] 0):=by rw [← hh0]; simp
 have l0:h0.length=h.length + 1:=by rw [← hh0]; simp
 generalize hh1:h0 ++ [Zcp.map [] 0]=h1
 have s1:Zbb h0.length h0 h1:=by rw [← hh1]; exact Zav
 have m1:=s1.get m0 (Own.lt m0)
 have d1:h1[h0.length]?=some (.map [] 0):=by rw [← hh1]; simp
 have S1:=s0.cat s1
 refine (Ydv ok _ (Nat.le_refl _) (g.same S1) hn (A:=[]) (D:=[]) ⟨[],0,m1,rfl,rfl⟩ ⟨[],0,d1,rfl,rfl⟩ (by omega) (by simp) (by simp) (by simp) (by simp)).mono ?_
 rintro v h2 ⟨K2,hr⟩
 have l1:=S1.le
 have S2:Zbb h.length h h2:=⟨by have:=K2.1; omega,fun j hj=>by rw [K2.2 j (by omega) (by omega) (by omega)]; exact S1.eq j hj⟩
 rcases hr with ⟨rfl,hno⟩ | ⟨rfl,hT,_⟩
 ·simp only [Zah]
  exact ⟨S2,.inl ⟨rfl,hno⟩⟩
 ·simp only [Zah]
  exact ⟨S2,.inr ⟨rfl,hT⟩⟩
end
end Go.Sim

set_option linter.unusedVariables false
set_option linter.unusedSimpArgs false
set_option maxRecDepth 20000
namespace Go.Sim
open Go Go.RowKit

section
variable {G:Gr} {N:List Nat} {lk:Nat→Option Nat} {Z:Nat→Prop}
end
end Go.Sim

set_option linter.unusedVariables false
set_option linter.unusedSimpArgs false
set_option maxRecDepth 20000
namespace Go.Sim
open Go Go.RowKit

theorem Ycf {i:Nat} {h h':Zaa} (s:Zbb h.length h h'):Zif i h h':=⟨s.le,fun j hj _=>s.eq j hj⟩
theorem Ylw {h h':Zaa} {i j:Nat} {x:Zcp} (K:Zif i h h') (hj:h[j]?=some x) (hi:j≠i):h'[j]?=some x:=by rw [K.eq j (Own.lt hj) hi]; exact hj
def Zzb:List (Nat × Nat)→Nat→Option Nat
 | [],_=>none
 | (c,x) :: r,d=>if c=d then some x else Zzb r d
theorem Ycs:∀ {l:List (Nat × Nat)} {c x d:Nat},Zzb (l ++ [(c,x)]) d=match Zzb l d with | some y=>some y | none=>if c=d then some x else none
 | [],c,x,d=>by simp [Zzb]
 | (c',x') :: l,c,x,d=>by
  simp only [List.cons_append,Zzb]
  by_cases e:c'=d
  ·simp [e]
  ·simp only [if_neg e,Ycs]
theorem Ycn:∀ {l:List (Nat × Nat)} {c x:Nat},Zzb l c=some x→(c,x)∈l
 | [],c,x,h=>by cases h
 | (c',x') :: l,c,x,h=>by
  simp only [Zzb] at h
  by_cases e:c'=c
  ·rw [if_pos e] at h; cases h; subst e; exact List.mem_cons_self
  ·rw [if_neg e] at h; exact List.mem_cons_of_mem _ (Ycn h)
theorem Ycg:∀ {l r:List (Nat × Nat)} {c x:Nat},Zzb l c=some x→Zzb (l ++ r) c=some x
 | [],r,c,x,h=>by cases h
 | (c',x') :: l,r,c,x,h=>by
  simp only [List.cons_append,Zzb] at h ⊢
  by_cases e:c'=c
  ·rw [if_pos e] at h ⊢; exact h
  ·rw [if_neg e] at h ⊢; exact Ycg h
def You (h:Zaa) (i:Nat) (sc:List (Nat × Nat)):Prop:=∃ es clk,h[i]?=some (.map es clk)∧es.map (·.1)=sc.map (fun p=>Zag.str [p.1])∧es.map (·.2.1)=sc.map (fun p=>Zag.ptr (some (p.2,0)))∧(es.map (·.2.2)).Nodup∧∀ e∈es,e.2.2 < clk
theorem You.eq {h h':Zaa} {i:Nat} {sc:List (Nat × Nat)} (r:You h i sc) (he:h'[i]?=h[i]?):You h' i sc:=by obtain ⟨es,k,h1,x⟩:=r; exact ⟨es,k,by rw [he]; exact h1,x⟩
theorem Zqr:∀ {es:List ME} {sc:List (Nat × Nat)} {v x k:Nat},es.map (·.1)=sc.map (fun p=>Zag.str [p.1])→es.map (·.2.1)=sc.map (fun p=>Zag.ptr (some (p.2,0)))→Zzb sc v=some x→∃ j,Zqs es [v] k=some (some (j,.ptr (some (x,0))))
 | _,[],v,x,k,_,_,h=>by cases h
 | [],p :: sc,v,x,k,h,_,_=>by simp at h
 | (ek,ev,eb) :: es,(w,u) :: sc,v,x,k,hk,hv,h=>by
  simp only [List.map_cons,List.cons.injEq] at hk hv
  obtain ⟨rfl,hk⟩:=hk
  obtain ⟨rfl,hv⟩:=hv
  simp only [Zzb] at h
  by_cases e:w=v
  ·rw [if_pos e] at h
   cases h; subst e
   exact ⟨k,by simp [Zqs]⟩
  ·rw [if_neg e] at h
   obtain ⟨j,h1⟩:=Zqr (k:=k + 1) hk hv h
   have:¬ [v]=[w]:=fun x=>e (by simpa using x.symm)
   exact ⟨j,by simp only [Zqs,this,if_false,h1]⟩
theorem Zvq:∀ {es:List ME} {sc:List (Nat × Nat)} {v k:Nat},es.map (·.1)=sc.map (fun p=>Zag.str [p.1])→Zzb sc v=none→Zqs es [v] k=some none
 | [],[],v,k,_,_=>rfl
 | [],p :: sc,v,k,h,_=>by simp at h
 | e :: es,[],v,k,h,_=>by simp at h
 | (ek,ev,eb) :: es,(w,u) :: sc,v,k,hk,h=>by
  simp only [List.map_cons,List.cons.injEq] at hk
  obtain ⟨rfl,hk⟩:=hk
  simp only [Zzb] at h
  by_cases e:w=v
  ·rw [if_pos e] at h; cases h
  ·rw [if_neg e] at h
   have:¬ [v]=[w]:=fun x=>e (by simpa using x.symm)
   simp only [Zqs,this,if_false]
   exact Zvq hk h
def Zqn (G:Gr) (o c:Nat) (qs:List Nat):Gr:=⟨fun n=>if n=o then c else G.hd n,fun n=>if n=o then qs else G.ps n⟩
theorem Zzr {G:Gr} {N:List Nat} {o c:Nat} {qs:List Nat} (ho:o ∉ N):GAg N G (Zqn G o c qs):=fun n hn=>by
 have:n≠o:=fun e=>ho (e ▸ hn)
 simp [Zqn,this]
structure ShS (h:Zaa) (mi:Nat) (G:Gr) (N:List Nat) (sc:List (Nat × Nat)) (Z:Nat→Prop):Prop where
 gh:GH h G N (fun _=>none) Z
 cl:GCl G N
 ar:∀ n∈N,arN (G.hd n)=((G.ps n).length:Int)
 map:You h mi sc
 sin:∀ p∈sc,p.2∈N∧G.hd p.2=p.1∧Zbc p.1=true∧Zzb sc p.1=some p.2
structure ShR (h:Zaa) (mi:Nat) (G:Gr) (N:List Nat) (sc:List (Nat × Nat)) (Z:Nat→Prop) (t:Ty) (q:Nat) (h':Zaa) (G':Gr) (L:List Nat) (sc':List (Nat × Nat)):Prop where
 fr:Zif mi h h'
 st:ShS h' mi G' (N ++ L) sc' Z
 ag:GAg N G G'
 new:∀ x∈L,h.length≤x∧Sub G' q x
 var:∀ x∈L,Zbc (G'.hd x)=true→(G'.hd x,x)∈sc'
 ext:∃ r,sc'=sc ++ r
 qN:q∈N ++ L
 raw:Raw G' G'.hd q t
section
variable {h h':Zaa} {mi:Nat} {G:Gr} {N:List Nat} {sc:List (Nat × Nat)} {Z Z':Nat→Prop} {lk:Nat→Option Nat}
theorem GH.re (g:GH h G N lk Z) (hl:h.length≤h'.length) (hN:∀ n∈N,h'[n]?=h[n]?) (hR:∀ j t cs ro,h[j]?=some (Zcp.cells t cs ro)→¬ Z j→j ∉ N→h'[j]?=h[j]?) (hZ:∀ j,j < h.length→¬ Z j→¬ Z' j):GH h' G N lk Z':=by
 refine ⟨fun n hn=>?_⟩
 obtain ⟨a,c,e,hi,hr,hd⟩:=g.node n hn
 refine ⟨a,c,e,by rw [hN n hn]; exact hi,hr.to hl fun j o h0 ha _=>?_,fun j o h0 ha=>?_⟩
 ·obtain ⟨t,all,ro,hj⟩:=hr.cellsAt h0 ha
  exact hR _ _ _ _ hj (hd j o h0 ha).2 (hd j o h0 ha).1
 ·obtain ⟨t,all,ro,hj⟩:=hr.cellsAt h0 ha
  exact ⟨(hd j o h0 ha).1,hZ j (Own.lt hj) (hd j o h0 ha).2⟩
theorem GH.ag {G':Gr} (g:GH h G N lk Z) (ag:GAg N G G'):GH h G' N lk Z:=⟨fun n hn=>by rw [(ag n hn).1,(ag n hn).2]; exact g.node n hn⟩
theorem GH.add {o c:Nat} {qs:List Nat} (g:GH h G N (fun _=>none) Z') (hZo:Z' o) (hZ:∀ z,Z z→Z' z) (ho:o ∉ N) {a:Pt} {cp:Nat} {e:Bool} (hi:h[o]?=some (.cells Zbs [.str [c],.slice a qs.length cp e,.ptr none] false))
  (hr:Row h.length h a qs.length (qs.map fun p=>Zag.ptr (some (p,0)))) (hd:∀ j o',qs.length≠0→a=some (j,o')→j ∉ N∧j≠o∧¬ Z j):GH h (Zqn G o c qs) (N ++ [o]) (fun _=>none) Z:=by
 refine ⟨fun n hn=>?_⟩
 rcases List.mem_append.1 hn with hn | hn
 ·obtain ⟨b,c',e',hb,hbr,hbd⟩:=(g.ag (Zzr (c:=c) (qs:=qs) ho)).node n hn
  refine ⟨b,c',e',hb,hbr,fun j o' h0 ha=>⟨fun hj=>?_,fun hj=>(hbd j o' h0 ha).2 (hZ _ hj)⟩⟩
  rcases List.mem_append.1 hj with hj | hj
  ·exact (hbd j o' h0 ha).1 hj
  ·rw [List.mem_singleton] at hj
   subst hj
   exact (hbd j o' h0 ha).2 hZo
 ·rw [List.mem_singleton] at hn
  subst hn
  refine ⟨a,cp,e,by simpa [Zqn] using hi,by simpa [Zqn] using hr,fun j o' h0 ha=>?_⟩
  have h0':qs.length≠0:=by simpa [Zqn] using h0
  obtain ⟨h1,h2,h3⟩:=hd j o' h0' ha
  exact ⟨fun hj=>(List.mem_append.1 hj).elim h1 fun hj=>h2 (List.mem_singleton.1 hj),h3⟩
end
structure ShL (h0:Zaa) (mi:Nat) (G:Gr) (N:List Nat) (sc:List (Nat × Nat)) (Z:Nat→Prop) (t:Ty) (o:Nat) (h':Zaa) (G1:Gr) (L1:List Nat) (sc1:List (Nat × Nat)) (qs:List Nat) (a:Pt) (cp:Nat) (e:Bool):Prop where
 out:h'[o]?=some (.cells Zbs [.str [t.hd],.slice a qs.length cp e,.ptr none] false)
 vec:Vec Zcx h' a qs.length cp (qs.map fun q=>Zag.ptr (some (q,0)))
 low:∀ j,a=some (j,0)→o < j
 raw:∀ (i q:Nat) (x:Ty),qs[i]?=some q→t.ps[i]?=some x→Raw G1 G1.hd q x
 qN:∀ q∈qs,q∈N ++ L1
 fr:Zif mi h0 h'
 st:ShS h' mi G1 (N ++ L1) sc1 (fun z=>Z z ∨ z=o ∨ a=some (z,0))
 ag:GAg N G G1
 new:∀ x∈L1,o < x∧∃ q∈qs,Sub G1 q x
 var:∀ x∈L1,Zbc (G1.hd x)=true→(G1.hd x,x)∈sc1
 ext:∃ r,sc1=sc ++ r
theorem Yic {h:Zaa} {i j:Nat} {cs cs':List Zag} {r r':Bool} (hi:h[i]?=some (.cells Zbs cs r)) (hj:h[j]?=some (.cells Zcx cs' r')):i≠j:=by
 rintro rfl; rw [hi] at hj; injection hj with hj; injection hj with hj; exact absurd hj (by decide)
theorem Vec.ptr {ty:TypeId} {h:Zaa} {a:Pt} {n c:Nat} {cs:List Zag} (x:Vec ty h a n c cs) {j o:Nat} (ha:a=some (j,o)):o=0∧h[j]?=some (.cells ty cs false):=by
 rcases x with ⟨h0,_⟩ | ⟨i,hi,hj⟩
 ·rw [ha] at h0; cases h0
 ·rw [ha] at hi; cases hi; exact ⟨rfl,hj⟩
theorem Yiy:∀ (M:Nat) {t:Ty} {S:Nat→Prop} {h:Zaa} {p:Pt} {mi:Nat} {G:Gr} {N:List Nat} {sc:List (Nat × Nat)} {Z:Nat→Prop},t.size≤M→t.ok=true→Zpm S h t p→(∀ j,S j→j≠mi)→ShS h mi G N sc Z→(∀ z,Z z→z < h.length) →
  Zad pg Zgr [.ptr p,.map (some mi)] h fun v h'=>∃ q G' L sc',v=.ptr (some (q,0))∧ShR h mi G N sc Z t q h' G' L sc':=by
 intro M
 induction M with
 | zero=>intro t S h p mi G N sc Z hM; have:=Zpr t; omega
 | succ M ih=>
 intro t S h p mi G N sc Z hM hok hrep hS st hZ
 obtain ⟨i,a,c0,e0,qa,rfl,si,hi,row,hSa,hqal,hqa⟩:=hrep.parts
 obtain ⟨es,clk,hm,hk,hv,hb,hlt⟩:=id st.map
 have hml:=Own.lt hm
 apply Zdu.call
 simp only [Zau,Zan hi,Nat.zero_add,List.getElem?_cons_zero,Zap]
 refine (Zsb [t.hd]).mono ?_
 rintro v h1 ⟨rfl,rfl⟩
 simp only [Zah,Zus,Zan hi,List.getElem?_cons_zero,Zap,Zau]
 refine Zds (fun hvar=>?_) (fun hvar=>?_)
 ·-- a variable
  have hps:t.ps=[]:=List.eq_nil_of_length_eq_zero (by have:=Ty.ok_ar hok; rw [Zsr hvar] at this; omega)
  have htk:t=.k t.hd:=Yoi (by rw [hps]; rfl)
  simp only [Zdm,hm,Ztr]
  cases hg:Zzb sc t.hd with
  | some x=>
   obtain ⟨j,hf⟩:=Zqr (k:=0) hk hv hg
   rw [hf]
   simp only [Option.getD_some,Zdj,Option.isNone_some,Zay]
   apply Zdu.J4i
   simp only [Zau,Zan hi,Nat.zero_add,List.getElem?_cons_zero,Zap,Zdm,hm,Ztr,hf,Option.getD_some,Zdj]
   obtain ⟨h2,h3,h4,_⟩:=st.sin _ (Ycn hg)
   refine ⟨x,G,[],sc,rfl,Zif.refl _ _,by rw [List.append_nil]; exact st,GAg.refl _ _,by simp,by simp,⟨[],by simp⟩,by simpa using h2,?_⟩
   have h3':G.hd x=t.hd:=h3
   rw [htk,← h3']
   exact .var (by rw [h3']; exact hvar)
  | none=>
   have hf:=Zvq (k:=0) hk hg
   rw [hf]
   simp only [Option.getD_none,Zdj,Option.isNone_none,Zcs,Zba,true_and]
   generalize hh2:h1 ++ [Zcp.cells Zbs [.str [t.hd],.slice none 0 0 true,.ptr none] false]=h2
   have s2:Zbb h1.length h1 h2:=by rw [← hh2]; exact Zav
   have o2:h2[h1.length]?=some (.cells Zbs [.str [t.hd],.slice none 0 0 true,.ptr none] false):=by rw [← hh2]; simp
   have hi2:=s2.get hi (Own.lt hi)
   have hm2:=s2.get hm hml
   have l2:h2.length=h1.length + 1:=by rw [← hh2]; simp
   have him:i≠mi:=hS i si
   simp only [Zan hi2,Zan hi,List.getElem?_cons_zero,xMp,Zdm,hm2,Ylc,hf,true_and]
   generalize hh3:h2.set mi (.map (es ++ [(.str [t.hd],.ptr (some (h1.length,0)),clk)]) (clk + 1))=h3
   have hm3:h3[mi]?=some (.map (es ++ [(.str [t.hd],.ptr (some (h1.length,0)),clk)]) (clk + 1)):=by rw [← hh3]; exact Zcc hm2
   have k3:∀ j,j≠mi→h3[j]?=h2[j]?:=fun j hj=>by rw [← hh3]; exact Zbv fun e=>hj e.symm
   have l3:h3.length=h2.length:=by rw [← hh3]; simp
   have hi3:h3[i]?=h2[i]?:=k3 i him
   have hk3:(es ++ [((Zag.str [t.hd],Zag.ptr (some (h1.length,0)),clk):ME)]).map (·.1)=(sc ++ [(t.hd,h1.length)]).map (fun p=>Zag.str [p.1]):=by simp [hk]
   have hv3:(es ++ [((Zag.str [t.hd],Zag.ptr (some (h1.length,0)),clk):ME)]).map (·.2.1)=(sc ++ [(t.hd,h1.length)]).map (fun p=>Zag.ptr (some (p.2,0))):=by simp [hv]
   have hg3:Zzb (sc ++ [(t.hd,h1.length)]) t.hd=some h1.length:=by rw [Ycs,hg]; simp
   obtain ⟨j3,hf3⟩:=Zqr (k:=0) hk3 hv3 hg3
   apply Zdu.J4i
   rw [hi2] at hi3
   simp only [Zau,Zan hi3,Nat.zero_add,List.getElem?_cons_zero,Zap,Zdm,hm3,Ztr,hf3,Option.getD_some,Zdj]
   have hnN:h1.length ∉ N:=fun h=>by have:=st.gh.lt h; omega
   have hml2:mi≠h1.length:=by omega
   have o3:h3[h1.length]?=some (.cells Zbs [.str [t.hd],.slice none ([]:List Nat).length 0 true,.ptr none] false):=by rw [k3 _ hml2.symm]; exact o2
   have g3:GH h3 G N (fun _=>none) (fun z=>Z z ∨ z=h1.length):=st.gh.re (by omega) (fun n hn=>by rw [k3 n fun e=>by subst e; obtain ⟨_,_,_,q,_⟩:=st.gh.node n hn; rw [hm] at q; cases q]; exact s2.eq n (st.gh.lt hn))
    (fun j t cs ro hj _ _=>by rw [k3 j fun e=>by subst e; rw [hm] at hj; cases hj]; exact s2.eq j (Own.lt hj)) (fun j hj hz=>by rintro (h | h); exact hz h; omega)
   have ag:GAg N G (Zqn G h1.length t.hd []):=Zzr hnN
   have ghd:(Zqn G h1.length t.hd []).hd h1.length=t.hd:=by simp [Zqn]
   refine ⟨h1.length,Zqn G h1.length t.hd [],[h1.length],sc ++ [(t.hd,h1.length)],rfl,⟨by omega,fun j hj hne=>by rw [k3 j hne]; exact s2.eq j hj⟩,⟨?_,?_,?_,?_,?_⟩,ag,?_,?_,⟨_,rfl⟩,by simp,?_⟩
   ·exact g3.add (.inr rfl) (fun z hz=>.inl hz) hnN o3 Row.nil (fun j o' h0=>absurd rfl h0)
   ·intro n hn p hp
    rcases List.mem_append.1 hn with hn | hn
    ·rw [(ag n hn).2] at hp; exact List.mem_append_left _ (st.cl n hn p hp)
    ·rw [List.mem_singleton.1 hn] at hp; simp [Zqn] at hp
   ·intro n hn
    rcases List.mem_append.1 hn with hn | hn
    ·rw [(ag n hn).1,(ag n hn).2]; exact st.ar n hn
    ·rw [List.mem_singleton.1 hn,ghd,Zsr hvar]; simp [Zqn]
   ·refine ⟨_,_,hm3,hk3,hv3,?_,?_⟩
    ·rw [List.map_append,List.nodup_append]
     refine ⟨hb,by simp,?_⟩
     intro x hx y hy e
     simp at hy
     obtain ⟨z,hz,rfl⟩:=List.mem_map.1 hx
     have:=hlt z hz; omega
    ·intro e he
     rcases List.mem_append.1 he with he | he
     ·have:=hlt e he; omega
     ·simp at he; subst he; simp
   ·intro p hp
    rcases List.mem_append.1 hp with hp | hp
    ·obtain ⟨h1',h2',h3',h4'⟩:=st.sin p hp
     exact ⟨List.mem_append_left _ h1',by rw [(ag _ h1').1]; exact h2',h3',Ycg h4'⟩
    ·rw [List.mem_singleton.1 hp]
     exact ⟨by simp,ghd,hvar,hg3⟩
   ·intro x hx
    rw [List.mem_singleton.1 hx]
    exact ⟨Nat.le_refl _,.refl⟩
   ·intro x hx _
    rw [List.mem_singleton.1 hx,ghd]; simp
   ·rw [htk]
    have:Raw (Zqn G h1.length t.hd []) (Zqn G h1.length t.hd []).hd h1.length (.k ((Zqn G h1.length t.hd []).hd h1.length)):=.var (by rw [ghd]; exact hvar)
    rw [ghd] at this; exact this
 ·-- another letter
  simp only [Zba]
  generalize hh2:h1 ++ [Zcp.cells Zbs [.str [t.hd],.slice none 0 0 true,.ptr none] false]=h2
  have s2:Zbb h1.length h1 h2:=by rw [← hh2]; exact Zav
  have o2:h2[h1.length]?=some (.cells Zbs [.str [t.hd],.slice none 0 0 true,.ptr none] false):=by rw [← hh2]; simp
  have l2:h2.length=h1.length + 1:=by rw [← hh2]; simp
  have hi2:=s2.get hi (Own.lt hi)
  have hm2:=s2.get hm hml
  have hmo:mi≠h1.length:=by omega
  have hNlt:∀ n∈N,n < h1.length:=fun n hn=>st.gh.lt hn
  have har:=Ty.ok_ar hok
  simp only [Zan hi2,List.getElem?_cons_succ,List.getElem?_cons_zero,Zai]
  have st2:ShS h2 mi G (N ++ []) sc (fun z=>Z z ∨ z=h1.length ∨ (none:Pt)=some (z,0)):=by
   rw [List.append_nil]
   refine ⟨st.gh.re (by omega) (fun n hn=>s2.eq n (hNlt n hn)) (fun j t cs ro hj _ _=>s2.eq j (Own.lt hj)) (fun j hj hz=>?_),st.cl,st.ar,st.map.eq (s2.eq mi hml),st.sin⟩
   rintro (h | h | h)
   ·exact hz h
   ·omega
   ·cases h
  refine Zdu.L7ind (J:=fun (g:Nat) x48 h'=>x48=(g:Int)∧g≤t.ps.length∧∃ G1 L1 sc1 qs a1 cp e1,qs.length=g∧ShL h1 mi G N sc Z t h1.length h' G1 L1 sc1 qs a1 cp e1) (m:=fun g=>t.ps.length - g) (hr:=?_) (g:=0)
   (hj:=⟨rfl,by omega,G,[],sc,[],none,0,true,rfl,o2,Vec.mk0,(fun j hj=>by cases hj),(fun i q x hq=>by simp at hq),(fun q hq=>by cases hq),Ycf s2,st2,GAg.refl _ _,(fun x hx=>by cases hx),(fun x hx=>by cases hx),⟨[],by simp⟩⟩)
  rintro g x48 h3 ⟨rfl,hg,G1,L1,sc1,qs,a1,cp,e1,hql,W⟩ R hR
  unfold Zdu.L7t
  have hps2:t.ps.length≤2:=by cases t <;> simp [Ty.ps]
  have hol:=Own.lt W.out
  refine Zaj (fun hlt'=>?_) (fun hge=>?_)
  ·have hg':g < t.ps.length:=by omega
   have hqag:g < qa.length:=by omega
   obtain ⟨ja,oa,rfl,_,hca⟩:=(row.keepAt (i:=mi) (fun j o h0 e=>hS j (hSa j o h0 e)) W.fr).at hg'
   rw [List.getElem?_map,List.getElem?_eq_getElem hqag] at hca
   simp only [Zau,Int.toNat_natCast,Nat.mul_one,hca,Option.map_some,Zdj,Zan W.out,Nat.zero_add,List.getElem?_cons_succ,List.getElem?_cons_zero,Zai]
   have hmem:=List.getElem_mem hg'
   have hsz:=Ty.size_part hmem
   refine ⟨by omega,(ih (by omega) (Ty.ok_ps hok _ hmem) ((hqa g _ _ (List.getElem?_eq_getElem hqag) (List.getElem?_eq_getElem hg')).keep fun j hj hl=>W.fr.eq j hl (hS j hj)) hS W.st (fun z hz=>?_)).mono ?_⟩
   ·rcases hz with hz | hz | hz
    ·have:=hZ z hz; omega
    ·omega
    ·exact Own.lt (W.vec.ptr hz).2
   rintro v h4 ⟨q,G2,L2,sc2,rfl,R2⟩
   have hmo':h1.length≠mi:=fun e=>hmo e.symm
   have out4:=Ylw R2.fr W.out hmo'
   have a1mi:∀ j o,a1=some (j,o)→j≠mi:=fun j o hj e=>by
    subst e
    obtain ⟨es1,k1,hm1,_⟩:=W.st.map
    rw [(W.vec.ptr hj).2] at hm1; cases hm1
   have vec4:Vec Zcx h4 a1 qs.length cp (qs.map fun q=>Zag.ptr (some (q,0))):=W.vec.agree fun j hj=>R2.fr.eq j (Own.lt (W.vec.ptr hj).2) (a1mi j 0 hj)
   simp only [Zdj,Zba]
   refine ⟨by rw [Zan out4]; rfl,by rw [Zan (Zav.get out4 (Own.lt out4)),Zan out4],?_⟩
   refine vec4.push Zvc Ycr Ybr Ybn (by simp) rfl (by omega) (fun h5 hl5 hi5 hk5=>?_)
   have hfl:=R2.fr.le
   have out5:h5[h1.length]?=some (.cells Zbs [.str [t.hd],.slice a1 qs.length cp e1,.ptr none] false):=by rw [hk5 _ (Own.lt out4) fun j hj=>by have:=W.low j hj; omega]; exact out4
   simp only [Zai]
   rw [Zbk out5 (by simp)]
   simp only [Zaq,Zbm,List.take_succ_cons,List.take_zero,List.length_cons,List.length_nil,List.drop_succ_cons,List.drop_zero,List.drop_nil,List.cons_append,List.nil_append,List.append_nil]
   rw [Zbp (by omega)]
   generalize hh6:h5.set h1.length (.cells Zbs [.str [t.hd],.slice (some (h4.length + 1,0)) (qs.length + 1) (qs.length + 1) false,.ptr none] false)=h6
   have l6:h6.length=h4.length + 2:=by rw [← hh6]; simpa using hl5
   have k6:∀ j,j < h4.length→j≠h1.length→(∀ i,a1=some (i,0)→j≠i)→h6[j]?=h4[j]?:=fun j hj h1' h2'=>by rw [← hh6,Zbv (fun e=>h1' e.symm)]; exact hk5 j hj h2'
   have ob6:h6[h1.length]?=some (.cells Zbs [.str [t.hd],.slice (some (h4.length + 1,0)) (qs ++ [q]).length (qs.length + 1) false,.ptr none] false):=by rw [← hh6,Zcc out5]; simp
   have nb6:h6[h4.length + 1]?=some (.cells Zcx ((qs ++ [q]).map fun q=>Zag.ptr (some (q,0))) false):=by
    rw [← hh6,Zbv (by omega),hi5]; simp
   have hoN:∀ n∈(N ++ L1) ++ L2,n≠h1.length:=fun n hn=>by
    rcases List.mem_append.1 hn with hn | hn
    ·rcases List.mem_append.1 hn with hn | hn
     ·have:=hNlt n hn; omega
     ·have:=(W.new n hn).1; omega
    ·have:=(R2.new n hn).1; omega
   have haN:∀ n∈(N ++ L1) ++ L2,∀ i,a1=some (i,0)→n≠i:=fun n hn i hi'=>by
    obtain ⟨_,_,_,hnn,_⟩:=R2.st.gh.node n hn
    exact Yic hnn (vec4.ptr hi').2
   have hm4:=R2.st.map
   obtain ⟨es4,k4,hm4',_⟩:=id hm4
   have mi6:h6[mi]?=h4[mi]?:=k6 mi (Own.lt hm4') hmo (fun i hi'=>(a1mi i 0 hi').symm)
   have inc:∀ p,p∈sc1→p∈sc2:=fun p hp=>by obtain ⟨r,hr⟩:=R2.ext; rw [hr]; exact List.mem_append_left _ hp
   refine hR (g + 1) _ _ (by omega) ⟨rfl,by omega,G2,L1 ++ L2,sc2,qs ++ [q],some (h4.length + 1,0),qs.length + 1,false,by simp [hql],ob6,by rw [List.length_append]; exact Vec.mk1 nb6,fun j hj=>by cases hj; omega,fun i q' x hq' hx=>?_,fun q' hq'=>?_,⟨by have:=W.fr.le; omega,fun j hj hne=>?_⟩,⟨?_,?_,?_,hm4.eq mi6,?_⟩,W.ag.trans R2.ag (fun n hn=>List.mem_append_left _ hn),fun x hx=>?_,fun x hx hxv=>?_,?_⟩
   ·by_cases hi':i < qs.length
    ·rw [List.getElem?_append_left hi'] at hq'
     exact (W.raw i q' x hq' hx).agree R2.ag W.st.cl (fun y hy=>(R2.ag y hy).1) (W.qN _ (List.mem_of_getElem? hq'))
    ·rw [List.getElem?_append_right (by omega)] at hq'
     have hi0:i=g:=by
      have:=(List.getElem?_eq_some_iff.1 hq').1
      simp at this; omega
     subst hi0
     rw [hql,Nat.sub_self] at hq'
     simp at hq'
     subst hq'
     rw [List.getElem?_eq_getElem hg'] at hx
     cases hx
     exact R2.raw
   ·rw [← List.append_assoc]
    rcases List.mem_append.1 hq' with hq' | hq'
    ·exact List.mem_append_left _ (W.qN q' hq')
    ·rw [List.mem_singleton.1 hq']; exact R2.qN
   ·rw [k6 j (by have:=W.fr.le; omega) (by omega) fun i hi'=>by have:=W.low i hi'; omega,R2.fr.eq j (by have:=W.fr.le; omega) hne]
    exact W.fr.eq j hj hne
   ·rw [← List.append_assoc]
    refine R2.st.gh.re (by omega) (fun n hn=>k6 n (R2.st.gh.lt hn) (hoN n hn) (haN n hn)) (fun j ty cs ro hj hz hjn=>?_) (fun j hj hz=>?_)
    ·exact k6 j (Own.lt hj) (fun e=>hz (.inr (.inl e))) fun i hi' e=>hz (.inr (.inr (by rw [e]; exact hi')))
    ·rintro (h | h | h)
     ·exact hz (.inl h)
     ·exact hz (.inr (.inl h))
     ·cases h; omega
   ·rw [← List.append_assoc]; exact R2.st.cl
   ·rw [← List.append_assoc]; exact R2.st.ar
   ·rw [← List.append_assoc]; exact R2.st.sin
   ·rcases List.mem_append.1 hx with hx | hx
    ·obtain ⟨x1,q',hq',hsub⟩:=W.new x hx
     exact ⟨x1,q',List.mem_append_left _ hq',hsub.agree R2.ag W.st.cl (W.qN q' hq')⟩
    ·obtain ⟨x1,hsub⟩:=R2.new x hx
     exact ⟨by omega,q,by simp,hsub⟩
   ·rcases List.mem_append.1 hx with hx | hx
    ·have hh:=(R2.ag x (List.mem_append_right _ hx)).1
     rw [hh] at hxv ⊢
     exact inc _ (W.var x hx hxv)
    ·exact R2.var x hx hxv
   ·obtain ⟨r1,hr1⟩:=W.ext
    obtain ⟨r2,hr2⟩:=R2.ext
    exact ⟨r1 ++ r2,by rw [hr2,hr1,List.append_assoc]⟩
  ·apply Zdu.A7x0i
   have hgl:g=t.ps.length:=by omega
   have hqt:qs.length=t.ps.length:=by omega
   have hoN:h1.length ∉ N ++ L1:=fun hn=>by
    rcases List.mem_append.1 hn with hn | hn
    ·have:=hNlt _ hn; omega
    ·have:=(W.new _ hn).1; omega
   have ag1:GAg (N ++ L1) G1 (Zqn G1 h1.length t.hd qs):=Zzr hoN
   have ghd:(Zqn G1 h1.length t.hd qs).hd h1.length=t.hd:=by simp [Zqn]
   have gps:(Zqn G1 h1.length t.hd qs).ps h1.length=qs:=by simp [Zqn]
   refine ⟨h1.length,Zqn G1 h1.length t.hd qs,L1 ++ [h1.length],sc1,rfl,W.fr,⟨?_,?_,?_,W.st.map,fun p hp=>?_⟩,W.ag.trans ag1 (fun n hn=>List.mem_append_left _ hn),fun x hx=>?_,fun x hx hxv=>?_,W.ext,by simp,?_⟩
   ·rw [← List.append_assoc]
    refine W.st.gh.add (.inr (.inl rfl)) (fun z hz=>.inl hz) hoN W.out (W.vec.row (by simp)) (fun j o' h0 ha=>⟨fun hj=>?_,?_,fun hz=>?_⟩)
    ·obtain ⟨_,_,_,hnn,_⟩:=W.st.gh.node j hj
     exact Yic hnn (W.vec.ptr ha).2 rfl
    ·have h00:=(W.vec.ptr ha).1
     subst h00
     have:=W.low j ha; omega
    ·have h00:=(W.vec.ptr ha).1
     subst h00
     have:=W.low j ha
     have:=hZ j hz; omega
   ·intro n hn p hp
    rw [← List.append_assoc] at hn ⊢
    rcases List.mem_append.1 hn with hn | hn
    ·rw [(ag1 n hn).2] at hp; exact List.mem_append_left _ (W.st.cl n hn p hp)
    ·rw [List.mem_singleton.1 hn,gps] at hp; exact List.mem_append_left _ (W.qN p hp)
   ·intro n hn
    rw [← List.append_assoc] at hn
    rcases List.mem_append.1 hn with hn | hn
    ·rw [(ag1 n hn).1,(ag1 n hn).2]; exact W.st.ar n hn
    ·rw [List.mem_singleton.1 hn,ghd,gps,har,hqt]
   ·obtain ⟨q1,q2,q3,q4⟩:=W.st.sin p hp
    exact ⟨by rw [← List.append_assoc]; exact List.mem_append_left _ q1,by rw [(ag1 _ q1).1]; exact q2,q3,q4⟩
   ·rcases List.mem_append.1 hx with hx | hx
    ·obtain ⟨x1,q',hq',hsub⟩:=W.new x hx
     exact ⟨by omega,.part (by rw [gps]; exact hq') (hsub.agree ag1 W.st.cl (W.qN q' hq'))⟩
    ·rw [List.mem_singleton.1 hx]; exact ⟨Nat.le_refl _,.refl⟩
   ·rcases List.mem_append.1 hx with hx | hx
    ·rw [(ag1 x (List.mem_append_right _ hx)).1] at hxv ⊢
     exact W.var x hx hxv
    ·rw [List.mem_singleton.1 hx,ghd] at hxv
     rw [hvar] at hxv; cases hxv
   ·have hraw:∀ (i q:Nat) (x:Ty),qs[i]?=some q→t.ps[i]?=some x→Raw (Zqn G1 h1.length t.hd qs) (Zqn G1 h1.length t.hd qs).hd q x:=fun i q x hq hx=>
     (W.raw i q x hq hx).agree ag1 W.st.cl (fun y hy=>(ag1 y hy).1) (W.qN _ (List.mem_of_getElem? hq))
    have hvo:Zbc ((Zqn G1 h1.length t.hd qs).hd h1.length)=false:=by rw [ghd]; exact hvar
    cases t with
    | k c=>
     have hq0:qs=[]:=List.eq_nil_of_length_eq_zero hqt
     have:=Raw.cst (nu:=(Zqn G1 h1.length (Ty.k c).hd qs).hd) hvo (by rw [gps]; exact hq0)
     rw [ghd] at this; exact this
    | u c x=>
     obtain ⟨q,rfl⟩:=List.length_eq_one_iff.1 (show qs.length=1 from hqt)
     ·have:=Raw.one (nu:=(Zqn G1 h1.length (Ty.u c x).hd [q]).hd) hvo gps (hraw 0 q x rfl rfl)
      rw [ghd] at this; exact this
    | w c x y=>
     obtain ⟨q,q',rfl⟩:∃ q q',qs=[q,q']:=by
      match qs,hqt with
      | [q,q'],_=>exact ⟨q,q',rfl⟩
     ·have:=Raw.two (nu:=(Zqn G1 h1.length (Ty.w c x y).hd [q,q']).hd) hvo gps (hraw 0 q x rfl rfl) (hraw 1 q' y rfl rfl)
      rw [ghd] at this; exact this
end Go.Sim

set_option linter.unusedVariables false
set_option linter.unusedSimpArgs false
set_option maxRecDepth 20000
namespace Go.Sim
open Go Go.RowKit

section
variable {h h':Zaa} {mi:Nat} {G G':Gr} {N L:List Nat} {sc sc':List (Nat × Nat)} {Z Z':Nat→Prop} {lk:Nat→Option Nat}
theorem ShS.same (st:ShS h mi G N sc Z) (s:Zbb h.length h h'):ShS h' mi G N sc Z:=by
 obtain ⟨es,k,hm,_⟩:=id st.map
 exact ⟨st.gh.same s,st.cl,st.ar,st.map.eq (s.eq mi (Own.lt hm)),st.sin⟩
theorem Yby {s:List Nat} {T:Ty} (hs:Zjb s=some T) (st:ShS h mi G N sc Z) (hZ:∀ z,Z z→z < h.length) :
  Zad pg Zkr [.str s,.map (some mi)] h fun v h'=>∃ q G' L sc',v=.ptr (some (q,0))∧ShR h mi G N sc Z T q h' G' L sc':=by
 obtain ⟨h1,h2,h3⟩:=Zim.1 hs
 obtain ⟨es,k,hm,_⟩:=id st.map
 have hml:=Own.lt hm
 apply Zrl.call
 refine (Zsu s.length s (Nat.le_refl _) h).mono ?_
 rintro v g1 ⟨s1,p,r,rfl,hres⟩
 have ho:Zga s T []:=⟨h1,by rw [h2]; simp⟩
 rcases hres with ⟨t,ho',hn⟩ | ⟨_,hno⟩
 ·obtain ⟨rfl,rfl⟩:=ho'.unique ho
  simp only [Zdw,Zak,Zdj,Zap,Zar]
  have l1:=s1.le
  refine (Yiy _ (Nat.le_refl _) h1 hn (fun j hj=>by have:=hj.1; omega) (st.same s1) (fun z hz=>by have:=hZ z hz; omega)).mono ?_
  rintro v g2 ⟨q,G',L,sc',rfl,R⟩
  simp only [Zdj]
  exact ⟨q,G',L,sc',rfl,⟨(Ycf s1).trans R.fr,R.st,R.ag,fun x hx=>⟨by have:=(R.new x hx).1; omega,(R.new x hx).2⟩,R.var,R.ext,R.qN,R.raw⟩⟩
 ·exact absurd ho (hno T [])
theorem ShS.gok (st:ShS h mi G N sc Z):GOk G N (fun _=>none):=⟨st.cl,st.ar,fun n m _ h=>(by cases h),fun n _=>⟨0,n,.refl,rfl⟩⟩
theorem Raw.under (g:GOk G N lk) {nu:Nat→Nat} {q x:Nat} (s:Sub G q x):q∈N→∀ {t:Ty},Raw G nu q t→∃ t',Raw G nu x t':=by
 induction s with
 | refl=>exact fun _ t r=>⟨_,r⟩
 | @part n p x hp _ ih=>
  intro hn t r
  have hpN:=g.par n hn p hp
  cases r with
  | var hv=>rw [g.var_ps hn hv] at hp; cases hp
  | cst h1 h2=>rw [h2] at hp; cases hp
  | one h1 h2 h3=>rw [h2] at hp; simp at hp; subst hp; exact ih hpN h3
  | two h1 h2 h3 h4=>
   rw [h2] at hp; simp at hp
   rcases hp with rfl | rfl
   ·exact ih hpN h3
   ·exact ih hpN h4
theorem ShS.nil (hm:h[mi]?=some (.map [] 0)) (G:Gr) (Z:Nat→Prop):ShS h mi G [] [] Z:=
 ⟨⟨fun n hn=>(by cases hn)⟩,fun n hn=>(by cases hn),fun n hn=>(by cases hn),⟨[],0,hm,rfl,rfl,by simp,by simp⟩,fun p hp=>(by cases hp)⟩
end
theorem Zzw (s t:List Nat) (h:Zaa):Zad pg Zgh [.str s,.str t] h fun v h'=>v=.bool (Zme s t)∧Zbb h.length h h':=by
 apply Zki.call
 refine (Zky s h).mono ?_
 rintro v h1 ⟨rfl,s1⟩
 simp only [Zah]
 refine Zck (fun hn=>⟨by rw [Zsc (by rw [hn]; rfl)],s1⟩) (fun hs=>?_)
 refine (Zky t h1).mono ?_
 rintro v h2 ⟨rfl,s2⟩
 simp only [Zah]
 have S2:=s1.cat s2
 refine Zck (fun hn=>⟨by rw [Zsc (by rw [hn]; simp)],S2⟩) (fun ht=>?_)
 obtain ⟨a,ha⟩:=Zxh hs
 obtain ⟨b,hb⟩:=Zxh ht
 obtain ⟨a1,a2,a3⟩:=Zim.1 ha
 obtain ⟨b1,b2,b3⟩:=Zim.1 hb
 apply Zki.J3i
 simp only [Zba]
 generalize hh3:h2 ++ [Zcp.map [] 0]=h3
 have s3:Zbb h2.length h2 h3:=by rw [← hh3]; exact Zav
 have m3:h3[h2.length]?=some (.map [] 0):=by rw [← hh3]; simp
 have l3:h3.length=h2.length + 1:=by rw [← hh3]; simp
 have hl2:=S2.le
 refine (Yby ha (ShS.nil m3 ⟨fun _=>0,fun _=>[]⟩ fun _=>False) (fun z hz=>hz.elim)).mono ?_
 rintro v h4 ⟨q1,G1,L1,sc1,rfl,R1⟩
 simp only [Zdj]
 have l4:=R1.fr.le
 generalize hh5:h4 ++ [Zcp.map [] 0]=h5
 have s5:Zbb h4.length h4 h5:=by rw [← hh5]; exact Zav
 have m5:h5[h4.length]?=some (.map [] 0):=by rw [← hh5]; simp
 have l5:h5.length=h4.length + 1:=by rw [← hh5]; simp
 refine (Yby hb (ShS.nil m5 ⟨fun _=>0,fun _=>[]⟩ fun z=>z < h5.length) (fun z hz=>hz)).mono ?_
 rintro v h6 ⟨q2,G2,L2,sc2,rfl,R2⟩
 simp only [Zdj]
 have l6:=R2.fr.le
 have st1:=R1.st
 have st2:=R2.st
 simp only [List.nil_append] at st1 st2
 have S6:Zbb h.length h h6:=⟨by omega,fun j hj=>by
  rw [R2.fr.eq j (by omega) (by omega),s5.eq j (by omega),R1.fr.eq j (by omega) (by omega),s3.eq j (by omega)]; exact S2.eq j hj⟩
 have q1N:q1∈L1:=by simpa using R1.qN
 have q2N:q2∈L2:=by simpa using R2.qN
 have lo1:∀ x∈L1,x < h4.length:=fun x hx=>st1.gh.lt hx
 have lo2:∀ x∈L2,h5.length≤x:=fun x hx=>(R2.new x hx).1
 have dis:∀ x∈L1,x ∉ L2:=fun x hx hx2=>by have:=lo1 x hx; have:=lo2 x hx2; omega
 -- both graphs as one
 let G:Gr:=⟨fun n=>if n∈L1 then G1.hd n else G2.hd n,fun n=>if n∈L1 then G1.ps n else G2.ps n⟩
 have ag1:GAg L1 G1 G:=fun n hn=>by simp [G,hn]
 have ag2:GAg L2 G2 G:=fun n hn=>by
  have:n ∉ L1:=fun h=>dis n h hn
  simp [G,this]
 have k56:∀ j,j < h4.length→h6[j]?=h4[j]?:=fun j hj=>by rw [R2.fr.eq j (by omega) (by omega)]; exact s5.eq j hj
 have g1:GH h6 G L1 (fun _=>none) (fun z=>h4.length≤z):=(st1.gh.re (by omega) (fun n hn=>k56 n (lo1 n hn)) (fun j t cs ro hj _ _=>k56 j (Own.lt hj)) (fun j hj _=>by omega)).ag ag1
 have g2:GH h6 G L2 (fun _=>none) (fun z=>z < h5.length):=st2.gh.ag ag2
 have g:GH h6 G (L1 ++ L2) (fun _=>none) (fun _=>False):=by
  refine ⟨fun n hn=>?_⟩
  rcases List.mem_append.1 hn with hn | hn
  ·obtain ⟨pa,c,e,hi,hr,hd⟩:=g1.node n hn
   refine ⟨pa,c,e,hi,hr,fun j o h0 hj=>⟨fun hjm=>?_,fun h=>h.elim⟩⟩
   obtain ⟨d1,d2⟩:=hd j o h0 hj
   rcases List.mem_append.1 hjm with hjm | hjm
   ·exact d1 hjm
   ·have:=lo2 j hjm; omega
  ·obtain ⟨pa,c,e,hi,hr,hd⟩:=g2.node n hn
   refine ⟨pa,c,e,hi,hr,fun j o h0 hj=>⟨fun hjm=>?_,fun h=>h.elim⟩⟩
   obtain ⟨d1,d2⟩:=hd j o h0 hj
   rcases List.mem_append.1 hjm with hjm | hjm
   ·have:=lo1 j hjm; omega
   ·exact d1 hjm
 have cl1:GCl G L1:=fun n hn p hp=>by rw [(ag1 n hn).2] at hp; exact st1.cl n hn p hp
 have cl2:GCl G L2:=fun n hn p hp=>by rw [(ag2 n hn).2] at hp; exact st2.cl n hn p hp
 have ok:GOk G (L1 ++ L2) (fun _=>none):=by
  refine ⟨fun n hn p hp=>?_,fun n hn=>?_,fun n m _ h=>(by cases h),fun n _=>⟨0,n,.refl,rfl⟩⟩
  ·rcases List.mem_append.1 hn with hn | hn
   ·exact List.mem_append_left _ (cl1 n hn p hp)
   ·exact List.mem_append_right _ (cl2 n hn p hp)
  ·rcases List.mem_append.1 hn with hn | hn
   ·rw [(ag1 n hn).1,(ag1 n hn).2]; exact st1.ar n hn
   ·rw [(ag2 n hn).1,(ag2 n hn).2]; exact st2.ar n hn
 let nu:Nat→Nat:=fun n=>if n∈L1 then G.hd n else Ydj (G.hd n)
 have nu1:∀ n∈L1,nu n=G.hd n:=fun n hn=>by simp [nu,hn]
 have nu2:∀ n∈L2,nu n=Ydj (G.hd n):=fun n hn=>by
  have:n ∉ L1:=fun h=>dis n h hn
  simp [nu,this]
 have letter:∀ n∈L1 ++ L2,Zrv (G.hd n)=false:=fun n hn=>by
  have h0:=ok.ar n hn
  cases ho:Zrv (G.hd n) with
  | false=>rfl
  | true=>
   exfalso
   generalize G.hd n=c at h0 ho
   simp only [Zrv,decide_eq_true_eq] at ho
   unfold arN Zfi Zbc at h0
   simp only [Bool.or_eq_true,beq_iff_eq] at h0
   split at h0
   ·omega
   ·split at h0
    ·omega
    ·split at h0 <;> omega
 have nv:Ymp G (L1 ++ L2) nu V12:=by
  refine ⟨fun n hn hv=>?_,fun n hn hv=>by simp [V12,hv,letter n hn],fun n hn m hm hv hv' he=>?_⟩
  ·rcases List.mem_append.1 hn with hn | hn
   ·rw [nu1 n hn]; simp [V12,hv]
   ·rw [nu2 n hn]; simp [V12,(Zmw hv).2.1]
  ·rcases List.mem_append.1 hn with hn | hn <;> rcases List.mem_append.1 hm with hm | hm
   ·rw [nu1 n hn,nu1 m hm] at he
    rw [(ag1 n hn).1] at hv he
    rw [(ag1 m hm).1] at hv' he
    have e1:=(st1.sin _ (R1.var n hn hv)).2.2.2
    have e2:=(st1.sin _ (R1.var m hm hv')).2.2.2
    simp only at e1 e2
    rw [he,e2] at e1; exact (Option.some.inj e1).symm
   ·rw [nu1 n hn,nu2 m hm] at he
    have:=(Zmw hv').2.2
    rw [← he,hv] at this; cases this
   ·rw [nu2 n hn,nu1 m hm] at he
    have:=(Zmw hv).2.2
    rw [he,hv'] at this; cases this
   ·rw [nu2 n hn,nu2 m hm] at he
    have he:=Yli hv hv' he
    rw [(ag2 n hn).1] at hv he
    rw [(ag2 m hm).1] at hv' he
    have e1:=(st2.sin _ (R2.var n hn hv)).2.2.2
    have e2:=(st2.sin _ (R2.var m hm hv')).2.2.2
    simp only at e1 e2
    rw [he,e2] at e1; exact (Option.some.inj e1).symm
 have ra:Raw G nu q1 a:=R1.raw.agree ag1 st1.cl (fun x hx=>by rw [nu1 x hx,(ag1 x hx).1]) q1N
 have rb:Raw G nu q2 (Zpj b):=by
  have r0:Raw G G.hd q2 b:=R2.raw.agree ag2 st2.cl (fun x hx=>(ag2 x hx).1) q2N
  exact r0.oth cl2 (fun x hx _=>nu2 x hx) q2N
 have sb1:∀ x∈L1,Sub G q1 x:=fun x hx=>(R1.new x hx).2.agree ag1 st1.cl q1N
 have sb2:∀ x∈L2,Sub G q2 x:=fun x hx=>(R2.new x hx).2.agree ag2 st2.cl q2N
 have w:Two G (L1 ++ L2) nu V12 q1 q2 a (Zpj b):=by
  refine ⟨by simp [q1N],by simp [q2N],nv,ra,rb,fun n hn=>?_,fun x hx=>?_⟩
  ·rcases List.mem_append.1 hn with hn | hn
   ·exact ra.under ok (sb1 n hn) (by simp [q1N])
   ·exact rb.under ok (sb2 n hn) (by simp [q2N])
  ·rcases List.mem_append.1 hx with hx | hx
   ·exact .inl (sb1 x hx)
   ·exact .inr (sb2 x hx)
 have hap:Zme s t=true ↔ ¬ ∃ θ:Nat→Ty,sb V12 θ a=sb V12 θ (Zpj b):=by
  rw [Ybq a1 b1]
  unfold Zme; rw [ha,hb]; simp
 refine (Yjm _ (Nat.le_refl _) g ok (by simp [q1N]) (by simp [q2N])).mono ?_
 rintro v h7 ⟨o7,hr7⟩
 have S7:Zbb h.length h h7:=⟨by have:=o7.1; omega,fun j hj=>by
  rw [o7.2 j (by omega) fun hj'=>by
   rcases List.mem_append.1 hj' with hj' | hj'
   ·have:=(R1.new j hj').1; omega
   ·have:=lo2 j hj'; omega]
  exact S6.eq j hj⟩
 rcases hr7 with ⟨rfl,lk',y,g7⟩ | ⟨rfl,no⟩
 ·simp only [Zah,Bool.not_true,Zay]
  refine (Ymu y.gok g7 (show q1∈L1 ++ L2 by simp [q1N])).mono ?_
  rintro v h8 ⟨s8,⟨rfl,hno⟩ | ⟨rfl,hT⟩⟩
  ·simp only [Zah,Bool.not_false]
   refine ⟨?_,S7.cat s8⟩
   rw [hap.2 (w.endless y hno)]
  ·simp only [Zah,Bool.not_true]
   refine ⟨?_,S7.cat s8⟩
   obtain ⟨T,hT⟩:=hT nu
   have hs:=w.sol y hT
   have:Zme s t=false:=by
    cases hq:Zme s t with
    | false=>rfl
    | true=>exact absurd ⟨_,hs.1.trans hs.2.symm⟩ (hap.1 hq)
   rw [this]
 ·simp only [Zah,Bool.not_false,Zcs]
  exact ⟨by rw [hap.2 (w.no no)],S7⟩
end Go.Sim

set_option linter.unusedVariables false
set_option linter.unusedSimpArgs false
set_option maxRecDepth 20000
namespace Go.Sim
open Go Go.RowKit

end Go.Sim

set_option linter.unusedVariables false
set_option linter.unusedSimpArgs false
set_option maxRecDepth 20000
namespace Go.Sim
open Go Go.RowKit

end Go.Sim

set_option linter.unusedVariables false
set_option linter.unusedSimpArgs false
set_option maxRecDepth 20000
namespace Go.Sim
open Go Go.RowKit

end Go.Sim

set_option linter.unusedSimpArgs false
set_option linter.unusedVariables false
namespace Go.Sim

def Up (cs:List Nd) (a b:Nat):Prop:=∃ i,∃ h:i < cs.length,cs[i].1=[a]∧b∈cs[i].2
inductive Rch (cs:List Nd) (a:Nat):Nat→Prop
 | one {b:Nat}:Up cs a b→Rch cs a b
 | more {b c:Nat}:Rch cs a b→Up cs b c→Rch cs a c
theorem Zwm {cs:List Nd} (h:Zic cs=true) {i:Nat} (hi:i < cs.length):Zue cs i=true:=by
 unfold Zic at h
 simp only [Bool.and_eq_true,List.all_eq_true] at h
 exact h.1 i (List.mem_range.2 hi)
theorem Yjy {cs:List Nd} (h:Zic cs=true) {i:Nat} (hi:i < cs.length):∃ d,cs[i].1=[d]∧65≤d∧d≤84:=by
 have:=Zwm h hi
 unfold Zue at this
 rw [Zio hi] at this
 simp only [Bool.and_eq_true] at this
 have h1:=this.1.1
 unfold Zry at h1
 split at h1
 ·rename_i d hd; exact ⟨d,hd,by simpa using h1⟩
 ·cases h1
theorem Zzf {cs:List Nd} (h:Zic cs=true) {i:Nat} (hi:i + 1 < cs.length) {a b:Nat} (ha:cs[i].1=[a]) (hb:cs[i + 1].1=[b]):a < b:=by
 have:=Zwm h hi
 unfold Zue at this
 rw [Zio hi,Nat.add_sub_cancel,Zio (by omega),ha,hb] at this
 simp only [Bool.and_eq_true] at this
 have h1:=this.1.2
 simpa [Zdy] using h1
theorem Zxa {cs:List Nd} (h:Zic cs=true):∀ (k i:Nat) (hi:i + k + 1 < cs.length) {a b:Nat},cs[i].1=[a]→cs[i + k + 1].1=[b]→a < b
 | 0,i,hi,a,b,ha,hb=>Zzf h hi ha hb
 | k + 1,i,hi,a,b,ha,hb=>by
  obtain ⟨d,hd,_⟩:=Yjy h (show i + k + 1 < cs.length by omega)
  have h1:=Zxa h k i (by omega) ha hd
  have h2:=Zzf h (i:=i + k + 1) (by omega) hd hb
  omega
theorem Zwa {cs:List Nd} (h:Zic cs=true) {i j:Nat} (hi:i < cs.length) (hj:j < cs.length) {a:Nat} (ha:cs[i].1=[a]) (hb:cs[j].1=[a]):i=j:=by
 rcases Nat.lt_trichotomy i j with hl | he | hl
 ·obtain ⟨k,rfl⟩:∃ k,j=i + k + 1:=⟨j - i - 1,by omega⟩
  have:=Zxa h k i hj ha hb; omega
 ·exact he
 ·obtain ⟨k,rfl⟩:∃ k,i=j + k + 1:=⟨i - j - 1,by omega⟩
  have:=Zxa h k j hi hb ha; omega
theorem Znz {cs:List Nd} (h:Zic cs=true) {i:Nat} (hi:i < cs.length) {b:Nat} (hb:b∈cs[i].2):∃ j,∃ hj:j < i,cs[j].1=[b]:=by
 have:=Zwm h hi
 unfold Zue at this
 rw [Zio hi] at this
 simp only [Bool.and_eq_true] at this
 have h1:=this.2
 unfold Zyo at h1
 rw [List.all_eq_true] at h1
 obtain ⟨k,hk,rfl⟩:=List.mem_iff_getElem.1 hb
 have h2:=h1 k (List.mem_range.2 hk)
 unfold Zul at h2
 rw [Zio hk] at h2
 simp only [Bool.and_eq_true] at h2
 have h3:=h2.1
 unfold Zhe at h3
 rw [List.any_eq_true] at h3
 obtain ⟨x,hx,he⟩:=h3
 obtain ⟨j,hj,rfl⟩:=List.mem_iff_getElem.1 hx
 rw [List.length_take] at hj
 exact ⟨j,by omega,by simpa using he⟩
theorem Up.ix {cs:List Nd} (h:Zic cs=true) {a b i:Nat} (u:Up cs a b) (hi:i < cs.length) (ha:cs[i].1=[a]):b∈cs[i].2:=by
 obtain ⟨j,hj,hja,hb⟩:=u
 have:=Zwa h hi hj ha hja
 subst this; exact hb
theorem Rch.ix {cs:List Nd} (h:Zic cs=true) {a b i:Nat} (r:Rch cs a b) (hi:i < cs.length) (ha:cs[i].1=[a]):∃ j,∃ hj:j < i,cs[j].1=[b]:=by
 induction r with
 | one u=>exact Znz h hi (u.ix h hi ha)
 | more _ u ih=>
  obtain ⟨j,hj,hb⟩:=ih
  obtain ⟨k,hk,hc⟩:=Znz h (show j < cs.length by omega) (u.ix h (by omega) hb)
  exact ⟨k,by omega,hc⟩
structure Zug (cs:List Nd) (a:Nat) (i:Nat) (ab:List Nat):Prop where
 sound:∀ d∈ab,Rch cs a d
 done:∀ j,i≤j→∀ hj:j < cs.length,(cs[j].1=[a] ∨ ∃ d,cs[j].1=[d]∧d∈ab)→∀ b∈cs[j].2,b∈ab
theorem Zug.start {cs:List Nd} {a:Nat}:Zug cs a cs.length []:=⟨by simp,fun j h1 h2=>by omega⟩
theorem Zug.step {cs:List Nd} (h:Zic cs=true) {a i:Nat} {ab:List Nat} (D:Zug cs a (i + 1) ab) (hi:i < cs.length) (hc:cs[i].1=[a] ∨ ∃ d,cs[i].1=[d]∧d∈ab):Zug cs a i (ab ++ cs[i].2):=by
 refine ⟨fun d hd=>?_,fun j hj hjl hcj b hb=>?_⟩
 ·rcases List.mem_append.1 hd with hd | hd
  ·exact D.sound d hd
  ·rcases hc with hc | ⟨e,he,hm⟩
   ·exact .one ⟨i,hi,hc,hd⟩
   ·exact .more (D.sound e hm) ⟨i,hi,he,hd⟩
 ·by_cases hji:j=i
  ·subst hji; exact List.mem_append_right _ hb
  ·refine List.mem_append_left _ (D.done j (by omega) hjl ?_ b hb)
   rcases hcj with hcj | ⟨e,he,hm⟩
   ·exact .inl hcj
   ·rcases List.mem_append.1 hm with hm | hm
    ·exact .inr ⟨e,he,hm⟩
    ·exfalso
     obtain ⟨k,hk,hke⟩:=Znz h hi hm
     have:=Zwa h hjl (show k < cs.length by omega) he hke
     omega
theorem Zug.skip {cs:List Nd} {a i:Nat} {ab:List Nat} (D:Zug cs a (i + 1) ab) (hc:∀ hi:i < cs.length,¬ (cs[i].1=[a] ∨ ∃ d,cs[i].1=[d]∧d∈ab)):Zug cs a i ab:=
 ⟨D.sound,fun j hj hjl hcj b hb=>by
  by_cases hji:j=i
  ·subst hji; exact absurd hcj (hc hjl)
  ·exact D.done j (by omega) hjl hcj b hb⟩
theorem Zug.all {cs:List Nd} (h:Zic cs=true) {a i:Nat} {ab:List Nat} (D:Zug cs a 0 ab) (hi:i < cs.length) (ha:cs[i].1=[a]) (d:Nat):d∈ab ↔ Rch cs a d:=by
 refine ⟨D.sound d,fun r=>?_⟩
 induction r with
 | one u=>exact D.done i (by omega) hi (.inl ha) _ (u.ix h hi ha)
 | more r u ih=>
  obtain ⟨j,hj,hb⟩:=r.ix h hi ha
  exact D.done j (by omega) (by omega) (.inr ⟨_,hb,ih⟩) _ (u.ix h (by omega) hb)
structure Ymm (cs:List Nd) (a i:Nat) (r:Nat) (ab:List Nat):Prop where
 sound:∀ d∈ab,Rch cs a d
 first:∀ d,Up cs a d→d∈ab
 near:∀ j,j < i→i≤j + 1 + r→∀ hj:j < cs.length,∀ d,cs[j].1=[d]→Rch cs a d→d∈ab
theorem Ymm.start {cs:List Nd} (h:Zic cs=true) {a i:Nat} (hi:i < cs.length) (ha:cs[i].1=[a]):Ymm cs a i 0 cs[i].2:=by
 refine ⟨fun d hd=>.one ⟨i,hi,ha,hd⟩,fun d u=>u.ix h hi ha,fun j hj hn hjl d hd r=>?_⟩
 cases r with
 | one u=>exact u.ix h hi ha
 | more r u=>
  obtain ⟨k,hk,hb⟩:=r.ix h hi ha
  obtain ⟨q,hq,hc⟩:=Znz h (show k < cs.length by omega) (u.ix h (by omega) hb)
  have:=Zwa h hjl (show q < cs.length by omega) hd hc
  omega
theorem Ymm.next {cs:List Nd} (h:Zic cs=true) {a i r:Nat} {ab ab':List Nat} (R:Ymm cs a i r ab) (hi:i < cs.length) (ha:cs[i].1=[a])
  (hs:∀ d∈ab',d∈ab ∨ ∃ e∈ab,Up cs e d) (hc:∀ d,(d∈ab ∨ ∃ e∈ab,Up cs e d)→d∈ab'):Ymm cs a i (r + 1) ab':=by
 refine ⟨fun d hd=>?_,fun d u=>hc d (.inl (R.first d u)),fun j hj hn hjl d hd rc=>?_⟩
 ·rcases hs d hd with hd | ⟨e,he,u⟩
  ·exact R.sound d hd
  ·exact .more (R.sound e he) u
 ·cases rc with
  | one u=>exact hc d (.inl (R.first d u))
  | more rc u=>
   rename_i e
   obtain ⟨k,hk,hb⟩:=rc.ix h hi ha
   have hjk:j < k:=by
    obtain ⟨q,hq,hcq⟩:=Znz h (show k < cs.length by omega) (u.ix h (by omega) hb)
    have:=Zwa h hjl (show q < cs.length by omega) hd hcq
    omega
   exact hc d (.inr ⟨e,R.near k hk (by omega) (by omega) e hb rc,u⟩)
theorem Ymm.all {cs:List Nd} (h:Zic cs=true) {a i r:Nat} {ab:List Nat} (R:Ymm cs a i r ab) (hi:i < cs.length) (ha:cs[i].1=[a]) (hr:i≤r + 1) (d:Nat):d∈ab ↔ Rch cs a d:=by
 refine ⟨R.sound d,fun rc=>?_⟩
 obtain ⟨j,hj,hd⟩:=rc.ix h hi ha
 exact R.near j hj (by omega) (by omega) d hd rc
end Go.Sim

set_option linter.unusedVariables false
set_option linter.unusedSimpArgs false
set_option maxRecDepth 20000
namespace Go.Sim
open Go Go.RowKit

end Go.Sim

set_option linter.unusedVariables false
set_option linter.unusedSimpArgs false
set_option maxRecDepth 20000
namespace Go.Sim
open Go Go.RowKit

end Go.Sim

set_option linter.unusedVariables false
set_option linter.unusedSimpArgs false
set_option maxRecDepth 20000
namespace Go.Sim
open Go Go.RowKit

structure Yno (b:Nat) (h:Zaa) (a:Pt) (n c:Nat) (l:List Nd):Prop where
 vec:Vec Zbl h a n c (Zdo eP l)
 len:l.length=n
 low:∀ i,a=some (i,0)→b≤i
 cap:n≤c
theorem Yno.row {b:Nat} {h:Zaa} {a:Pt} {n c:Nat} {l:List Nd} (f:Yno b h a n c l):Row h.length h a (n * 2) (Zdo eP l):=f.vec.row (by rw [Zbg Zha,f.len])
theorem Yno.same {b:Nat} {h h':Zaa} {a:Pt} {n c:Nat} {l:List Nd} (f:Yno b h a n c l) (s:Zbb h.length h h'):Yno b h' a n c l:=⟨f.vec.same s,f.len,f.low,f.cap⟩
def But (a:Pt) (h h':Zaa):Prop:=h.length≤h'.length∧∀ j,j < h.length→(∀ i,a=some (i,0)→j≠i)→h'[j]?=h[j]?
theorem But.of {a:Pt} {h h':Zaa} (s:Zbb h.length h h'):But a h h':=⟨s.le,fun j hj _=>s.eq j hj⟩
theorem But.below {a:Pt} {b:Nat} {h h':Zaa} (s:But a h h') (hb:b≤h.length) (hl:∀ i,a=some (i,0)→b≤i):Zbb b h h':=⟨s.1,fun j hj=>s.2 j (by omega) fun i hi=>by have:=hl i hi; omega⟩
end Go.Sim

set_option linter.unusedSimpArgs false
set_option linter.unusedVariables false
namespace Go.Sim

structure Wk where
 cand:Nd→List Int
 needs:Int→List Nat→Option (List Nd)
 most:List Int→Int
inductive Fnd where
 | ok (s:List Nat)
 | no (why:List Nat) (n:Nd)
end Go.Sim

set_option linter.unusedVariables false
set_option linter.unusedSimpArgs false
set_option maxRecDepth 20000
namespace Go.Sim
open Go Go.RowKit

noncomputable def wk (w:Wd):Wk:=⟨Yov w,fun x t=>Yoj (Yma w x) t,Ypj w⟩
structure FrS (i:Nat) (qa:Pt) (h h':Zaa) (qa':Pt):Prop where
 le:h.length≤h'.length
 eq:∀ j,j < h.length→j≠i→(∀ q,qa=some (q,0)→j≠q)→h'[j]?=h[j]?
 pt:qa'=qa ∨ ∀ q,qa'=some (q,0)→h.length≤q
theorem FrS.of_same {i:Nat} {qa:Pt} {h h':Zaa} (s:Zbb h.length h h'):FrS i qa h h' qa:=⟨s.le,fun j hj _ _=>s.eq j hj,.inl rfl⟩
theorem FrS.refl (i:Nat) (qa:Pt) (h:Zaa):FrS i qa h h qa:=.of_same (Zbb.refl _ _)
theorem FrS.ne {i:Nat} {qa qa':Pt} {h h':Zaa} (f:FrS i qa h h' qa') {j:Nat} (hj:j < h.length) (hq:∀ q,qa=some (q,0)→j≠q):∀ q,qa'=some (q,0)→j≠q:=by
 intro q hq'
 rcases f.pt with e | e
 ·exact hq q (e ▸ hq')
 ·have:=e q hq'; omega
theorem FrS.trans {i:Nat} {qa qa1 qa2:Pt} {h h1 h2:Zaa} (f:FrS i qa h h1 qa1) (g:FrS i qa1 h1 h2 qa2):FrS i qa h h2 qa2:=by
 have:=f.le; have:=g.le
 refine ⟨by omega,fun j hj hi hq=>?_,?_⟩
 ·rw [g.eq j (by omega) hi (f.ne hj hq)]; exact f.eq j hj hi hq
 ·rcases g.pt with e | e
  ·rcases f.pt with e' | e'
   ·exact .inl (e.trans e')
   ·exact .inr fun q hq=>e' q (e ▸ hq)
  ·exact .inr fun q hq=>by have:=e q hq; omega
theorem FrS.set {i:Nat} {qa:Pt} {h:Zaa} {x:Zcp}:FrS i qa h (h.set i x) qa:=⟨by simp,fun j _ hi _=>Zbv (fun e=>hi e.symm),.inl rfl⟩
theorem FrS.get {i:Nat} {qa qa':Pt} {h h':Zaa} (f:FrS i qa h h' qa') {j:Nat} {x:Zcp} (hj:h[j]?=some x) (hi:j≠i) (hq:∀ q,qa=some (q,0)→j≠q):h'[j]?=some x:=by rw [f.eq j (Own.lt hj) hi hq]; exact hj
theorem FrS.row {i:Nat} {qa qa':Pt} {h h':Zaa} (f:FrS i qa h h' qa') {a:Pt} {n:Nat} {cs:List Zag} (r:Row h.length h a n cs) (hn:∀ j o,n≠0→a=some (j,o)→j≠i∧∀ q,qa=some (q,0)→j≠q):Row h'.length h' a n cs:=by
 obtain ⟨hl,r⟩:=r
 by_cases h0:n=0
 ·exact ⟨hl,.inl h0⟩
 ·refine ⟨hl,r.imp id ?_⟩
  rintro ⟨j,o',t,all,ro,ha,hi,hg,x⟩
  have:=f.le
  obtain ⟨h1,h2⟩:=hn j o' h0 ha
  exact ⟨j,o',t,all,ro,ha,by omega,by rw [f.eq j hi h1 h2]; exact hg,x⟩
theorem FrS.below {i b:Nat} {qa qa':Pt} {h h':Zaa} (f:FrS i qa h h' qa') (hb:b≤h.length) (hi:b≤i) (hq:∀ q,qa=some (q,0)→b≤q):Zbb b h h':=⟨f.le,fun j hj=>f.eq j (by omega) (by omega) fun q hq'=>by have:=hq q hq'; omega⟩
end Go.Sim

set_option linter.unusedSimpArgs false
set_option linter.unusedVariables false
namespace Go.Sim

section
variable {k:Wk} {sp:Bool} {dec:Int→List Nat}
end
end Go.Sim

set_option linter.unusedVariables false
set_option linter.unusedSimpArgs false
set_option maxRecDepth 20000
namespace Go.Sim
open Go Go.RowKit

section
variable {hb:Zaa} {i:Nat} {u v:Zag} {sp:Bool} {h:Zaa} {qa:Pt} {asked:List Nd} {fl:Nd}
end
theorem Zpd {w:Wd} (h:Zhl w=true):w.is.length≤10:=by
 unfold Zhl at h
 simp only [Bool.and_eq_true,decide_eq_true_eq] at h
 exact h.1.2
end Go.Sim
