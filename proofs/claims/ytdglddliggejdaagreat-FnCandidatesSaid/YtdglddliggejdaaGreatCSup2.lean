/- A part of the proof of a statement of this seat: see the text that holds the theorem. No condition. -/
import Derived.Test.YtdglddliggejdaaGreatPTCDrawV
import Derived.Test.YtdglddliggejdaaGreatCGrT
import Derived.Test.YtdglddliggejdaaGreatCSUn5
import Derived.Test.YtdglddliggejdaaGreatCSUn
import Derived.Test.YtdglddliggejdaaGreatPTCSUn6
import Derived.Test.YtdglddliggejdaaGreatPTCIn
import Derived.Test.YtdglddliggejdaaGreatCSTy
import Derived.Test.YtdglddliggejdaaGreatCWVar2
set_option linter.unusedVariables false
set_option linter.unusedSimpArgs false
set_option linter.all false
set_option linter.unusedVariables false
set_option linter.unusedSimpArgs false
set_option maxRecDepth 20000
namespace Go.Sim
open Go Go.RowKit

theorem Yhi {i:Nat} {h h':Zaa} (s:Zbe h.length h h'):Zdp i h h':=⟨s.le,fun j hj _=>s.eq j hj⟩
theorem Ysi {h h':Zaa} {i j:Nat} {x:Zcc} (K:Zdp i h h') (hj:h[j]?=some x) (hi:j≠i):h'[j]?=some x:=by rw [K.eq j (Own.lt hj) hi]; exact hj
def Yct:List (Nat × Nat)→Nat→Option Nat
 | [],_=>none
 | (c,x) :: r,d=>if c=d then some x else Yct r d
theorem Yhz:∀ {l:List (Nat × Nat)} {c x d:Nat},Yct (l ++ [(c,x)]) d=match Yct l d with | some y=>some y | none=>if c=d then some x else none
 | [],c,x,d=>by simp [Yct]
 | (c',x') :: l,c,x,d=>by
  simp only [List.cons_append,Yct]
  by_cases e:c'=d
  ·simp [e]
  ·simp only [if_neg e,Yhz]
theorem Ygz:∀ {l:List (Nat × Nat)} {c x:Nat},Yct l c=some x→(c,x)∈l
 | [],c,x,h=>by cases h
 | (c',x') :: l,c,x,h=>by
  simp only [Yct] at h
  by_cases e:c'=c
  ·rw [if_pos e] at h; cases h; subst e; exact List.mem_cons_self
  ·rw [if_neg e] at h; exact List.mem_cons_of_mem _ (Ygz h)
theorem Ygo:∀ {l r:List (Nat × Nat)} {c x:Nat},Yct l c=some x→Yct (l ++ r) c=some x
 | [],r,c,x,h=>by cases h
 | (c',x') :: l,r,c,x,h=>by
  simp only [List.cons_append,Yct] at h ⊢
  by_cases e:c'=c
  ·rw [if_pos e] at h ⊢; exact h
  ·rw [if_neg e] at h ⊢; exact Ygo h
def Yuu (h:Zaa) (i:Nat) (sc:List (Nat × Nat)):Prop:=∃ es clk,h[i]?=some (.map es clk)∧es.map (·.1)=sc.map (fun p=>Zas.str [p.1])∧es.map (·.2.1)=sc.map (fun p=>Zas.ptr (some (p.2,0)))∧(es.map (·.2.2)).Nodup∧∀ e∈es,e.2.2 < clk
theorem Yuu.eq {h h':Zaa} {i:Nat} {sc:List (Nat × Nat)} (r:Yuu h i sc) (he:h'[i]?=h[i]?):Yuu h' i sc:=by obtain ⟨es,k,h1,x⟩:=r; exact ⟨es,k,by rw [he]; exact h1,x⟩
theorem Zvb:∀ {es:List ME} {sc:List (Nat × Nat)} {v x k:Nat},es.map (·.1)=sc.map (fun p=>Zas.str [p.1])→es.map (·.2.1)=sc.map (fun p=>Zas.ptr (some (p.2,0)))→Yct sc v=some x→∃ j,Zpy es [v] k=some (some (j,.ptr (some (x,0))))
 | _,[],v,x,k,_,_,h=>by cases h
 | [],p :: sc,v,x,k,h,_,_=>by simp at h
 | (ek,ev,eb) :: es,(w,u) :: sc,v,x,k,hk,hv,h=>by
  simp only [List.map_cons,List.cons.injEq] at hk hv
  obtain ⟨rfl,hk⟩:=hk
  obtain ⟨rfl,hv⟩:=hv
  simp only [Yct] at h
  by_cases e:w=v
  ·rw [if_pos e] at h
   cases h; subst e
   exact ⟨k,by simp [Zpy]⟩
  ·rw [if_neg e] at h
   obtain ⟨j,h1⟩:=Zvb (k:=k + 1) hk hv h
   have:¬ [v]=[w]:=fun x=>e (by simpa using x.symm)
   exact ⟨j,by simp only [Zpy,this,if_false,h1]⟩
theorem Zzw:∀ {es:List ME} {sc:List (Nat × Nat)} {v k:Nat},es.map (·.1)=sc.map (fun p=>Zas.str [p.1])→Yct sc v=none→Zpy es [v] k=some none
 | [],[],v,k,_,_=>rfl
 | [],p :: sc,v,k,h,_=>by simp at h
 | e :: es,[],v,k,h,_=>by simp at h
 | (ek,ev,eb) :: es,(w,u) :: sc,v,k,hk,h=>by
  simp only [List.map_cons,List.cons.injEq] at hk
  obtain ⟨rfl,hk⟩:=hk
  simp only [Yct] at h
  by_cases e:w=v
  ·rw [if_pos e] at h; cases h
  ·rw [if_neg e] at h
   have:¬ [v]=[w]:=fun x=>e (by simpa using x.symm)
   simp only [Zpy,this,if_false]
   exact Zzw hk h
def Zux (G:Gr) (o c:Nat) (qs:List Nat):Gr:=⟨fun n=>if n=o then c else G.hd n,fun n=>if n=o then qs else G.ps n⟩
theorem Yet {G:Gr} {N:List Nat} {o c:Nat} {qs:List Nat} (ho:o ∉ N):GAg N G (Zux G o c qs):=fun n hn=>by
 have:n≠o:=fun e=>ho (e ▸ hn)
 simp [Zux,this]
structure ShS (h:Zaa) (mi:Nat) (G:Gr) (N:List Nat) (sc:List (Nat × Nat)) (Z:Nat→Prop):Prop where
 gh:GH h G N (fun _=>none) Z
 cl:GCl G N
 ar:∀ n∈N,arN (G.hd n)=((G.ps n).length:Int)
 map:Yuu h mi sc
 sin:∀ p∈sc,p.2∈N∧G.hd p.2=p.1∧Zbd p.1=true∧Yct sc p.1=some p.2
structure ShR (h:Zaa) (mi:Nat) (G:Gr) (N:List Nat) (sc:List (Nat × Nat)) (Z:Nat→Prop) (t:Ty) (q:Nat) (h':Zaa) (G':Gr) (L:List Nat) (sc':List (Nat × Nat)):Prop where
 fr:Zdp mi h h'
 st:ShS h' mi G' (N ++ L) sc' Z
 ag:GAg N G G'
 new:∀ x∈L,h.length≤x∧Sub G' q x
 var:∀ x∈L,Zbd (G'.hd x)=true→(G'.hd x,x)∈sc'
 ext:∃ r,sc'=sc ++ r
 qN:q∈N ++ L
 raw:Raw G' G'.hd q t
section
variable {h h':Zaa} {mi:Nat} {G:Gr} {N:List Nat} {sc:List (Nat × Nat)} {Z Z':Nat→Prop} {lk:Nat→Option Nat}
theorem GH.re (g:GH h G N lk Z) (hl:h.length≤h'.length) (hN:∀ n∈N,h'[n]?=h[n]?) (hR:∀ j t cs ro,h[j]?=some (Zcc.cells t cs ro)→¬ Z j→j ∉ N→h'[j]?=h[j]?) (hZ:∀ j,j < h.length→¬ Z j→¬ Z' j):GH h' G N lk Z':=by
 refine ⟨fun n hn=>?_⟩
 obtain ⟨a,c,e,hi,hr,hd⟩:=g.node n hn
 refine ⟨a,c,e,by rw [hN n hn]; exact hi,hr.to hl fun j o h0 ha _=>?_,fun j o h0 ha=>?_⟩
 ·obtain ⟨t,all,ro,hj⟩:=hr.cellsAt h0 ha
  exact hR _ _ _ _ hj (hd j o h0 ha).2 (hd j o h0 ha).1
 ·obtain ⟨t,all,ro,hj⟩:=hr.cellsAt h0 ha
  exact ⟨(hd j o h0 ha).1,hZ j (Own.lt hj) (hd j o h0 ha).2⟩
theorem GH.ag {G':Gr} (g:GH h G N lk Z) (ag:GAg N G G'):GH h G' N lk Z:=⟨fun n hn=>by rw [(ag n hn).1,(ag n hn).2]; exact g.node n hn⟩
theorem GH.add {o c:Nat} {qs:List Nat} (g:GH h G N (fun _=>none) Z') (hZo:Z' o) (hZ:∀ z,Z z→Z' z) (ho:o ∉ N) {a:Pt} {cp:Nat} {e:Bool} (hi:h[o]?=some (.cells Zcl [.str [c],.slice a qs.length cp e,.ptr none] false))
  (hr:Row h.length h a qs.length (qs.map fun p=>Zas.ptr (some (p,0)))) (hd:∀ j o',qs.length≠0→a=some (j,o')→j ∉ N∧j≠o∧¬ Z j):GH h (Zux G o c qs) (N ++ [o]) (fun _=>none) Z:=by
 refine ⟨fun n hn=>?_⟩
 rcases List.mem_append.1 hn with hn | hn
 ·obtain ⟨b,c',e',hb,hbr,hbd⟩:=(g.ag (Yet (c:=c) (qs:=qs) ho)).node n hn
  refine ⟨b,c',e',hb,hbr,fun j o' h0 ha=>⟨fun hj=>?_,fun hj=>(hbd j o' h0 ha).2 (hZ _ hj)⟩⟩
  rcases List.mem_append.1 hj with hj | hj
  ·exact (hbd j o' h0 ha).1 hj
  ·rw [List.mem_singleton] at hj
   subst hj
   exact (hbd j o' h0 ha).2 hZo
 ·rw [List.mem_singleton] at hn
  subst hn
  refine ⟨a,cp,e,by simpa [Zux] using hi,by simpa [Zux] using hr,fun j o' h0 ha=>?_⟩
  have h0':qs.length≠0:=by simpa [Zux] using h0
  obtain ⟨h1,h2,h3⟩:=hd j o' h0' ha
  exact ⟨fun hj=>(List.mem_append.1 hj).elim h1 fun hj=>h2 (List.mem_singleton.1 hj),h3⟩
end
structure ShL (h0:Zaa) (mi:Nat) (G:Gr) (N:List Nat) (sc:List (Nat × Nat)) (Z:Nat→Prop) (t:Ty) (o:Nat) (h':Zaa) (G1:Gr) (L1:List Nat) (sc1:List (Nat × Nat)) (qs:List Nat) (a:Pt) (cp:Nat) (e:Bool):Prop where
 out:h'[o]?=some (.cells Zcl [.str [t.hd],.slice a qs.length cp e,.ptr none] false)
 vec:Vec Zdw h' a qs.length cp (qs.map fun q=>Zas.ptr (some (q,0)))
 low:∀ j,a=some (j,0)→o < j
 raw:∀ (i q:Nat) (x:Ty),qs[i]?=some q→t.ps[i]?=some x→Raw G1 G1.hd q x
 qN:∀ q∈qs,q∈N ++ L1
 fr:Zdp mi h0 h'
 st:ShS h' mi G1 (N ++ L1) sc1 (fun z=>Z z ∨ z=o ∨ a=some (z,0))
 ag:GAg N G G1
 new:∀ x∈L1,o < x∧∃ q∈qs,Sub G1 q x
 var:∀ x∈L1,Zbd (G1.hd x)=true→(G1.hd x,x)∈sc1
 ext:∃ r,sc1=sc ++ r
theorem Yjz {h:Zaa} {i j:Nat} {cs cs':List Zas} {r r':Bool} (hi:h[i]?=some (.cells Zcl cs r)) (hj:h[j]?=some (.cells Zdw cs' r')):i≠j:=by
 rintro rfl; rw [hi] at hj; injection hj with hj; injection hj with hj; exact absurd hj (by decide)
theorem Vec.ptr {ty:TypeId} {h:Zaa} {a:Pt} {n c:Nat} {cs:List Zas} (x:Vec ty h a n c cs) {j o:Nat} (ha:a=some (j,o)):o=0∧h[j]?=some (.cells ty cs false):=by
 rcases x with ⟨h0,_⟩ | ⟨i,hi,hj⟩
 ·rw [ha] at h0; cases h0
 ·rw [ha] at hi; cases hi; exact ⟨rfl,hj⟩
theorem Ypw:∀ (M:Nat) {t:Ty} {S:Nat→Prop} {h:Zaa} {p:Pt} {mi:Nat} {G:Gr} {N:List Nat} {sc:List (Nat × Nat)} {Z:Nat→Prop},t.size≤M→t.ok=true→Zrt S h t p→(∀ j,S j→j≠mi)→ShS h mi G N sc Z→(∀ z,Z z→z < h.length) →
  Zah pg Zhx [.ptr p,.map (some mi)] h fun v h'=>∃ q G' L sc',v=.ptr (some (q,0))∧ShR h mi G N sc Z t q h' G' L sc':=by
 intro M
 induction M with
 | zero=>intro t S h p mi G N sc Z hM; have:=Zuc t; omega
 | succ M ih=>
 intro t S h p mi G N sc Z hM hok hrep hS st hZ
 obtain ⟨i,a,c0,e0,qa,rfl,si,hi,row,hSa,hqal,hqa⟩:=hrep.parts
 obtain ⟨es,clk,hm,hk,hv,hb,hlt⟩:=id st.map
 have hml:=Own.lt hm
 apply Zey.call
 simp only [Zaw,Zak hi,Nat.zero_add,List.getElem?_cons_zero,Zam]
 refine (Ztr [t.hd]).mono ?_
 rintro v h1 ⟨rfl,rfl⟩
 simp only [Zap,Zuk,Zak hi,List.getElem?_cons_zero,Zam,Zaw]
 refine Zdb (fun hvar=>?_) (fun hvar=>?_)
 ·-- a variable
  have hps:t.ps=[]:=List.eq_nil_of_length_eq_zero (by have:=Ty.ok_ar hok; rw [Zwz hvar] at this; omega)
  have htk:t=.k t.hd:=Ytc (by rw [hps]; rfl)
  simp only [Zdy,hm,Zsr]
  cases hg:Yct sc t.hd with
  | some x=>
   obtain ⟨j,hf⟩:=Zvb (k:=0) hk hv hg
   rw [hf]
   simp only [Option.getD_some,Zdu,Option.isNone_some,Zbj]
   apply Zey.J4i
   simp only [Zaw,Zak hi,Nat.zero_add,List.getElem?_cons_zero,Zam,Zdy,hm,Zsr,hf,Option.getD_some,Zdu]
   obtain ⟨h2,h3,h4,_⟩:=st.sin _ (Ygz hg)
   refine ⟨x,G,[],sc,rfl,Zdp.refl _ _,by rw [List.append_nil]; exact st,GAg.refl _ _,by simp,by simp,⟨[],by simp⟩,by simpa using h2,?_⟩
   have h3':G.hd x=t.hd:=h3
   rw [htk,← h3']
   exact .var (by rw [h3']; exact hvar)
  | none=>
   have hf:=Zzw (k:=0) hk hg
   rw [hf]
   simp only [Option.getD_none,Zdu,Option.isNone_none,Zby,Zax,true_and]
   generalize hh2:h1 ++ [Zcc.cells Zcl [.str [t.hd],.slice none 0 0 true,.ptr none] false]=h2
   have s2:Zbe h1.length h1 h2:=by rw [← hh2]; exact Zao
   have o2:h2[h1.length]?=some (.cells Zcl [.str [t.hd],.slice none 0 0 true,.ptr none] false):=by rw [← hh2]; simp
   have hi2:=s2.get hi (Own.lt hi)
   have hm2:=s2.get hm hml
   have l2:h2.length=h1.length + 1:=by rw [← hh2]; simp
   have him:i≠mi:=hS i si
   simp only [Zak hi2,Zak hi,List.getElem?_cons_zero,xMp,Zdy,hm2,Yjy,hf,true_and]
   generalize hh3:h2.set mi (.map (es ++ [(.str [t.hd],.ptr (some (h1.length,0)),clk)]) (clk + 1))=h3
   have hm3:h3[mi]?=some (.map (es ++ [(.str [t.hd],.ptr (some (h1.length,0)),clk)]) (clk + 1)):=by rw [← hh3]; exact Zbv hm2
   have k3:∀ j,j≠mi→h3[j]?=h2[j]?:=fun j hj=>by rw [← hh3]; exact Zbl fun e=>hj e.symm
   have l3:h3.length=h2.length:=by rw [← hh3]; simp
   have hi3:h3[i]?=h2[i]?:=k3 i him
   have hk3:(es ++ [((Zas.str [t.hd],Zas.ptr (some (h1.length,0)),clk):ME)]).map (·.1)=(sc ++ [(t.hd,h1.length)]).map (fun p=>Zas.str [p.1]):=by simp [hk]
   have hv3:(es ++ [((Zas.str [t.hd],Zas.ptr (some (h1.length,0)),clk):ME)]).map (·.2.1)=(sc ++ [(t.hd,h1.length)]).map (fun p=>Zas.ptr (some (p.2,0))):=by simp [hv]
   have hg3:Yct (sc ++ [(t.hd,h1.length)]) t.hd=some h1.length:=by rw [Yhz,hg]; simp
   obtain ⟨j3,hf3⟩:=Zvb (k:=0) hk3 hv3 hg3
   apply Zey.J4i
   rw [hi2] at hi3
   simp only [Zaw,Zak hi3,Nat.zero_add,List.getElem?_cons_zero,Zam,Zdy,hm3,Zsr,hf3,Option.getD_some,Zdu]
   have hnN:h1.length ∉ N:=fun h=>by have:=st.gh.lt h; omega
   have hml2:mi≠h1.length:=by omega
   have o3:h3[h1.length]?=some (.cells Zcl [.str [t.hd],.slice none ([]:List Nat).length 0 true,.ptr none] false):=by rw [k3 _ hml2.symm]; exact o2
   have g3:GH h3 G N (fun _=>none) (fun z=>Z z ∨ z=h1.length):=st.gh.re (by omega) (fun n hn=>by rw [k3 n fun e=>by subst e; obtain ⟨_,_,_,q,_⟩:=st.gh.node n hn; rw [hm] at q; cases q]; exact s2.eq n (st.gh.lt hn))
    (fun j t cs ro hj _ _=>by rw [k3 j fun e=>by subst e; rw [hm] at hj; cases hj]; exact s2.eq j (Own.lt hj)) (fun j hj hz=>by rintro (h | h); exact hz h; omega)
   have ag:GAg N G (Zux G h1.length t.hd []):=Yet hnN
   have ghd:(Zux G h1.length t.hd []).hd h1.length=t.hd:=by simp [Zux]
   refine ⟨h1.length,Zux G h1.length t.hd [],[h1.length],sc ++ [(t.hd,h1.length)],rfl,⟨by omega,fun j hj hne=>by rw [k3 j hne]; exact s2.eq j hj⟩,⟨?_,?_,?_,?_,?_⟩,ag,?_,?_,⟨_,rfl⟩,by simp,?_⟩
   ·exact g3.add (.inr rfl) (fun z hz=>.inl hz) hnN o3 Row.nil (fun j o' h0=>absurd rfl h0)
   ·intro n hn p hp
    rcases List.mem_append.1 hn with hn | hn
    ·rw [(ag n hn).2] at hp; exact List.mem_append_left _ (st.cl n hn p hp)
    ·rw [List.mem_singleton.1 hn] at hp; simp [Zux] at hp
   ·intro n hn
    rcases List.mem_append.1 hn with hn | hn
    ·rw [(ag n hn).1,(ag n hn).2]; exact st.ar n hn
    ·rw [List.mem_singleton.1 hn,ghd,Zwz hvar]; simp [Zux]
   ·refine ⟨_,_,hm3,hk3,hv3,?_,?_⟩
    ·rw [List.map_append,List.nodup_append]
     refine ⟨hb,by simp,?_⟩
     intro x hx y hy e
     simp at hy
     obtain ⟨z,hz,rfl⟩:=List.mem_map.1 hx
     have:=hlt z hz; omega
    ·intro e he
     rcases List.mem_append.1 he with he | he
     ·have:=hlt e he; omega
     ·simp at he; subst he; simp
   ·intro p hp
    rcases List.mem_append.1 hp with hp | hp
    ·obtain ⟨h1',h2',h3',h4'⟩:=st.sin p hp
     exact ⟨List.mem_append_left _ h1',by rw [(ag _ h1').1]; exact h2',h3',Ygo h4'⟩
    ·rw [List.mem_singleton.1 hp]
     exact ⟨by simp,ghd,hvar,hg3⟩
   ·intro x hx
    rw [List.mem_singleton.1 hx]
    exact ⟨Nat.le_refl _,.refl⟩
   ·intro x hx _
    rw [List.mem_singleton.1 hx,ghd]; simp
   ·rw [htk]
    have:Raw (Zux G h1.length t.hd []) (Zux G h1.length t.hd []).hd h1.length (.k ((Zux G h1.length t.hd []).hd h1.length)):=.var (by rw [ghd]; exact hvar)
    rw [ghd] at this; exact this
 ·-- another letter
  simp only [Zax]
  generalize hh2:h1 ++ [Zcc.cells Zcl [.str [t.hd],.slice none 0 0 true,.ptr none] false]=h2
  have s2:Zbe h1.length h1 h2:=by rw [← hh2]; exact Zao
  have o2:h2[h1.length]?=some (.cells Zcl [.str [t.hd],.slice none 0 0 true,.ptr none] false):=by rw [← hh2]; simp
  have l2:h2.length=h1.length + 1:=by rw [← hh2]; simp
  have hi2:=s2.get hi (Own.lt hi)
  have hm2:=s2.get hm hml
  have hmo:mi≠h1.length:=by omega
  have hNlt:∀ n∈N,n < h1.length:=fun n hn=>st.gh.lt hn
  have har:=Ty.ok_ar hok
  simp only [Zak hi2,List.getElem?_cons_succ,List.getElem?_cons_zero,Zaf]
  have st2:ShS h2 mi G (N ++ []) sc (fun z=>Z z ∨ z=h1.length ∨ (none:Pt)=some (z,0)):=by
   rw [List.append_nil]
   refine ⟨st.gh.re (by omega) (fun n hn=>s2.eq n (hNlt n hn)) (fun j t cs ro hj _ _=>s2.eq j (Own.lt hj)) (fun j hj hz=>?_),st.cl,st.ar,st.map.eq (s2.eq mi hml),st.sin⟩
   rintro (h | h | h)
   ·exact hz h
   ·omega
   ·cases h
  refine Zey.L7ind (J:=fun (g:Nat) x48 h'=>x48=(g:Int)∧g≤t.ps.length∧∃ G1 L1 sc1 qs a1 cp e1,qs.length=g∧ShL h1 mi G N sc Z t h1.length h' G1 L1 sc1 qs a1 cp e1) (m:=fun g=>t.ps.length - g) (hr:=?_) (g:=0)
   (hj:=⟨rfl,by omega,G,[],sc,[],none,0,true,rfl,o2,Vec.mk0,(fun j hj=>by cases hj),(fun i q x hq=>by simp at hq),(fun q hq=>by cases hq),Yhi s2,st2,GAg.refl _ _,(fun x hx=>by cases hx),(fun x hx=>by cases hx),⟨[],by simp⟩⟩)
  rintro g x48 h3 ⟨rfl,hg,G1,L1,sc1,qs,a1,cp,e1,hql,W⟩ R hR
  unfold Zey.L7t
  have hps2:t.ps.length≤2:=by cases t <;> simp [Ty.ps]
  have hol:=Own.lt W.out
  refine Zav (fun hlt'=>?_) (fun hge=>?_)
  ·have hg':g < t.ps.length:=by omega
   have hqag:g < qa.length:=by omega
   obtain ⟨ja,oa,rfl,_,hca⟩:=(row.keepAt (i:=mi) (fun j o h0 e=>hS j (hSa j o h0 e)) W.fr).at hg'
   rw [List.getElem?_map,List.getElem?_eq_getElem hqag] at hca
   simp only [Zaw,Int.toNat_natCast,Nat.mul_one,hca,Option.map_some,Zdu,Zak W.out,Nat.zero_add,List.getElem?_cons_succ,List.getElem?_cons_zero,Zaf]
   have hmem:=List.getElem_mem hg'
   have hsz:=Ty.size_part hmem
   refine ⟨by omega,(ih (by omega) (Ty.ok_ps hok _ hmem) ((hqa g _ _ (List.getElem?_eq_getElem hqag) (List.getElem?_eq_getElem hg')).keep fun j hj hl=>W.fr.eq j hl (hS j hj)) hS W.st (fun z hz=>?_)).mono ?_⟩
   ·rcases hz with hz | hz | hz
    ·have:=hZ z hz; omega
    ·omega
    ·exact Own.lt (W.vec.ptr hz).2
   rintro v h4 ⟨q,G2,L2,sc2,rfl,R2⟩
   have hmo':h1.length≠mi:=fun e=>hmo e.symm
   have out4:=Ysi R2.fr W.out hmo'
   have a1mi:∀ j o,a1=some (j,o)→j≠mi:=fun j o hj e=>by
    subst e
    obtain ⟨es1,k1,hm1,_⟩:=W.st.map
    rw [(W.vec.ptr hj).2] at hm1; cases hm1
   have vec4:Vec Zdw h4 a1 qs.length cp (qs.map fun q=>Zas.ptr (some (q,0))):=W.vec.agree fun j hj=>R2.fr.eq j (Own.lt (W.vec.ptr hj).2) (a1mi j 0 hj)
   simp only [Zdu,Zax]
   refine ⟨by rw [Zak out4]; rfl,by rw [Zak (Zao.get out4 (Own.lt out4)),Zak out4],?_⟩
   refine vec4.push Yad Ygn Yhb Yhv (by simp) rfl (by omega) (fun h5 hl5 hi5 hk5=>?_)
   have hfl:=R2.fr.le
   have out5:h5[h1.length]?=some (.cells Zcl [.str [t.hd],.slice a1 qs.length cp e1,.ptr none] false):=by rw [hk5 _ (Own.lt out4) fun j hj=>by have:=W.low j hj; omega]; exact out4
   simp only [Zaf]
   rw [Zba out5 (by simp)]
   simp only [Zat,putRow,List.take_succ_cons,List.take_zero,List.length_cons,List.length_nil,List.drop_succ_cons,List.drop_zero,List.drop_nil,List.cons_append,List.nil_append,List.append_nil]
   rw [Zbt (by omega)]
   generalize hh6:h5.set h1.length (.cells Zcl [.str [t.hd],.slice (some (h4.length + 1,0)) (qs.length + 1) (qs.length + 1) false,.ptr none] false)=h6
   have l6:h6.length=h4.length + 2:=by rw [← hh6]; simpa using hl5
   have k6:∀ j,j < h4.length→j≠h1.length→(∀ i,a1=some (i,0)→j≠i)→h6[j]?=h4[j]?:=fun j hj h1' h2'=>by rw [← hh6,Zbl (fun e=>h1' e.symm)]; exact hk5 j hj h2'
   have ob6:h6[h1.length]?=some (.cells Zcl [.str [t.hd],.slice (some (h4.length + 1,0)) (qs ++ [q]).length (qs.length + 1) false,.ptr none] false):=by rw [← hh6,Zbv out5]; simp
   have nb6:h6[h4.length + 1]?=some (.cells Zdw ((qs ++ [q]).map fun q=>Zas.ptr (some (q,0))) false):=by
    rw [← hh6,Zbl (by omega),hi5]; simp
   have hoN:∀ n∈(N ++ L1) ++ L2,n≠h1.length:=fun n hn=>by
    rcases List.mem_append.1 hn with hn | hn
    ·rcases List.mem_append.1 hn with hn | hn
     ·have:=hNlt n hn; omega
     ·have:=(W.new n hn).1; omega
    ·have:=(R2.new n hn).1; omega
   have haN:∀ n∈(N ++ L1) ++ L2,∀ i,a1=some (i,0)→n≠i:=fun n hn i hi'=>by
    obtain ⟨_,_,_,hnn,_⟩:=R2.st.gh.node n hn
    exact Yjz hnn (vec4.ptr hi').2
   have hm4:=R2.st.map
   obtain ⟨es4,k4,hm4',_⟩:=id hm4
   have mi6:h6[mi]?=h4[mi]?:=k6 mi (Own.lt hm4') hmo (fun i hi'=>(a1mi i 0 hi').symm)
   have inc:∀ p,p∈sc1→p∈sc2:=fun p hp=>by obtain ⟨r,hr⟩:=R2.ext; rw [hr]; exact List.mem_append_left _ hp
   refine hR (g + 1) _ _ (by omega) ⟨rfl,by omega,G2,L1 ++ L2,sc2,qs ++ [q],some (h4.length + 1,0),qs.length + 1,false,by simp [hql],ob6,by rw [List.length_append]; exact Vec.mk1 nb6,fun j hj=>by cases hj; omega,fun i q' x hq' hx=>?_,fun q' hq'=>?_,⟨by have:=W.fr.le; omega,fun j hj hne=>?_⟩,⟨?_,?_,?_,hm4.eq mi6,?_⟩,W.ag.trans R2.ag (fun n hn=>List.mem_append_left _ hn),fun x hx=>?_,fun x hx hxv=>?_,?_⟩
   ·by_cases hi':i < qs.length
    ·rw [List.getElem?_append_left hi'] at hq'
     exact (W.raw i q' x hq' hx).agree R2.ag W.st.cl (fun y hy=>(R2.ag y hy).1) (W.qN _ (List.mem_of_getElem? hq'))
    ·rw [List.getElem?_append_right (by omega)] at hq'
     have hi0:i=g:=by
      have:=(List.getElem?_eq_some_iff.1 hq').1
      simp at this; omega
     subst hi0
     rw [hql,Nat.sub_self] at hq'
     simp at hq'
     subst hq'
     rw [List.getElem?_eq_getElem hg'] at hx
     cases hx
     exact R2.raw
   ·rw [← List.append_assoc]
    rcases List.mem_append.1 hq' with hq' | hq'
    ·exact List.mem_append_left _ (W.qN q' hq')
    ·rw [List.mem_singleton.1 hq']; exact R2.qN
   ·rw [k6 j (by have:=W.fr.le; omega) (by omega) fun i hi'=>by have:=W.low i hi'; omega,R2.fr.eq j (by have:=W.fr.le; omega) hne]
    exact W.fr.eq j hj hne
   ·rw [← List.append_assoc]
    refine R2.st.gh.re (by omega) (fun n hn=>k6 n (R2.st.gh.lt hn) (hoN n hn) (haN n hn)) (fun j ty cs ro hj hz hjn=>?_) (fun j hj hz=>?_)
    ·exact k6 j (Own.lt hj) (fun e=>hz (.inr (.inl e))) fun i hi' e=>hz (.inr (.inr (by rw [e]; exact hi')))
    ·rintro (h | h | h)
     ·exact hz (.inl h)
     ·exact hz (.inr (.inl h))
     ·cases h; omega
   ·rw [← List.append_assoc]; exact R2.st.cl
   ·rw [← List.append_assoc]; exact R2.st.ar
   ·rw [← List.append_assoc]; exact R2.st.sin
   ·rcases List.mem_append.1 hx with hx | hx
    ·obtain ⟨x1,q',hq',hsub⟩:=W.new x hx
     exact ⟨x1,q',List.mem_append_left _ hq',hsub.agree R2.ag W.st.cl (W.qN q' hq')⟩
    ·obtain ⟨x1,hsub⟩:=R2.new x hx
     exact ⟨by omega,q,by simp,hsub⟩
   ·rcases List.mem_append.1 hx with hx | hx
    ·have hh:=(R2.ag x (List.mem_append_right _ hx)).1
     rw [hh] at hxv ⊢
     exact inc _ (W.var x hx hxv)
    ·exact R2.var x hx hxv
   ·obtain ⟨r1,hr1⟩:=W.ext
    obtain ⟨r2,hr2⟩:=R2.ext
    exact ⟨r1 ++ r2,by rw [hr2,hr1,List.append_assoc]⟩
  ·apply Zey.A7x0i
   have hgl:g=t.ps.length:=by omega
   have hqt:qs.length=t.ps.length:=by omega
   have hoN:h1.length ∉ N ++ L1:=fun hn=>by
    rcases List.mem_append.1 hn with hn | hn
    ·have:=hNlt _ hn; omega
    ·have:=(W.new _ hn).1; omega
   have ag1:GAg (N ++ L1) G1 (Zux G1 h1.length t.hd qs):=Yet hoN
   have ghd:(Zux G1 h1.length t.hd qs).hd h1.length=t.hd:=by simp [Zux]
   have gps:(Zux G1 h1.length t.hd qs).ps h1.length=qs:=by simp [Zux]
   refine ⟨h1.length,Zux G1 h1.length t.hd qs,L1 ++ [h1.length],sc1,rfl,W.fr,⟨?_,?_,?_,W.st.map,fun p hp=>?_⟩,W.ag.trans ag1 (fun n hn=>List.mem_append_left _ hn),fun x hx=>?_,fun x hx hxv=>?_,W.ext,by simp,?_⟩
   ·rw [← List.append_assoc]
    refine W.st.gh.add (.inr (.inl rfl)) (fun z hz=>.inl hz) hoN W.out (W.vec.row (by simp)) (fun j o' h0 ha=>⟨fun hj=>?_,?_,fun hz=>?_⟩)
    ·obtain ⟨_,_,_,hnn,_⟩:=W.st.gh.node j hj
     exact Yjz hnn (W.vec.ptr ha).2 rfl
    ·have h00:=(W.vec.ptr ha).1
     subst h00
     have:=W.low j ha; omega
    ·have h00:=(W.vec.ptr ha).1
     subst h00
     have:=W.low j ha
     have:=hZ j hz; omega
   ·intro n hn p hp
    rw [← List.append_assoc] at hn ⊢
    rcases List.mem_append.1 hn with hn | hn
    ·rw [(ag1 n hn).2] at hp; exact List.mem_append_left _ (W.st.cl n hn p hp)
    ·rw [List.mem_singleton.1 hn,gps] at hp; exact List.mem_append_left _ (W.qN p hp)
   ·intro n hn
    rw [← List.append_assoc] at hn
    rcases List.mem_append.1 hn with hn | hn
    ·rw [(ag1 n hn).1,(ag1 n hn).2]; exact W.st.ar n hn
    ·rw [List.mem_singleton.1 hn,ghd,gps,har,hqt]
   ·obtain ⟨q1,q2,q3,q4⟩:=W.st.sin p hp
    exact ⟨by rw [← List.append_assoc]; exact List.mem_append_left _ q1,by rw [(ag1 _ q1).1]; exact q2,q3,q4⟩
   ·rcases List.mem_append.1 hx with hx | hx
    ·obtain ⟨x1,q',hq',hsub⟩:=W.new x hx
     exact ⟨by omega,.part (by rw [gps]; exact hq') (hsub.agree ag1 W.st.cl (W.qN q' hq'))⟩
    ·rw [List.mem_singleton.1 hx]; exact ⟨Nat.le_refl _,.refl⟩
   ·rcases List.mem_append.1 hx with hx | hx
    ·rw [(ag1 x (List.mem_append_right _ hx)).1] at hxv ⊢
     exact W.var x hx hxv
    ·rw [List.mem_singleton.1 hx,ghd] at hxv
     rw [hvar] at hxv; cases hxv
   ·have hraw:∀ (i q:Nat) (x:Ty),qs[i]?=some q→t.ps[i]?=some x→Raw (Zux G1 h1.length t.hd qs) (Zux G1 h1.length t.hd qs).hd q x:=fun i q x hq hx=>
     (W.raw i q x hq hx).agree ag1 W.st.cl (fun y hy=>(ag1 y hy).1) (W.qN _ (List.mem_of_getElem? hq))
    have hvo:Zbd ((Zux G1 h1.length t.hd qs).hd h1.length)=false:=by rw [ghd]; exact hvar
    cases t with
    | k c=>
     have hq0:qs=[]:=List.eq_nil_of_length_eq_zero hqt
     have:=Raw.cst (nu:=(Zux G1 h1.length (Ty.k c).hd qs).hd) hvo (by rw [gps]; exact hq0)
     rw [ghd] at this; exact this
    | u c x=>
     obtain ⟨q,rfl⟩:=List.length_eq_one_iff.1 (show qs.length=1 from hqt)
     ·have:=Raw.one (nu:=(Zux G1 h1.length (Ty.u c x).hd [q]).hd) hvo gps (hraw 0 q x rfl rfl)
      rw [ghd] at this; exact this
    | w c x y=>
     obtain ⟨q,q',rfl⟩:∃ q q',qs=[q,q']:=by
      match qs,hqt with
      | [q,q'],_=>exact ⟨q,q',rfl⟩
     ·have:=Raw.two (nu:=(Zux G1 h1.length (Ty.w c x y).hd [q,q']).hd) hvo gps (hraw 0 q x rfl rfl) (hraw 1 q' y rfl rfl)
      rw [ghd] at this; exact this
end Go.Sim

set_option linter.unusedVariables false
set_option linter.unusedSimpArgs false
set_option maxRecDepth 20000
namespace Go.Sim
open Go Go.RowKit

section
variable {h h':Zaa} {mi:Nat} {G G':Gr} {N L:List Nat} {sc sc':List (Nat × Nat)} {Z Z':Nat→Prop} {lk:Nat→Option Nat}
theorem ShS.same (st:ShS h mi G N sc Z) (s:Zbe h.length h h'):ShS h' mi G N sc Z:=by
 obtain ⟨es,k,hm,_⟩:=id st.map
 exact ⟨st.gh.same s,st.cl,st.ar,st.map.eq (s.eq mi (Own.lt hm)),st.sin⟩
theorem Ygp {s:List Nat} {T:Ty} (hs:Zgv s=some T) (st:ShS h mi G N sc Z) (hZ:∀ z,Z z→z < h.length) :
  Zah pg Znm [.str s,.map (some mi)] h fun v h'=>∃ q G' L sc',v=.ptr (some (q,0))∧ShR h mi G N sc Z T q h' G' L sc':=by
 obtain ⟨h1,h2,h3⟩:=Zec.1 hs
 obtain ⟨es,k,hm,_⟩:=id st.map
 have hml:=Own.lt hm
 apply Zvo.call
 refine (Zyp s.length s (Nat.le_refl _) h).mono ?_
 rintro v g1 ⟨s1,p,r,rfl,hres⟩
 have ho:Zhi s T []:=⟨h1,by rw [h2]; simp⟩
 rcases hres with ⟨t,ho',hn⟩ | ⟨_,hno⟩
 ·obtain ⟨rfl,rfl⟩:=ho'.unique ho
  simp only [Zdx,Zaj,Zdu,Zam,Zar]
  have l1:=s1.le
  refine (Ypw _ (Nat.le_refl _) h1 hn (fun j hj=>by have:=hj.1; omega) (st.same s1) (fun z hz=>by have:=hZ z hz; omega)).mono ?_
  rintro v g2 ⟨q,G',L,sc',rfl,R⟩
  simp only [Zdu]
  exact ⟨q,G',L,sc',rfl,⟨(Yhi s1).trans R.fr,R.st,R.ag,fun x hx=>⟨by have:=(R.new x hx).1; omega,(R.new x hx).2⟩,R.var,R.ext,R.qN,R.raw⟩⟩
 ·exact absurd ho (hno T [])
theorem ShS.gok (st:ShS h mi G N sc Z):GOk G N (fun _=>none):=⟨st.cl,st.ar,fun n m _ h=>(by cases h),fun n _=>⟨0,n,.refl,rfl⟩⟩
theorem Raw.under (g:GOk G N lk) {nu:Nat→Nat} {q x:Nat} (s:Sub G q x):q∈N→∀ {t:Ty},Raw G nu q t→∃ t',Raw G nu x t':=by
 induction s with
 | refl=>exact fun _ t r=>⟨_,r⟩
 | @part n p x hp _ ih=>
  intro hn t r
  have hpN:=g.par n hn p hp
  cases r with
  | var hv=>rw [g.var_ps hn hv] at hp; cases hp
  | cst h1 h2=>rw [h2] at hp; cases hp
  | one h1 h2 h3=>rw [h2] at hp; simp at hp; subst hp; exact ih hpN h3
  | two h1 h2 h3 h4=>
   rw [h2] at hp; simp at hp
   rcases hp with rfl | rfl
   ·exact ih hpN h3
   ·exact ih hpN h4
theorem ShS.nil (hm:h[mi]?=some (.map [] 0)) (G:Gr) (Z:Nat→Prop):ShS h mi G [] [] Z:=
 ⟨⟨fun n hn=>(by cases hn)⟩,fun n hn=>(by cases hn),fun n hn=>(by cases hn),⟨[],0,hm,rfl,rfl,by simp,by simp⟩,fun p hp=>(by cases hp)⟩
end
theorem Zye (s t:List Nat) (h:Zaa):Zah pg Zjo [.str s,.str t] h fun v h'=>v=.bool (Zir s t)∧Zbe h.length h h':=by
 apply Zmw.call
 refine (Zhk s h).mono ?_
 rintro v h1 ⟨rfl,s1⟩
 simp only [Zap]
 refine Zcq (fun hn=>⟨by rw [Zwj (by rw [hn]; rfl)],s1⟩) (fun hs=>?_)
 refine (Zhk t h1).mono ?_
 rintro v h2 ⟨rfl,s2⟩
 simp only [Zap]
 have S2:=s1.cat s2
 refine Zcq (fun hn=>⟨by rw [Zwj (by rw [hn]; simp)],S2⟩) (fun ht=>?_)
 obtain ⟨a,ha⟩:=Zle hs
 obtain ⟨b,hb⟩:=Zle ht
 obtain ⟨a1,a2,a3⟩:=Zec.1 ha
 obtain ⟨b1,b2,b3⟩:=Zec.1 hb
 apply Zmw.J3i
 simp only [Zax]
 generalize hh3:h2 ++ [Zcc.map [] 0]=h3
 have s3:Zbe h2.length h2 h3:=by rw [← hh3]; exact Zao
 have m3:h3[h2.length]?=some (.map [] 0):=by rw [← hh3]; simp
 have l3:h3.length=h2.length + 1:=by rw [← hh3]; simp
 have hl2:=S2.le
 refine (Ygp ha (ShS.nil m3 ⟨fun _=>0,fun _=>[]⟩ fun _=>False) (fun z hz=>hz.elim)).mono ?_
 rintro v h4 ⟨q1,G1,L1,sc1,rfl,R1⟩
 simp only [Zdu]
 have l4:=R1.fr.le
 generalize hh5:h4 ++ [Zcc.map [] 0]=h5
 have s5:Zbe h4.length h4 h5:=by rw [← hh5]; exact Zao
 have m5:h5[h4.length]?=some (.map [] 0):=by rw [← hh5]; simp
 have l5:h5.length=h4.length + 1:=by rw [← hh5]; simp
 refine (Ygp hb (ShS.nil m5 ⟨fun _=>0,fun _=>[]⟩ fun z=>z < h5.length) (fun z hz=>hz)).mono ?_
 rintro v h6 ⟨q2,G2,L2,sc2,rfl,R2⟩
 simp only [Zdu]
 have l6:=R2.fr.le
 have st1:=R1.st
 have st2:=R2.st
 simp only [List.nil_append] at st1 st2
 have S6:Zbe h.length h h6:=⟨by omega,fun j hj=>by
  rw [R2.fr.eq j (by omega) (by omega),s5.eq j (by omega),R1.fr.eq j (by omega) (by omega),s3.eq j (by omega)]; exact S2.eq j hj⟩
 have q1N:q1∈L1:=by simpa using R1.qN
 have q2N:q2∈L2:=by simpa using R2.qN
 have lo1:∀ x∈L1,x < h4.length:=fun x hx=>st1.gh.lt hx
 have lo2:∀ x∈L2,h5.length≤x:=fun x hx=>(R2.new x hx).1
 have dis:∀ x∈L1,x ∉ L2:=fun x hx hx2=>by have:=lo1 x hx; have:=lo2 x hx2; omega
 -- both graphs as one
 let G:Gr:=⟨fun n=>if n∈L1 then G1.hd n else G2.hd n,fun n=>if n∈L1 then G1.ps n else G2.ps n⟩
 have ag1:GAg L1 G1 G:=fun n hn=>by simp [G,hn]
 have ag2:GAg L2 G2 G:=fun n hn=>by
  have:n ∉ L1:=fun h=>dis n h hn
  simp [G,this]
 have k56:∀ j,j < h4.length→h6[j]?=h4[j]?:=fun j hj=>by rw [R2.fr.eq j (by omega) (by omega)]; exact s5.eq j hj
 have g1:GH h6 G L1 (fun _=>none) (fun z=>h4.length≤z):=(st1.gh.re (by omega) (fun n hn=>k56 n (lo1 n hn)) (fun j t cs ro hj _ _=>k56 j (Own.lt hj)) (fun j hj _=>by omega)).ag ag1
 have g2:GH h6 G L2 (fun _=>none) (fun z=>z < h5.length):=st2.gh.ag ag2
 have g:GH h6 G (L1 ++ L2) (fun _=>none) (fun _=>False):=by
  refine ⟨fun n hn=>?_⟩
  rcases List.mem_append.1 hn with hn | hn
  ·obtain ⟨pa,c,e,hi,hr,hd⟩:=g1.node n hn
   refine ⟨pa,c,e,hi,hr,fun j o h0 hj=>⟨fun hjm=>?_,fun h=>h.elim⟩⟩
   obtain ⟨d1,d2⟩:=hd j o h0 hj
   rcases List.mem_append.1 hjm with hjm | hjm
   ·exact d1 hjm
   ·have:=lo2 j hjm; omega
  ·obtain ⟨pa,c,e,hi,hr,hd⟩:=g2.node n hn
   refine ⟨pa,c,e,hi,hr,fun j o h0 hj=>⟨fun hjm=>?_,fun h=>h.elim⟩⟩
   obtain ⟨d1,d2⟩:=hd j o h0 hj
   rcases List.mem_append.1 hjm with hjm | hjm
   ·have:=lo1 j hjm; omega
   ·exact d1 hjm
 have cl1:GCl G L1:=fun n hn p hp=>by rw [(ag1 n hn).2] at hp; exact st1.cl n hn p hp
 have cl2:GCl G L2:=fun n hn p hp=>by rw [(ag2 n hn).2] at hp; exact st2.cl n hn p hp
 have ok:GOk G (L1 ++ L2) (fun _=>none):=by
  refine ⟨fun n hn p hp=>?_,fun n hn=>?_,fun n m _ h=>(by cases h),fun n _=>⟨0,n,.refl,rfl⟩⟩
  ·rcases List.mem_append.1 hn with hn | hn
   ·exact List.mem_append_left _ (cl1 n hn p hp)
   ·exact List.mem_append_right _ (cl2 n hn p hp)
  ·rcases List.mem_append.1 hn with hn | hn
   ·rw [(ag1 n hn).1,(ag1 n hn).2]; exact st1.ar n hn
   ·rw [(ag2 n hn).1,(ag2 n hn).2]; exact st2.ar n hn
 let nu:Nat→Nat:=fun n=>if n∈L1 then G.hd n else Yib (G.hd n)
 have nu1:∀ n∈L1,nu n=G.hd n:=fun n hn=>by simp [nu,hn]
 have nu2:∀ n∈L2,nu n=Yib (G.hd n):=fun n hn=>by
  have:n ∉ L1:=fun h=>dis n h hn
  simp [nu,this]
 have letter:∀ n∈L1 ++ L2,Zvr (G.hd n)=false:=fun n hn=>by
  have h0:=ok.ar n hn
  cases ho:Zvr (G.hd n) with
  | false=>rfl
  | true=>
   exfalso
   generalize G.hd n=c at h0 ho
   simp only [Zvr,decide_eq_true_eq] at ho
   unfold arN Zfs Zbd at h0
   simp only [Bool.or_eq_true,beq_iff_eq] at h0
   split at h0
   ·omega
   ·split at h0
    ·omega
    ·split at h0 <;> omega
 have nv:Yrc G (L1 ++ L2) nu V12:=by
  refine ⟨fun n hn hv=>?_,fun n hn hv=>by simp [V12,hv,letter n hn],fun n hn m hm hv hv' he=>?_⟩
  ·rcases List.mem_append.1 hn with hn | hn
   ·rw [nu1 n hn]; simp [V12,hv]
   ·rw [nu2 n hn]; simp [V12,(Zpj hv).2.1]
  ·rcases List.mem_append.1 hn with hn | hn <;> rcases List.mem_append.1 hm with hm | hm
   ·rw [nu1 n hn,nu1 m hm] at he
    rw [(ag1 n hn).1] at hv he
    rw [(ag1 m hm).1] at hv' he
    have e1:=(st1.sin _ (R1.var n hn hv)).2.2.2
    have e2:=(st1.sin _ (R1.var m hm hv')).2.2.2
    simp only at e1 e2
    rw [he,e2] at e1; exact (Option.some.inj e1).symm
   ·rw [nu1 n hn,nu2 m hm] at he
    have:=(Zpj hv').2.2
    rw [← he,hv] at this; cases this
   ·rw [nu2 n hn,nu1 m hm] at he
    have:=(Zpj hv).2.2
    rw [he,hv'] at this; cases this
   ·rw [nu2 n hn,nu2 m hm] at he
    have he:=Yrq hv hv' he
    rw [(ag2 n hn).1] at hv he
    rw [(ag2 m hm).1] at hv' he
    have e1:=(st2.sin _ (R2.var n hn hv)).2.2.2
    have e2:=(st2.sin _ (R2.var m hm hv')).2.2.2
    simp only at e1 e2
    rw [he,e2] at e1; exact (Option.some.inj e1).symm
 have ra:Raw G nu q1 a:=R1.raw.agree ag1 st1.cl (fun x hx=>by rw [nu1 x hx,(ag1 x hx).1]) q1N
 have rb:Raw G nu q2 (Zsh b):=by
  have r0:Raw G G.hd q2 b:=R2.raw.agree ag2 st2.cl (fun x hx=>(ag2 x hx).1) q2N
  exact r0.oth cl2 (fun x hx _=>nu2 x hx) q2N
 have sb1:∀ x∈L1,Sub G q1 x:=fun x hx=>(R1.new x hx).2.agree ag1 st1.cl q1N
 have sb2:∀ x∈L2,Sub G q2 x:=fun x hx=>(R2.new x hx).2.agree ag2 st2.cl q2N
 have w:Two G (L1 ++ L2) nu V12 q1 q2 a (Zsh b):=by
  refine ⟨by simp [q1N],by simp [q2N],nv,ra,rb,fun n hn=>?_,fun x hx=>?_⟩
  ·rcases List.mem_append.1 hn with hn | hn
   ·exact ra.under ok (sb1 n hn) (by simp [q1N])
   ·exact rb.under ok (sb2 n hn) (by simp [q2N])
  ·rcases List.mem_append.1 hx with hx | hx
   ·exact .inl (sb1 x hx)
   ·exact .inr (sb2 x hx)
 have hap:Zir s t=true ↔ ¬ ∃ θ:Nat→Ty,sb V12 θ a=sb V12 θ (Zsh b):=by
  rw [Ygx a1 b1]
  unfold Zir; rw [ha,hb]; simp
 refine (Yql _ (Nat.le_refl _) g ok (by simp [q1N]) (by simp [q2N])).mono ?_
 rintro v h7 ⟨o7,hr7⟩
 have S7:Zbe h.length h h7:=⟨by have:=o7.1; omega,fun j hj=>by
  rw [o7.2 j (by omega) fun hj'=>by
   rcases List.mem_append.1 hj' with hj' | hj'
   ·have:=(R1.new j hj').1; omega
   ·have:=lo2 j hj'; omega]
  exact S6.eq j hj⟩
 rcases hr7 with ⟨rfl,lk',y,g7⟩ | ⟨rfl,no⟩
 ·simp only [Zap,Bool.not_true,Zbj]
  refine (Ysb y.gok g7 (show q1∈L1 ++ L2 by simp [q1N])).mono ?_
  rintro v h8 ⟨s8,⟨rfl,hno⟩ | ⟨rfl,hT⟩⟩
  ·simp only [Zap,Bool.not_false]
   refine ⟨?_,S7.cat s8⟩
   rw [hap.2 (w.endless y hno)]
  ·simp only [Zap,Bool.not_true]
   refine ⟨?_,S7.cat s8⟩
   obtain ⟨T,hT⟩:=hT nu
   have hs:=w.sol y hT
   have:Zir s t=false:=by
    cases hq:Zir s t with
    | false=>rfl
    | true=>exact absurd ⟨_,hs.1.trans hs.2.symm⟩ (hap.1 hq)
   rw [this]
 ·simp only [Zap,Bool.not_false,Zby]
  exact ⟨by rw [hap.2 (w.no no)],S7⟩
end Go.Sim

set_option linter.unusedVariables false
set_option linter.unusedSimpArgs false
set_option maxRecDepth 20000
namespace Go.Sim
open Go Go.RowKit

end Go.Sim

set_option linter.unusedVariables false
set_option linter.unusedSimpArgs false
set_option maxRecDepth 20000
namespace Go.Sim
open Go Go.RowKit

end Go.Sim

set_option linter.unusedVariables false
set_option linter.unusedSimpArgs false
set_option maxRecDepth 20000
namespace Go.Sim
open Go Go.RowKit
noncomputable def Zig (n:Nd) (i:Ins):Bool:=decide (i.1.1=n.1) && !Zir i.1.2 n.2
noncomputable def Ylg (w:Wd) (n:Nd):List Int:=ixs (Zig n) w.is
noncomputable def Ymj (w:Wd) (n:Nd):List Int:=if Zgb w && Zjb w n then Ylg w n else []
def Yvm (w:Wd) (n:Nd) (h:Zaa) (v:Zas) (h':Zaa):Prop:=Zbe h.length h h'∧∃ a m c e,v=.tup [.slice a m c e,.bool (Zgb w && Zjb w n)]∧Zdl Zgj eI h.length h' a m (Ymj w n)
theorem Ymz {h:Zaa} {a:Pt} {n c j:Nat} {e:Bool} {ct tt nc nt:List Nat} (hj:h[j]?=some (.cells Zae [.str nc,.str nt] false)) :
  Zah pg Zcy [.agg [.str ct,.str tt,.slice a n c e],.ptr (some (j,0))] h fun v h'=>v=.bool (!Zir tt nt)∧Zbe h.length h h':=by
 apply Zls.call
 have s1:Zbe h.length h (h ++ [.cells Zac [.str ct,.str tt,.slice a n c e] false]):=Zao
 simp only [Zax,Zeu,Nat.zero_add,List.getElem?_cons_succ,List.getElem?_cons_zero,Zam,fa1,Zak (s1.get hj (Own.lt hj))]
 refine (Zye tt nt _).mono ?_
 rintro v h2 ⟨rfl,s2⟩
 simp only [Zap]
 exact ⟨by trivial,s1.cat s2⟩
theorem Ylw {h:Zaa} {a0 a1:Pt} {n0 c0 n1 c1 j:Nat} {e0 e1:Bool} {w:Wd} {nd:Nd} (r:Zpz h a0 n0 c0 a1 n1 c1 w) (b:WB w) (hj:h[j]?=some (.cells Zae [.str nd.1,.str nd.2] false)) :
  Zah pg Zjf [.agg [.slice a0 n0 c0 e0,.slice a1 n1 c1 e1],.str nd.1,.fn Zcy [.ptr (some (j,0))]] h fun v h'=>Zbe h.length h h'∧∃ a n c e,v=.slice a n c e∧Zdl Zgj eI h.length h' a n (Ylg w nd):=by
 have hl1:=r.len1
 have hli:=b.li
 apply Zch.call
 simp only [Zax]
 generalize hh0:h ++ [Zcc.cells Zad [.slice a0 n0 c0 e0,.slice a1 n1 c1 e1] false]=h0
 generalize hh1:h0 ++ [Zcc.cells Zgj [] false]=h1
 have s0:Zbe h.length h h0:=by rw [← hh0]; exact Zao
 have s1:Zbe h0.length h0 h1:=by rw [← hh1]; exact Zao
 have w0:h0[h.length]?=some (Zsa a0 n0 c0 e0 a1 n1 c1 e1):=by rw [← hh0]; simp [Zsa]
 have w1:=s1.get w0 (Own.lt w0)
 have o1:h1[h0.length]?=some (.cells Zgj [] false):=by rw [← hh1]; simp
 have l0:h0.length=h.length + 1:=by rw [← hh0]; simp
 have S1:=s0.cat s1
 simp only [Yau w1,Nat.zero_add,List.getElem?_cons_succ,List.getElem?_cons_zero,Zaf]
 refine Zch.L3ind _ _ _ _ _ _ _ _ (J:=fun (g:Nat) a4 n4 c4 e4 x14 h'=>x14=(g:Int)∧g≤n1∧Zbe h.length h h'∧n4=(ixs (Zig nd) (w.is.take g)).length∧Vec Zgj h' a4 n4 c4 (Zdq eI (ixs (Zig nd) (w.is.take g)))∧(∀ i,a4=some (i,0)→h.length≤i)) (fun g=>n1 - g) ?_ 0 _ _ _ _ _ _
  ⟨rfl,by omega,S1,rfl,Vec.mk1 (by simpa [ixs] using o1),fun i hi=>by cases hi; omega⟩
 rintro g a4 n4 c4 e4 x14 h' ⟨rfl,hg,hS,rfl,hv,ha⟩ R hR
 unfold Zch.L3t
 refine Zav (fun hlt=>?_) (fun hge=>?_)
 ·have hgl:g < w.is.length:=by omega
  obtain ⟨i,o,a2,n2,c2,e2,rfl,_,hr,_,_,hrow,hn⟩:=Ztv (r.same hS) hgl
  simp only [Zaw,Int.toNat_natCast,hr,Zau,Zaj,Zar,Zam,Zaf,Zax]
  rw [Zws]
  simp only [Zat,Zeu,Nat.zero_add,List.getElem?_cons_succ,List.getElem?_cons_zero,Zam]
  have hil:=Zqv (Zig nd) (w.is.take g)
  rw [List.length_take] at hil
  have htk:=Zna (Zig nd) hgl
  generalize hq:h' ++ [Zcc.cells Zac [.str w.is[g].1.1,.str w.is[g].1.2,.slice a2 n2 c2 e2] false]=hq'
  have sq:Zbe h'.length h' hq':=by rw [← hq]; exact Zao
  have skip:∀ hz,Zbe hq'.length hq' hz→Zig nd w.is[g]=false→Zch.J7 (fun v h'=>Zbe h.length h h'∧∃ a n c e,v=.slice a n c e∧Zdl Zgj eI h.length h' a n (Ylg w nd)) R (g:Int) (((n1:Nat):Int)) (some (i,o)) n1 c1 e1 nd.1 (.ptr (some (j,0))) a4 (ixs (Zig nd) (w.is.take g)).length c4 e4 hz:=by
   intro hz sz hno
   apply Zch.J7i
   rw [hno] at htk
   simp only [Bool.false_eq_true,if_false,List.append_nil] at htk
   rw [Zbt (by omega)]
   exact hR (g + 1) _ _ _ _ _ _ (by omega) ⟨rfl,by omega,(hS.cat sq).cat sz,by rw [htk],by rw [htk]; exact (hv.same sq).same sz,ha⟩
  refine ⟨by omega,Zav (fun hc=>?_) (fun hc=>skip _ (Zbe.refl _ _) (by unfold Zig; simp [hc]))⟩
  rw [← hq,Yqd,hq]
  simp only [Zau,Zaj,Zar,Zam,Zaf]
  refine (Ymz (sq.get (hS.get hj (Own.lt hj)) (by have:=Own.lt hj; have:=hS.le; omega))).mono ?_
  rintro v h3 ⟨rfl,s3⟩
  simp only [Zap]
  refine Zdb (fun hi=>?_) (fun hi=>skip _ s3 (by unfold Zig; simpa [hc] using hi))
  have hyes:Zig nd w.is[g]=true:=by unfold Zig; simpa [hc] using hi
  rw [hyes,if_pos rfl] at htk
  have S3:=(hS.cat sq).cat s3
  refine ((hv.same sq).same s3).push Ybf Yqa Yqi Yqk (by rw [Zay Zlg]; omega) rfl (by omega) (fun h6 hl6 hi6 hk6=>?_)
  simp only [Zaf]
  apply Zch.J7i
  rw [Zbt (by omega)]
  have hle:=S3.le
  refine hR (g + 1) _ _ _ _ _ _ (by omega) ⟨rfl,by omega,⟨by omega,fun j hj=>?_⟩,by rw [htk]; simp,Vec.mk1 ?_,fun i hi=>by cases hi; omega⟩
  ·rw [hk6 j (by omega) fun i hi=>by have:=ha i hi; omega]; exact S3.eq j hj
  ·rw [hi6,htk,Zkq]; rfl
 ·apply Zch.A3x0i
  have:g=n1:=by omega
  subst this
  rw [List.take_of_length_le (by omega)] at hv ⊢
  exact ⟨hS,_,_,_,_,rfl,hv.fresh (b:=h.length) rfl fun i hi=>ha i hi⟩
theorem Yfl {h:Zaa} {a0 a1:Pt} {n0 c0 n1 c1:Nat} {e0 e1:Bool} {w:Wd} {nd:Nd} (r:Zpz h a0 n0 c0 a1 n1 c1 w) (b:WB w) :
  Zah pg Zml [.agg [.slice a0 n0 c0 e0,.slice a1 n1 c1 e1],.agg [.str nd.1,.str nd.2]] h (Yvm w nd h):=by
 apply Zql.call
 simp only [Zax]
 generalize hh0:h ++ [Zcc.cells Zad [.slice a0 n0 c0 e0,.slice a1 n1 c1 e1] false]=h0
 generalize hh1:h0 ++ [Zcc.cells Zae [.str nd.1,.str nd.2] false]=h1
 have s0:Zbe h.length h h0:=by rw [← hh0]; exact Zao
 have s1:Zbe h0.length h0 h1:=by rw [← hh1]; exact Zao
 have w0:h0[h.length]?=some (Zsa a0 n0 c0 e0 a1 n1 c1 e1):=by rw [← hh0]; simp [Zsa]
 have w1:=s1.get w0 (Own.lt w0)
 have i1:h1[h0.length]?=some (.cells Zae [.str nd.1,.str nd.2] false):=by rw [← hh1]; simp
 have S1:=s0.cat s1
 rw [Yeb w1,Zed i1 (by simp)]
 simp only [List.drop_zero,List.take_succ_cons,List.take_zero,Zau,Zaj,Zar,Zaf,Zam]
 refine (Zic (r.same S1) b).mono ?_
 rintro v h2 ⟨rfl,s2⟩
 have i2:=s2.get i1 (Own.lt i1)
 have w2:=s2.get w1 (Own.lt w1)
 have S2:=S1.cat s2
 simp only [Zap]
 refine Zcq (fun b1=>⟨S2,none,0,0,true,by rw [b1],by unfold Ymj; rw [b1]; exact ⟨rfl,.inl rfl⟩⟩) (fun b1=>?_)
 rw [Yeb w2]
 simp only [Zau,Zaj,Zar,Zaf,Zak i2,Nat.zero_add,List.getElem?_cons_zero,Zam]
 refine (Ylw (r.same S2) b i2).mono ?_
 rintro v h3 ⟨s3,a,n,c,e,rfl,f⟩
 simp only [Zaf]
 exact ⟨S2.cat s3,a,n,c,e,by rw [b1],by unfold Ymj; rw [if_pos b1]; exact f.low S2.le⟩
theorem Yea {h:Zaa} {a0 a1:Pt} {n0 c0 n1 c1:Nat} {e0 e1:Bool} {w:Wd} {nd:Nd} (r:Zpz h a0 n0 c0 a1 n1 c1 w) (b:WB w) (hnt:nd.2.length≤1048576) :
  Zah pg Zmo [.agg [.slice a0 n0 c0 e0,.slice a1 n1 c1 e1],.agg [.str nd.1,.str nd.2]] h (Yvm w nd h):=by
 have hl1:=r.len1
 have hli:=b.li
 apply Zfg.call
 simp only [Zax]
 generalize hh0:h ++ [Zcc.cells Zad [.slice a0 n0 c0 e0,.slice a1 n1 c1 e1] false]=h0
 generalize hh1:h0 ++ [Zcc.cells Zae [.str nd.1,.str nd.2] false]=h1
 generalize hh2:h1 ++ [Zcc.cells Zgj [] false]=h2
 have s0:Zbe h.length h h0:=by rw [← hh0]; exact Zao
 have s1:Zbe h0.length h0 h1:=by rw [← hh1]; exact Zao
 have s2:Zbe h1.length h1 h2:=by rw [← hh2]; exact Zao
 have w0:h0[h.length]?=some (Zsa a0 n0 c0 e0 a1 n1 c1 e1):=by rw [← hh0]; simp [Zsa]
 have w2:=s2.get (s1.get w0 (Own.lt w0)) (by have:=Own.lt w0; have:=s1.le; omega)
 have i1:h1[h0.length]?=some (.cells Zae [.str nd.1,.str nd.2] false):=by rw [← hh1]; simp
 have i2:=s2.get i1 (Own.lt i1)
 have o2:h2[h1.length]?=some (.cells Zgj [] false):=by rw [← hh2]; simp
 have S2:=(s0.cat s1).cat s2
 have hle1:=(s0.cat s1).le
 have l1':h1.length=h0.length + 1:=by rw [← hh1]; simp
 rw [Yeb w2,Zed i2 (by simp)]
 simp only [List.drop_zero,List.take_succ_cons,List.take_zero,Zau,Zaj,Zar,Zaf,Zam]
 refine (Znk (r.same S2) b hnt).mono ?_
 rintro v h3 ⟨rfl,s3⟩
 simp only [Zap]
 have hS3:=S2.cat s3
 have i3':=s3.get i2 (Own.lt i2)
 have o3:=s3.get o2 (Own.lt o2)
 have w3:=s3.get w2 (Own.lt w2)
 refine Zcq (fun b1=>⟨hS3,_,0,0,true,by rw [b1],by unfold Ymj; rw [b1]; exact ⟨rfl,.inl rfl⟩⟩) (fun b1=>?_)
 simp only [Yau w3,Nat.zero_add,List.getElem?_cons_succ,List.getElem?_cons_zero,Zaf]
 refine Zfg.L5ind _ _ _ _ _ _ _ _ (J:=fun (g:Nat) a4 n4 c4 e4 x12 h'=>x12=(g:Int)∧g≤n1∧Zbe h.length h h'∧h'[h0.length]?=some (.cells Zae [.str nd.1,.str nd.2] false)∧n4=(ixs (Zig nd) (w.is.take g)).length∧Vec Zgj h' a4 n4 c4 (Zdq eI (ixs (Zig nd) (w.is.take g)))∧(∀ i,a4=some (i,0)→h1.length≤i)) (fun g=>n1 - g) ?_ 0 _ _ _ _ _ _
  ⟨rfl,by omega,hS3,i3',rfl,Vec.mk1 (by simpa [ixs] using o3),fun i hi=>by cases hi; omega⟩
 rintro g a4 n4 c4 e4 x12 h' ⟨rfl,hg,hS,hi0,rfl,hv,ha⟩ R hR
 have hlt1:=Own.lt i1
 unfold Zfg.L5t
 refine Zav (fun hlt=>?_) (fun hge=>?_)
 ·have hgl:g < w.is.length:=by omega
  obtain ⟨i,o,a2,n2,c2,e2,rfl,_,hr,_,_,hrow,hn⟩:=Ztv (r.same hS) hgl
  simp only [Zaw,Int.toNat_natCast,hr,Zau,Zaj,Zar,Zam,Zaf,Zax]
  rw [Zws]
  have hil:=Zqv (Zig nd) (w.is.take g)
  rw [List.length_take] at hil
  have htk:=Zna (Zig nd) hgl
  have hb:=b.is _ (List.getElem_mem hgl)
  generalize hq:h' ++ [Zcc.cells Zac [.str w.is[g].1.1,.str w.is[g].1.2,.slice a2 n2 c2 e2] false]=hq'
  have sq:Zbe h'.length h' hq':=by rw [← hq]; exact Zao
  have oq:hq'[h'.length]?=some (.cells Zac [.str w.is[g].1.1,.str w.is[g].1.2,.slice a2 n2 c2 e2] false):=by rw [← hq]; simp
  have iq:=sq.get hi0 (Own.lt hi0)
  simp only [Zat,Zak oq,Zak iq,Nat.zero_add,List.getElem?_cons_succ,List.getElem?_cons_zero,Zam]
  have skip:∀ hz,Zbe hq'.length hq' hz→Zig nd w.is[g]=false→Zfg.J9 (Yvm w nd h) R (g:Int) (((n1:Nat):Int)) (some (i,o)) n1 c1 e1 h0.length 0 a4 (ixs (Zig nd) (w.is.take g)).length c4 e4 hz:=by
   intro hz sz hno
   apply Zfg.J9i
   rw [hno] at htk
   simp only [Bool.false_eq_true,if_false,List.append_nil] at htk
   rw [Zbt (by omega)]
   exact hR (g + 1) _ _ _ _ _ _ (by omega) ⟨rfl,by omega,(hS.cat sq).cat sz,sz.get iq (Own.lt iq),by rw [htk],by rw [htk]; exact (hv.same sq).same sz,ha⟩
  refine ⟨by omega,Zav (fun hc=>?_) (fun hc=>skip _ (Zbe.refl _ _) (by unfold Zig; simp [hc]))⟩
  refine (Ydl _ _ hb.2.1 hnt _).mono ?_
  rintro v h3 ⟨rfl,s3⟩
  simp only [Zap]
  refine Zdb (fun hi=>?_) (fun hi=>skip _ s3 (by unfold Zig; simpa [hc] using hi))
  have hyes:Zig nd w.is[g]=true:=by unfold Zig; simpa [hc] using hi
  rw [hyes,if_pos rfl] at htk
  have S3:=(hS.cat sq).cat s3
  have i3:=s3.get iq (Own.lt iq)
  refine ((hv.same sq).same s3).push Ybf Yqa Yqi Yqk (by rw [Zay Zlg]; omega) rfl (by omega) (fun h6 hl6 hi6 hk6=>?_)
  simp only [Zaf]
  apply Zfg.J9i
  rw [Zbt (by omega)]
  have hle:=S3.le
  have hle3:=Own.lt i3
  refine hR (g + 1) _ _ _ _ _ _ (by omega) ⟨rfl,by omega,⟨by omega,fun j hj=>?_⟩,?_,by rw [htk]; simp,Vec.mk1 ?_,fun i hi=>by cases hi; have:=s3.le; have:=sq.le; have:=Own.lt hi0; omega⟩
  ·rw [hk6 j (by omega) fun i hi=>by have:=ha i hi; omega]; exact S3.eq j hj
  ·rw [hk6 _ hle3 fun i hi=>by have:=ha i hi; omega]; exact i3
  ·rw [hi6,htk,Zkq]; rfl
 ·apply Zfg.A5x0i
  have:g=n1:=by omega
  subst this
  rw [List.take_of_length_le (by omega)] at hv ⊢
  refine ⟨hS,_,_,_,_,by rw [b1],?_⟩
  unfold Ymj; rw [if_pos b1]
  exact hv.fresh (b:=h.length) rfl fun i hi=>by have:=ha i hi; omega
end Go.Sim

set_option linter.unusedVariables false
set_option linter.unusedSimpArgs false
set_option maxRecDepth 20000
namespace Go.Sim
open Go Go.RowKit

def eB (b:Nat):List Zas:=[.int .u8 (b:Int)]
theorem Ybo (x:Nat):(eB x).length=1:=rfl
def Rdr (h:Zaa) (i p:Nat):Prop:=∃ a n c e,∃ l:List Nat,h[i]?=some (.cells Znh [.slice a n c e,.int .i64 (p:Int)] false)∧Row i h a n (Zdq eB l)∧(∀ b∈l,b < 256)∧n≤2000
theorem Rdr.agree {h h':Zaa} {i p:Nat} (r:Rdr h i p) (hh:∀ j,j≤i→h'[j]?=h[j]?) (hl:h.length≤h'.length):Rdr h' i p:=by
 obtain ⟨a,n,c,e,l,hi,hr,hb,hn⟩:=r
 exact ⟨a,n,c,e,l,by rw [hh i (Nat.le_refl _)]; exact hi,hr.same ⟨hl,fun j hj=>hh j (by omega)⟩,hb,hn⟩
theorem Rdr.lt {h:Zaa} {i p:Nat} (r:Rdr h i p):i < h.length:=by obtain ⟨a,n,c,e,l,hi,_⟩:=r; exact Own.lt hi
theorem Rdr.same {h h':Zaa} {i p:Nat} (r:Rdr h i p) (s:Zbe h.length h h'):Rdr h' i p:=r.agree (fun j hj=>s.eq j (by have:=r.lt; omega)) s.le
theorem Rdr.app {h:Zaa} {i p:Nat} (r:Rdr h i p) (l:Zaa):Rdr (h ++ l) i p:=r.same (Zbe.app (Nat.le_refl _) _)
theorem Yij {h:Zaa} {a:Pt} {n c:Nat} {e:Bool} {l:List Nat} (r:Row h.length h a n (Zdq eB l)) (hb:∀ b∈l,b < 256) (hnc:n≤c):Zah pg Zkw [.slice a n c e] h fun v h'=>v=.ptr (some (h.length,0))∧Zbe h.length h h'∧Rdr h' h.length 0∧h'.length=h.length + 1:=by
 have hl:l.length=n:=by have:=r.1; rw [Zay Ybo] at this; omega
 apply Zks.call
 have fin:∀ (a:Pt) (n c:Nat) (e:Bool) (l:List Nat),Row h.length h a n (Zdq eB l)→(∀ b∈l,b < 256)→n≤2000→Zks.J3 (fun v h'=>v=.ptr (some (h.length,0))∧Zbe h.length h h'∧Rdr h' h.length 0∧h'.length=h.length + 1) a n c e h:=by
  intro a n c e l r hb hn
  apply Zks.J3i
  simp only [Zax]
  exact ⟨by trivial,Zbe.app (Nat.le_refl _) _,⟨a,n,c,e,l,by simp,r.same (Zbe.app (Nat.le_refl _) _),hb,hn⟩,by simp⟩
 refine Zav (fun hgt=>?_) (fun hle=>fin a n c e l r hb (by omega))
 have hcut:Row h.length h a 2000 (Zdq eB (l.take 2000)):=by
  obtain ⟨h1,h2⟩:=r
  have hlen:(Zdq eB (l.take 2000)).length=2000:=by rw [Zay Ybo,List.length_take]; omega
  refine ⟨hlen,.inr ?_⟩
  rcases h2 with h0 | ⟨i,o,t,all,ro,ha,hi,hg,hle,hcs⟩
  ·omega
  ·refine ⟨i,o,t,all,ro,ha,hi,hg,by omega,?_⟩
   have:=Yfn (enc:=eB) Ybo l 2000
   rw [Nat.mul_one] at this
   rw [← this,hcs,List.take_take,Nat.min_eq_left (by omega)]
 obtain ⟨_,h2⟩:=r
 rcases h2 with h0 | ⟨i,o,t,all,ro,ha,hi,hg,hle,hcs⟩
 ·omega
 ·subst ha
  simp only [Zkm,Zjz]
  refine ⟨by omega,fun hlt=>?_,fun hno=>by omega⟩
  simp only [Zaf]
  have e1:o + Int.toNat 0 * 1=o:=by simp
  have e2:((2000:Int) - 0).toNat=2000:=by omega
  rw [e1,e2]
  exact fin _ _ _ _ _ hcut (fun b hb'=>hb b (List.mem_of_mem_take hb')) (by omega)
theorem Yus {x:Int} (h0:0≤x) (h1:x < 4611686018427387904):0≤IntKind.wrap .i64 ((BitVec.ofInt (IntKind.bits .i64) x ^^^ BitVec.ofInt (IntKind.bits .i64) (IntKind.wrap .i64 (Int.tdiv x 64))).toNat):=by
 obtain ⟨n,rfl⟩:∃ n:Nat,x=n:=⟨x.toNat,by omega⟩
 have hd:Int.tdiv (n:Int) 64=((n / 64:Nat):Int):=by rw [Int.tdiv_eq_ediv_of_nonneg (by omega)]; omega
 rw [hd,IntWalk.i64_in ((n / 64:Nat):Int) (by omega)]
 have hx:((BitVec.ofInt (IntKind.bits .i64) (n:Int)) ^^^ (BitVec.ofInt (IntKind.bits .i64) ((n / 64:Nat):Int))).toNat=n ^^^ (n / 64):=by
  rw [BitVec.toNat_xor,BitVec.toNat_ofInt,BitVec.toNat_ofInt]
  have e1:((n:Int) % ((2 ^ (IntKind.bits .i64):Nat):Int)).toNat=n:=by simp only [IntKind.bits]; omega
  have e2:(((n / 64:Nat):Int) % ((2 ^ (IntKind.bits .i64):Nat):Int)).toNat=n / 64:=by simp only [IntKind.bits]; omega
  rw [e1,e2]
 rw [hx]
 have hlt:n ^^^ (n / 64) < 2 ^ 62:=Nat.xor_lt_two_pow (by omega) (by omega)
 rw [IntWalk.i64_in _ (by omega)]; omega
theorem Zuw {x n:Int} (h0:0≤x) (hn:1≤n):0≤Int.tmod x n∧Int.tmod x n < n:=by
 rw [Int.tmod_eq_emod_of_nonneg h0]; exact ⟨Int.emod_nonneg _ (by omega),Int.emod_lt_of_pos _ (by omega)⟩
theorem Zdd {h:Zaa} {i p:Nat} (r:Rdr h i p) (hp:p≤1000000000000) (n:Int):Zah pg Zbc [.ptr (some (i,0)),.int .i64 n] h fun v h'=>
  ∃ x,v=.int .i64 x∧0≤x∧(1≤n→x < n)∧(n < 1→x=0)∧Zdp i h h'∧Rdr h' i (p + 1)∧h'.length=h.length:=by
 obtain ⟨a,m,c,e,l,hi,hr,hb,hm⟩:=r
 have hl:l.length=m:=by have:=hr.1; rw [Zay Ybo] at this; omega
 apply Zkh.call
 simp only [Zaw,Zak hi,Nat.zero_add,List.getElem?_cons_zero,List.getElem?_cons_succ,Zaq]
 rw [IntWalk.i64_in _ (by omega),Zba hi (by simp)]
 simp only [Zat]
 generalize hge:h.set i (Zcc.cells Znh (putRow [.slice a m c e,.int .i64 (p:Int)] 1 [.int .i64 ((p:Int) + 1)]) false)=h2
 have h2i:h2[i]?=some (.cells Znh [.slice a m c e,.int .i64 ((p:Int) + 1)] false):=by rw [← hge,Zbv hi]; simp [putRow]
 have hK:Zdp i h h2:=by rw [← hge]; exact Zdp.set _ _ _
 have h2l:h2.length=h.length:=by rw [← hge]; simp
 have hr2:Row i h2 a m (Zdq eB l):=hr.same ⟨by omega,fun j hj=>by rw [← hge,Zbl (by omega)]⟩
 have hR2:Rdr h2 i (p + 1):=⟨a,m,c,e,l,by rw [h2i]; simp,hr2,hb,hm⟩
 refine Zav (fun hlt=>⟨0,rfl,by omega,by omega,fun _=>rfl,hK,hR2,h2l⟩) (fun hge1=>?_)
 simp only [Zak h2i,Nat.zero_add,List.getElem?_cons_zero,Zaf]
 refine Zcs (fun h0=>⟨0,rfl,by omega,by omega,fun _=>rfl,hK,hR2,h2l⟩) (fun hne=>?_)
 have hm0:0 < m:=by omega
 have cell:∀ k,k < m→∃ ii o,∃ hk:k < l.length,a=some (ii,o)∧Zai h2 (.ptr (some (ii,o + k * 1)))=some (.int .u8 (l[k]:Int)):=by
  intro k hk
  obtain ⟨ii,o,hk',ha,_,hc⟩:=Row.el1 Ybo hr2 hk
  exact ⟨ii,o,hk',ha,hc⟩
 apply Zkh.J4i
 simp only [Zaw,Zak h2i,Nat.zero_add,List.getElem?_cons_zero,List.getElem?_cons_succ,Zaq,Zaf]
 rw [show (p:Int) + 1 - 1=p by omega,IntWalk.i64_in (p:Int) (by omega)]
 refine Zav (fun hlt=>?_) (fun hge2=>?_)
 ·obtain ⟨ii,o,hk,rfl,hc⟩:=cell p (by omega)
  simp only [Zaw,Int.toNat_natCast,hc,Zaq]
  have hbb:=hb _ (List.getElem_mem hk)
  rw [IntWalk.i64_in _ (by omega)]
  have:=Zuw (x:=(l[p]:Int)) (n:=n) (by omega) (by omega)
  exact ⟨by omega,by omega,_,rfl,this.1,fun _=>this.2,by omega,hK,hR2,h2l⟩
 ·have t1:=Zuw (x:=(p:Int)) (n:=(m:Int)) (by omega) (by omega)
  have e1:Int.tmod (p:Int) (m:Int)=((p % m:Nat):Int):=by rw [Int.tmod_eq_emod_of_nonneg (by omega)]; omega
  have e2:IntKind.wrap .i64 ((p:Int) * 7)=((p * 7:Nat):Int):=by rw [IntWalk.i64_in _ (by omega)]; omega
  have e3:IntKind.wrap .i64 (((p * 7:Nat):Int) + 3)=((p * 7 + 3:Nat):Int):=by rw [IntWalk.i64_in _ (by omega)]; omega
  have e4:Int.tmod ((p * 7 + 3:Nat):Int) (m:Int)=(((p * 7 + 3) % m:Nat):Int):=by rw [Int.tmod_eq_emod_of_nonneg (by omega)]; omega
  rw [e1,e2,e3,e4]
  obtain ⟨ii,o,hk,rfl,hc⟩:=cell (p % m) (Nat.mod_lt _ hm0)
  obtain ⟨ii',o',hk',ha',hc'⟩:=cell ((p * 7 + 3) % m) (Nat.mod_lt _ hm0)
  obtain ⟨rfl,rfl⟩:ii=ii'∧o=o':=by simpa using ha'
  have b1:=hb _ (List.getElem_mem hk)
  have b2:=hb _ (List.getElem_mem hk')
  have m1:=Nat.mod_lt p hm0
  have m2:=Nat.mod_lt (p * 7 + 3) hm0
  simp only [Zaw,Int.toNat_natCast,hc,hc',Zaq]
  refine ⟨by omega,by omega,by omega,by omega,by trivial,by trivial,by trivial,by trivial,by trivial,by trivial,by omega,by omega,by omega,?_⟩
  have e5:Int.tdiv (p:Int) (m:Int)=((p / m:Nat):Int):=by rw [Int.tdiv_eq_ediv_of_nonneg (by omega)]; omega
  have m3:p / m≤p:=Nat.div_le_self _ _
  generalize hA:((l[p % m]:Nat):Int)=A
  generalize hB:((l[(p * 7 + 3) % m]:Nat):Int)=B
  have hD1:0≤((p / m:Nat):Int)∧((p / m:Nat):Int)≤(p:Int):=⟨Int.natCast_nonneg _,Int.ofNat_le.2 m3⟩
  generalize ((p / m:Nat):Int)=D at e5 hD1
  have hA1:0≤A∧A < 256:=by omega
  have hB1:0≤B∧B < 256:=by omega
  rw [e5,IntWalk.i64_in A (by omega),IntWalk.i64_in B (by omega),IntWalk.i64_in (A * 131) (by omega),IntWalk.i64_in (B * 1117) (by omega),IntWalk.i64_in (A * 131 + B * 1117) (by omega),IntWalk.i64_in ((p:Int) * 29) (by omega),
   IntWalk.i64_in (A * 131 + B * 1117 + (p:Int) * 29) (by omega),IntWalk.i64_in D (by omega),IntWalk.i64_in (D * 53) (by omega),IntWalk.i64_in (A * 131 + B * 1117 + (p:Int) * 29 + D * 53) (by omega)]
  have hx:=Yus (x:=A * 131 + B * 1117 + (p:Int) * 29 + D * 53) (by omega) (by omega)
  have:=Zuw hx (by omega:1≤n)
  exact ⟨_,rfl,this.1,fun _=>this.2,by omega,hK,hR2,h2l⟩
theorem Ynz {h:Zaa} {i p j n c:Nat} {e:Bool} {t:TypeId} {l:List Int} (r:Rdr h i p) (hp:p≤1000000000000) (hj:h[j]?=some (.cells t (Zdq eI l) false)) (hji:j≠i) (hn:l.length=n) (h0:1≤n) :
  Zah pg Zel [.ptr (some (i,0)),.slice (some (j,0)) n c e] h fun v h'=>∃ x∈l,v=.int .i64 x∧Zdp i h h'∧Rdr h' i (p + 1)∧h'.length=h.length:=by
 apply Zps.call
 refine (Zdd r hp n).mono ?_
 rintro v h2 ⟨x,rfl,h0x,hlt,_,hK,hR,hl⟩
 simp only [Zaq,Zaw]
 have hlt:=hlt (by omega)
 obtain ⟨k,rfl⟩:∃ k:Nat,x=k:=⟨x.toNat,by omega⟩
 have hj2:h2[j]?=some (.cells t (Zdq eI l) false):=by rw [hK.eq j (Own.lt hj) hji]; exact hj
 have hrow:Row h2.length h2 (some (j,0)) n (Zdq eI l):=⟨by rw [Zay Zlg]; omega,.inr ⟨j,0,t,_,false,rfl,Own.lt hj2,hj2,by rw [Zay Zlg]; omega,by rw [List.drop_zero,List.take_of_length_le (by rw [Zay Zlg]; omega)]⟩⟩
 obtain ⟨ii,o,hk,ha,_,hc⟩:=Row.el1 Zlg hrow (k:=k) (by omega)
 cases ha
 rw [Int.toNat_natCast,hc]
 simp only [eI,List.getElem?_cons_zero,Zaq]
 exact ⟨by omega,l[k],List.getElem_mem hk,rfl,hK,hR,hl⟩
theorem Zlm {h:Zaa} {i p j n c:Nat} {e:Bool} {t:TypeId} {l:List (List Nat)} (r:Rdr h i p) (hp:p≤1000000000000) (hj:h[j]?=some (.cells t (Zdq eS l) false)) (hji:j≠i) (hn:l.length=n) (h0:1≤n) :
  Zah pg Zce [.ptr (some (i,0)),.slice (some (j,0)) n c e] h fun v h'=>∃ x∈l,v=.str x∧Zdp i h h'∧Rdr h' i (p + 1)∧h'.length=h.length:=by
 apply Zqg.call
 refine (Zdd r hp n).mono ?_
 rintro v h2 ⟨x,rfl,h0x,hlt,_,hK,hR,hl⟩
 simp only [Zaq,Zaw]
 have hlt:=hlt (by omega)
 obtain ⟨k,rfl⟩:∃ k:Nat,x=k:=⟨x.toNat,by omega⟩
 have hj2:h2[j]?=some (.cells t (Zdq eS l) false):=by rw [hK.eq j (Own.lt hj) hji]; exact hj
 have hrow:Row h2.length h2 (some (j,0)) n (Zdq eS l):=⟨by rw [Zay Zlc]; omega,.inr ⟨j,0,t,_,false,rfl,Own.lt hj2,hj2,by rw [Zay Zlc]; omega,by rw [List.drop_zero,List.take_of_length_le (by rw [Zay Zlc]; omega)]⟩⟩
 obtain ⟨ii,o,hk,ha,_,hc⟩:=Row.el1 Zlc hrow (k:=k) (by omega)
 cases ha
 rw [Int.toNat_natCast,hc]
 simp only [eS,List.getElem?_cons_zero,Zam]
 exact ⟨by omega,l[k],List.getElem_mem hk,rfl,hK,hR,hl⟩
theorem Rdr.keep {h h':Zaa} {i p:Nat} (r:Rdr h i p) (hh:∀ j,j≤i→h'[j]?=h[j]?) (hl:h.length≤h'.length):Rdr h' i p:=r.agree hh hl
end Go.Sim

set_option linter.unusedVariables false
set_option linter.unusedSimpArgs false
set_option maxRecDepth 20000
namespace Go.Sim
open Go Go.RowKit

theorem Ygd {h:Zaa} {i p:Nat} (r:Rdr h i p) (hp:p≤1000000000000) (g:Bool) (Q:QT) (hQ:∀ c h',Zfs c=true→Zdp i h h'→Rdr h' i (p + 1)→Q (.str [c]) h') :
  bcase g (Zco (h ++ [.cells Zbg [.str [105],.str [98],.str [105],.str [117]] false]) fun h_0=>Zah pg Zce [.ptr (some (i,0)),.slice (some (List.length h,0)) 4 4 true] h_0 fun v_1 h_2=>
 Zbn (some v_1) fun s_3=>Q (.str s_3) h_2) (Zco (h ++ [.cells Zbg [.str [120],.str [105],.str [121],.str [98],.str [120],.str [122],.str [117]] false]) fun h_4=>Zah pg Zce [.ptr (some (i,0)),.slice (some (List.length h,0)) 7 7 true] h_4 fun v_5 h_6=>
 Zbn (some v_5) fun s_7=>Q (.str s_7) h_6):=by
 have hil:=r.lt
 have go:∀ (l:List (List Nat)) (n:Nat),l.length=n→1≤n→(∀ x∈l,∃ c,x=[c]∧Zfs c=true)→Zco (h ++ [.cells Zbg (Zdq eS l) false]) fun h_0=>Zah pg Zce [.ptr (some (i,0)),.slice (some (List.length h,0)) n n true] h_0 fun v_1 h_2=>Zbn (some v_1) fun s_3=>Q (.str s_3) h_2:=by
  intro l n hn h1 hl
  simp only [Zax]
  refine (Zlm (r.app _) hp (j:=h.length) (t:=Zbg) (l:=l) (by simp) (by omega) hn h1).mono ?_
  rintro v h2 ⟨x,hx,rfl,hK,hR,_⟩
  obtain ⟨c,rfl,hc⟩:=hl x hx
  simp only [Zam]
  exact hQ c h2 hc ((Zdp.app i h _).trans hK) hR
 cases g with
 | true=>exact go [[105],[98],[105],[117]] 4 rfl (by omega) (by intro x hx; simp at hx; rcases hx with rfl | rfl | rfl | rfl <;> exact ⟨_,rfl,rfl⟩)
 | false=>exact go [[120],[105],[121],[98],[120],[122],[117]] 7 rfl (by omega) (by intro x hx; simp at hx; rcases hx with rfl | rfl | rfl | rfl | rfl | rfl | rfl <;> exact ⟨_,rfl,rfl⟩)
def DrQ (i p d:Nat) (h:Zaa) (v:Zas) (h':Zaa):Prop:=∃ t:Ty,v=.str t.txt∧t.ok=true∧t.txt.length≤4 ^ (d + 1)∧Zdp i h h'∧∃ p',p≤p'∧p'≤p + 4 ^ (d + 1)∧Rdr h' i p'
theorem Zts:∀ (d:Nat),d≤8→∀ {h:Zaa} {i p:Nat},Rdr h i p→p + 4 ^ (d + 1)≤1000000000000→∀ (g:Bool),Zah pg Zes [.ptr (some (i,0)),.int .i64 (d:Int),.bool g] h (DrQ i p d h):=by
 intro d
 induction d with
 | zero=>
  intro _ h i p r hp g
  apply Zlx.call
  refine Zcs (fun _=>?_) (fun hne=>absurd rfl hne)
  exact Ygd r (by omega) g (DrQ i p 0 h) fun c h' hc hK hR=>⟨.k c,rfl,by simpa [Ty.ok] using hc,by simp [Ty.txt],hK,p + 1,by omega,by omega,hR⟩
 | succ d ih=>
  intro hd h i p r hp g
  have hB:4 ^ (d + 1 + 1)=4 * 4 ^ (d + 1):=by rw [Nat.pow_succ]; omega
  have hB1:4≤4 ^ (d + 1):=by rw [Nat.pow_succ]; have:=Nat.one_le_two_pow (n:=0); have:1≤4 ^ d:=Nat.one_le_pow _ _ (by omega); omega
  have hB2:4 ^ (d + 1)≤1000000000000:=by omega
  generalize hBB:4 ^ (d + 1)=B at *
  apply Zlx.call
  refine Zcs (fun he=>by omega) (fun _=>?_)
  refine (Zdd r (by omega) 3).mono ?_
  rintro v h1 ⟨x,rfl,hx0,hx1,_,K1,R1,_⟩
  simp only [Zaq]
  refine Zcs (fun _=>?_) (fun _=>?_)
  ·exact Ygd R1 (by omega) g (DrQ i p (d + 1) h) fun c h' hc hK hR=>⟨.k c,rfl,by simpa [Ty.ok] using hc,by rw [hB]; simp [Ty.txt]; omega,K1.trans hK,p + 1 + 1,by omega,by omega,hR⟩
  ·apply Zlx.J5i
   refine (Zdd R1 (by omega) 4).mono ?_
   rintro v h2 ⟨x,rfl,hx0,hx1,_,K2,R2,_⟩
   have hw:IntKind.wrap .i64 (((d + 1:Nat):Int) - 1)=(d:Int):=by rw [IntWalk.i64_in _ (by omega)]; omega
   have K12:=K1.trans K2
   simp only [Zaq]
   rw [hw]
   have one:∀ (c:Nat),(c=109 ∨ c=108)→Zah pg Zes [.ptr (some (i,0)),.int .i64 (d:Int),.bool g] h2 fun v_28 h_29=>
     Zbn (some v_28) fun s_30=>List.length ([c,40]) + List.length s_30≤9223372036854775807∧(List.length (([c,40]) ++ s_30) + List.length [41]≤9223372036854775807∧(DrQ i p (d + 1) h (.str ((([c,40]) ++ s_30) ++ [41])) h_29)):=by
    intro c hc
    refine (ih (by omega) R2 (by omega) g).mono ?_
    rintro v h3 ⟨t,rfl,hok,hlen,K3,p3,hp1,hp2,R3⟩
    rw [hBB] at hlen hp2
    simp only [Zam]
    refine ⟨by simp; omega,by simp; omega,.u c t,by simp [Ty.txt],?_,?_,K12.trans K3,p3,by omega,by omega,R3⟩
    ·simp only [Ty.ok,hok,Bool.and_true]; rcases hc with rfl | rfl <;> rfl
    ·rw [hB]; simp [Ty.txt]; omega
   refine Zcs (fun _=>?_) (fun _=>Zcs (fun _=>one 109 (.inl rfl)) (fun _=>one 108 (.inr rfl)))
   refine (ih (by omega) R2 (by omega) g).mono ?_
   rintro v h3 ⟨t,rfl,hok,hlen,K3,p3,hp1,hp2,R3⟩
   rw [hBB] at hlen hp2
   simp only [Zam]
   refine ⟨by simp; omega,by simp; omega,?_⟩
   refine (ih (by omega) R3 (by omega) g).mono ?_
   rintro v h4 ⟨t2,rfl,hok2,hlen2,K4,p4,hp3,hp4,R4⟩
   rw [hBB] at hlen2 hp4
   simp only [Zam]
   refine ⟨by simp; omega,by simp; omega,.w 112 t t2,by simp [Ty.txt],by simp [Ty.ok,hok,hok2],?_,(K12.trans K3).trans K4,p4,by omega,by omega,R4⟩
   rw [hB]; simp [Ty.txt]; omega
def TxQ (i p:Nat) (h:Zaa) (v:Zas) (h':Zaa):Prop:=∃ s:List Nat,v=.str s∧s.length≤1000∧Zdp i h h'∧∃ p',p≤p'∧p'≤p + 1000∧Rdr h' i p'
theorem Yeh (s:List Nat) (a b:Int):(sub s a b).length≤s.length:=by unfold sub; simp; omega
theorem Yqf {h:Zaa} {i p:Nat} (r:Rdr h i p) (hp:p≤900000000000):Zah pg Zqz [.ptr (some (i,0))] h (TxQ i p h):=by
 apply Zvd.call
 refine (Zdd r (by omega) 4).mono ?_
 rintro v h1 ⟨x,rfl,hx0,hx1,_,K1,R1,_⟩
 have hx1:=hx1 (by omega)
 simp only [Zaq]
 refine (Zdd R1 (by omega) 2).mono ?_
 rintro v h2 ⟨y,rfl,hy0,hy1,_,K2,R2,_⟩
 simp only [Zaq]
 obtain ⟨d,rfl⟩:∃ d:Nat,x=d:=⟨x.toNat,by omega⟩
 have hd:d≤3:=by omega
 have hB:4 ^ (d + 1)≤256:=by
  have:d=0 ∨ d=1 ∨ d=2 ∨ d=3:=by omega
  rcases this with rfl | rfl | rfl | rfl <;> decide
 refine (Zts d (by omega) R2 (by omega) _).mono ?_
 rintro v h3 ⟨t,rfl,hok,hlen,K3,p3,hp1,hp2,R3⟩
 generalize ht:t.txt=s at hlen
 have K13:=(K1.trans K2).trans K3
 simp only [Zam]
 refine (Zdd R3 (by omega) 16).mono ?_
 rintro v h4 ⟨z,rfl,hz0,hz1,_,K4,R4,_⟩
 have K14:=K13.trans K4
 simp only [Zaq]
 refine Zav (fun _=>⟨s,rfl,by omega,K14,p3 + 1,by omega,by omega,R4⟩) (fun _=>?_)
 have hs1:1≤s.length:=by rw [← ht]; obtain ⟨y,hy⟩:=t.txt_cons; rw [hy]; simp
 refine (Zdd R4 (by omega) (s.length:Nat)).mono ?_
 rintro v h5 ⟨k,rfl,hk0,hk1,_,K5,R5,_⟩
 have hk1:=hk1 (by omega)
 simp only [Zaq]
 refine ⟨by omega,?_⟩
 simp only [Zax]
 have hil:=R5.lt
 refine (Zlm (R5.app _) (by omega) (j:=h5.length) (t:=Zbg) (n:=7) (l:=[[],[40],[41],[44],[105],[113],[88]]) (by simp [Zdq,eS]) (by omega) rfl (by omega)).mono ?_
 rintro v h6 ⟨w,hw,rfl,K6,R6,_⟩
 have K16:=((K14.trans K5).trans (Zdp.app i h5 _)).trans K6
 have hwl:w.length≤1:=by simp at hw; rcases hw with rfl | rfl | rfl | rfl | rfl | rfl | rfl <;> simp
 simp only [Zam]
 have hs1:=Yeh s 0 k
 refine ⟨by omega,?_⟩
 refine (Zdd R6 (by omega) 2).mono ?_
 rintro v h7 ⟨u,rfl,hu0,hu1,_,K7,R7,_⟩
 have hu1:=hu1 (by omega)
 simp only [Zaq]
 rw [IntWalk.i64_in (k + u) (by omega)]
 have hs2:=Yeh s (k + u) s.length
 refine ⟨by omega,by simp; omega,_,rfl,by simp; omega,K16.trans K7,_,?_,?_,R7⟩ <;> omega
theorem Ygi:∀ (vs:List Nat) (ts:List Ty),vs.Nodup→∀ k (hk:k < vs.length),k < ts.length→Zfl (vs.zip ts) vs[k]=ts[k]?
 | [],_,_,k,hk,_=>by simp at hk
 | v :: vs,[],_,k,_,h=>by simp at h
 | v :: vs,t :: ts,hn,0,_,_=>by simp [Zfl]
 | v :: vs,t :: ts,hn,k + 1,hk,h=>by
  have h1:=List.nodup_cons.1 hn
  have hk':k < vs.length:=by simpa using hk
  have hne:v≠vs[k]:=fun e=>h1.1 (e ▸ List.getElem_mem hk')
  simp only [List.zip_cons_cons,Zfl,List.getElem_cons_succ,if_neg hne,List.getElem?_cons_succ]
  exact Ygi vs ts h1.2 k hk' (by simpa using h)
theorem Ylv:∀ {m:Bd} {v:Nat} {u:Ty},Zfl m v=some u→(v,u)∈m
 | [],_,_,h=>by cases h
 | (a,b) :: m,v,u,h=>by
  simp only [Zfl] at h
  split at h
  ·rename_i e; cases h; subst e; exact List.mem_cons_self ..
  ·exact List.mem_cons_of_mem _ (Ylv h)
theorem Ztd {f:Nat→Option Ty} (hf:∀ c u,f c=some u→u.txt.length≤16):∀ t:Ty,(subst f t).txt.length≤16 * t.txt.length
 | .k c=>by
  simp only [subst]
  cases h:f c with
  | none=>simp [Ty.txt]
  | some u=>have:=hf c u h; simp [Ty.txt]; omega
 | .u c a=>by have:=Ztd hf a; simp [subst,Ty.txt]; omega
 | .w c a b=>by have:=Ztd hf a; have:=Ztd hf b; simp [subst,Ty.txt]; omega
theorem Ylm {h:Zaa} {i p:Nat} {s:List Nat} (r:Rdr h i p) (hp:p≤900000000000) (hs:s.length≤1048576):Zah pg Zju [.ptr (some (i,0)),.str s] h (TxQ i p h):=by
 apply Zjw.call
 refine (Zmi s (by omega) h).mono ?_
 rintro v h1 ⟨s1,vs,rfl,hm⟩
 have hil:=r.lt
 have leaf:∀ h',Zdp i h h'→∀ p',p≤p'→p'≤p + 1000→Rdr h' i p'→TxQ i p h (.str [105]) h':=fun h' K p' h1 h2 R=>⟨[105],rfl,by simp,K,p',h1,h2,R⟩
 have hvs:∃ (d:Nat) (a:Pt) (n c:Nat) (e:Bool),vs=[.int .u8 (d:Int),.slice a n c e]:=by
  split at hm
  ·obtain ⟨a,c,e,rfl⟩:=hm.shape; exact ⟨_,_,_,_,_,rfl⟩
  ·exact ⟨0,_,_,_,_,hm⟩
 obtain ⟨d,a,n,c,e,rfl⟩:=hvs
 simp only [Zdx,Zaj,Zde,Zaq,Zaf,Zar,Zap,Zax]
 rw [Zgk]
 simp only [Zat]
 generalize hh2:h1 ++ [Zcc.cells Zab [.int .u8 (d:Int),.slice a n c e] false]=h2
 have s2:Zbe h1.length h1 h2:=by rw [← hh2]; exact Zao
 have l2:h2.length=h1.length + 1:=by rw [← hh2]; simp
 have n2:h2[h1.length]?=some (.cells Zab [.int .u8 (d:Int),.slice a n c e] false):=by rw [← hh2]; simp
 have S2:=s1.cat s2
 refine Zcq (fun hno=>leaf _ (Zdp.of_same S2) p (by omega) (by omega) (r.same S2)) (fun hyes=>?_)
 have hof:∃ t,Zgv s=some t:=by
  unfold Zkg at hyes
  cases hx:Zgv s with
  | none=>rw [hx] at hyes; cases hyes
  | some t=>exact ⟨t,rfl⟩
 obtain ⟨t,ht⟩:=hof
 obtain ⟨hok,hst,hsl⟩:=Zec.1 ht
 rw [ht] at hm
 simp only at hm
 generalize hh3:h2 ++ [Zcc.cells Zcj [.int .u8 0,.slice none 0 0 true,.int .u8 0,.slice none 0 0 true,.int .u8 0,.slice none 0 0 true,.int .u8 0,.slice none 0 0 true,.int .u8 0,.slice none 0 0 true,.int .u8 0,.slice none 0 0 true,.int .u8 0,.slice none 0 0 true,.int .u8 0,.slice none 0 0 true,.int .u8 0,.slice none 0 0 true,.int .u8 0,.slice none 0 0 true,.int .u8 0,.slice none 0 0 true,.int .u8 0,.slice none 0 0 true] false]=h3
 have s3:Zbe h2.length h2 h3:=by rw [← hh3]; exact Zao
 have l3:h3.length=h2.length + 1:=by rw [← hh3]; simp
 have m3:h3[h2.length]?=some (.cells Zcj (Zdq eR (List.replicate 12 (.int .u8 0,.slice none 0 0 true))) false):=by rw [← hh3]; simp; rfl
 have S3:=S2.cat s3
 have n3:=s3.get n2 (Own.lt n2)
 have r3:=r.same S3
 refine Zjw.L6ind (J:=fun (g:Nat) x19 h'=>x19=(g:Int)∧g≤12∧Zdp i h h'∧(∃ p',p≤p'∧p'≤p + g * 80∧Rdr h' i p')∧h3.length≤h'.length∧h'[h1.length]?=some (.cells Zab [.int .u8 (d:Int),.slice a n c e] false) ∧
   Zew (fun j=>j≠h2.length∧j≠i∧j < h'.length) h' t [.int .u8 (d:Int),.slice a n c e] ∧
   ∃ (rows:List (Zas × Zas)) (ts:List Ty),rows.length=12∧ts.length=g∧(∀ u∈ts,u.ok=true∧u.txt.length≤16)∧h'[h2.length]?=some (.cells Zcj (Zdq eR rows) false) ∧
    ∀ (k:Nat) (x:Zas × Zas) (u:Ty),rows[k]?=some x→ts[k]?=some u→Zew (fun j=>j≠h2.length∧j≠i∧j < h'.length) h' u (eR x))
  (m:=fun g=>12 - g) (hr:=?_) (g:=0) (hj:=⟨rfl,by omega,Zdp.of_same S3,⟨p,by omega,by omega,r3⟩,Nat.le_refl _,n3,?_,_,[],by simp,rfl,by simp,m3,by simp⟩) ..
 ·rintro g x19 h4 ⟨rfl,hg,K4,⟨p4,hp1,hp2,R4⟩,l4,n4,rt,rows,ts,hrl,htl,hts,m4,hrep⟩ R hR
  unfold Zjw.L6t
  refine Zav (fun hlt=>?_) (fun hge=>?_)
  ·refine (Zdd R4 (by omega) 2).mono ?_
   rintro v h5 ⟨x,rfl,hx0,hx1,_,K5,R5,_⟩
   have hx1:=hx1 (by omega)
   simp only [Zaq]
   refine (Zdd R5 (by omega) 2).mono ?_
   rintro v h6 ⟨y,rfl,hy0,hy1,_,K6,R6,_⟩
   simp only [Zaq]
   obtain ⟨q,rfl⟩:∃ q:Nat,x=q:=⟨x.toNat,by omega⟩
   have hB:4 ^ (q + 1)≤16:=by
    have:q=0 ∨ q=1:=by omega
    rcases this with rfl | rfl <;> decide
   refine (Zts q (by omega) R6 (by omega) _).mono ?_
   rintro v h7 ⟨u,rfl,huok,hulen,K7,p7,hp3,hp4,R7⟩
   have K47:=(K5.trans K6).trans K7
   simp only [Zam]
   refine (Zmi u.txt (by omega) h7).mono ?_
   rintro v h8 ⟨s8,vu,rfl,hmu⟩
   rw [Zec.2 ⟨huok,rfl,by omega⟩] at hmu
   simp only at hmu
   obtain ⟨au,cu,eu,hsh⟩:=hmu.shape
   subst hsh
   have K48:=K47.trans (Zdp.of_same s8)
   simp only [Zdx,Zaj,Zde,Zaq,Zaf,Zar,Zap]
   have l8:=K48.le
   have hm2i:h2.length≠i:=by have:=S2.le; omega
   have m8:h8[h2.length]?=some (.cells Zcj (Zdq eR rows) false):=by rw [K48.eq _ (Own.lt m4) hm2i]; exact m4
   have hfl:(Zdq eR rows).length=24:=by rw [Zay Zkc,hrl]
   rw [Nat.zero_add,Int.toNat_natCast,Zba m8 (by rw [hfl]; simp; omega)]
   simp only [Zat]
   rw [show ([Zas.int .u8 (u.hd:Int),Zas.slice au u.ps.length cu eu]:List Zas)=eR (Zas.int .u8 (u.hd:Int),Zas.slice au u.ps.length cu eu) from rfl,Zvz Zkc (by omega),Zbt (by omega)]
   have hset:∀ j,j≠h2.length→(h8.set h2.length (Zcc.cells Zcj (Zdq eR (rows.set g (Zas.int .u8 (u.hd:Int),Zas.slice au u.ps.length cu eu))) false))[j]?=h8[j]?:=fun j hj=>Zbl (fun e=>hj e.symm)
   have old:∀ j,(j≠h2.length∧j≠i∧j < h4.length)→(h8.set h2.length (Zcc.cells Zcj (Zdq eR (rows.set g (Zas.int .u8 (u.hd:Int),Zas.slice au u.ps.length cu eu))) false))[j]?=h4[j]?:=fun j hj=>by rw [hset j hj.1,K48.eq j hj.2.2 hj.2.1]
   have hup:∀ j,(j≠h2.length∧j≠i∧j < h4.length)→(j≠h2.length∧j≠i∧j < (h8.set h2.length (Zcc.cells Zcj (Zdq eR (rows.set g (Zas.int .u8 (u.hd:Int),Zas.slice au u.ps.length cu eu))) false)).length):=fun j hj=>⟨hj.1,hj.2.1,by simp; omega⟩
   have i8:Rdr h8 i p7:=R7.same s8
   refine ⟨⟨by omega,by omega⟩,hR (g + 1) _ _ (by omega) ⟨by omega,by omega,(K4.trans K48).trans' (fun j hj=>Zbl (by have:=S2.le; omega)),⟨p7,by omega,by omega,?_⟩,by simp; omega,?_,(rt.agree old).mono hup,_,ts ++ [u],by simp [hrl],by simp [htl],?_,Zbv m8,?_⟩⟩
   ·refine i8.agree (fun j hj=>hset j (by have:=S2.le; omega)) (by simp)
   ·rw [hset _ (by omega),K48.eq _ (Own.lt n4) (by have:=s1.le; omega)]; exact n4
   ·intro w hw
    rcases List.mem_append.1 hw with hw | hw
    ·exact hts w hw
    ·simp at hw; subst hw; exact ⟨huok,by omega⟩
   ·intro k x w hx hw
    by_cases hk:k=g
    ·subst hk
     rw [List.getElem?_set_self (by omega)] at hx
     rw [List.getElem?_append_right (by omega)] at hw
     simp [htl] at hw
     cases hx; subst hw
     refine (hmu.agree (h':=h8.set h2.length (Zcc.cells Zcj (Zdq eR (rows.set k (Zas.int .u8 (u.hd:Int),Zas.slice au u.ps.length cu eu))) false)) fun j hj=>hset j (by have:=hj.1; have:=K47.le; omega)).mono fun j hj=>⟨by have:=hj.1; have:=K47.le; omega,by have:=hj.1; have:=K47.le; have:=S2.le; omega,by simp; exact hj.2⟩
    ·rw [List.getElem?_set_ne (fun e=>hk e.symm)] at hx
     have hkg:k < g:=by
      have:=(List.getElem?_eq_some_iff.1 hw).1
      simp [htl] at this; omega
     rw [List.getElem?_append_left (by omega)] at hw
     exact ((hrep k x w hx hw).agree old).mono hup
  ·have hg12:g=12:=by omega
   subst hg12
   apply Zjw.A6x0i
   rw [Zbk n4]
   simp only [Zau,Zaj,Zar,Zaq,Zaf]
   have hget:∀ k,k < 6→(Zef[k]?).bind (Zfl (Zef.zip ts))=ts[k]?:=fun k hk=>by
    have hk6:k < Zef.length:=hk
    rw [List.getElem?_eq_getElem hk6,Option.bind_some]
    exact Ygi Zef ts Zpb k hk6 (by omega)
   have hin:∀ v u,Zfl (Zef.zip ts) v=some u→v∈Zef∧u∈ts:=fun v u hu=>by
    have:=Ylv hu
    exact ⟨(List.of_mem_zip this).1,(List.of_mem_zip this).2⟩
   have hW:Yny (fun j=>j≠h2.length∧j≠i∧j < h4.length) h4 h2.length (Zef.zip ts):=by
    refine ⟨rows,hrl,m4,fun k x hk hx=>?_⟩
    rw [hget k hk]
    have hkt:k < ts.length:=by omega
    rw [List.getElem?_eq_getElem hkt]
    exact hrep k x _ hx (List.getElem?_eq_getElem hkt)
   have hnv:∀ v,Zbd v=false→Zfl (Zef.zip ts) v=none:=fun v hv=>by
    cases hb:Zfl (Zef.zip ts) v with
    | none=>rfl
    | some u=>
     have h1:=(hin v u hb).1
     have:∀ x∈Zef,Zbd x=true:=by decide
     rw [this v h1] at hv; cases hv
   refine (Ygw _ (Nat.le_refl _) hok (fun j hj=>⟨hj.2.2,hj.1⟩) rt hW (fun v u hu=>(hts u (hin v u hu).2).1) hnv).mono ?_
   rintro x h5 ⟨s5,vs5,rfl,rt5⟩
   have hl5:(subst (Zfl (Zef.zip ts)) t).txt.length≤1048576:=by
    have:=Ztd (f:=Zfl (Zef.zip ts)) (fun c u hu=>(hts u (hin c u hu).2).2) t
    rw [← hst] at this; omega
   have hok5:(subst (Zfl (Zef.zip ts)) t).ok=true:=Zvx ⟨hnv,fun v u hu=>(hts u (hin v u hu).2).1⟩ hok
   obtain ⟨a5,c5,e5,hsh5⟩:=rt5.shape
   subst hsh5
   simp only [Zde,Zaj,Zaq,Zaf,Zar,Zax]
   rw [Zgk]
   simp only [Zat]
   generalize hh6:h5 ++ [Zcc.cells Zab [.int .u8 ((subst (Zfl (Zef.zip ts)) t).hd:Int),.slice a5 (subst (Zfl (Zef.zip ts)) t).ps.length c5 e5] false]=h6
   have s6:Zbe h5.length h5 h6:=by rw [← hh6]; exact Zao
   have n6:h6[h5.length]?=some (.cells Zab [.int .u8 ((subst (Zfl (Zef.zip ts)) t).hd:Int),.slice a5 (subst (Zfl (Zef.zip ts)) t).ps.length c5 e5] false):=by rw [← hh6]; simp
   rw [Zbk n6]
   simp only [Zau,Zaj,Zar,Zaq,Zaf]
   have rt6:=rt5.same s6
   refine (Zsi _ (Nat.le_refl _) (Nat.le_trans hl5 (by decide)) rt6).mono ?_
   rintro v h7 ⟨rfl,s7⟩
   simp only [Zaq]
   have K7:=((K4.trans (Zdp.of_same s5)).trans (Zdp.of_same s6)).trans (Zdp.of_same s7)
   have R7:=((R4.same s5).same s6).same s7
   refine Zav (fun _=>leaf _ K7 p4 hp1 (by omega) R7) (fun hsm=>?_)
   rw [Zbk (s7.get n6 (Own.lt n6))]
   simp only [Zau,Zaj,Zar,Zaq,Zaf]
   refine (Zqt _ (Nat.le_refl _) hl5 hok5 (rt6.same s7)).mono ?_
   rintro v h8 ⟨rfl,s8⟩
   simp only [Zam]
   exact ⟨_,rfl,by omega,K7.trans (Zdp.of_same s8),p4,hp1,by omega,R7.same s8⟩
 ·exact (hm.agree (h':=h3) fun j hj=>by rw [s3.eq j (by have:=hj.2; omega),s2.eq j hj.2]).mono fun j hj=>⟨by have:=hj.2; omega,by have:=hj.1; omega,by have:=hj.2; omega⟩
end Go.Sim

set_option linter.unusedVariables false
set_option linter.unusedSimpArgs false
set_option maxRecDepth 20000
namespace Go.Sim
open Go Go.RowKit

end Go.Sim

set_option linter.unusedSimpArgs false
set_option linter.unusedVariables false
namespace Go.Sim

def Up (cs:List Nd) (a b:Nat):Prop:=∃ i,∃ h:i < cs.length,cs[i].1=[a]∧b∈cs[i].2
inductive Rch (cs:List Nd) (a:Nat):Nat→Prop
 | one {b:Nat}:Up cs a b→Rch cs a b
 | more {b c:Nat}:Rch cs a b→Up cs b c→Rch cs a c
theorem Ybi {cs:List Nd} (h:Zja cs=true) {i:Nat} (hi:i < cs.length):Zzc cs i=true:=by
 unfold Zja at h
 simp only [Bool.and_eq_true,List.all_eq_true] at h
 exact h.1 i (List.mem_range.2 hi)
theorem Yor {cs:List Nd} (h:Zja cs=true) {i:Nat} (hi:i < cs.length):∃ d,cs[i].1=[d]∧65≤d∧d≤84:=by
 have:=Ybi h hi
 unfold Zzc at this
 rw [Zkf hi] at this
 simp only [Bool.and_eq_true] at this
 have h1:=this.1.1
 unfold Ztb at h1
 split at h1
 ·rename_i d hd; exact ⟨d,hd,by simpa using h1⟩
 ·cases h1
theorem Ycm {cs:List Nd} (h:Zja cs=true) {i:Nat} (hi:i + 1 < cs.length) {a b:Nat} (ha:cs[i].1=[a]) (hb:cs[i + 1].1=[b]):a < b:=by
 have:=Ybi h hi
 unfold Zzc at this
 rw [Zkf hi,Nat.add_sub_cancel,Zkf (by omega),ha,hb] at this
 simp only [Bool.and_eq_true] at this
 have h1:=this.1.2
 simpa [Zfj] using h1
theorem Yae {cs:List Nd} (h:Zja cs=true):∀ (k i:Nat) (hi:i + k + 1 < cs.length) {a b:Nat},cs[i].1=[a]→cs[i + k + 1].1=[b]→a < b
 | 0,i,hi,a,b,ha,hb=>Ycm h hi ha hb
 | k + 1,i,hi,a,b,ha,hb=>by
  obtain ⟨d,hd,_⟩:=Yor h (show i + k + 1 < cs.length by omega)
  have h1:=Yae h k i (by omega) ha hd
  have h2:=Ycm h (i:=i + k + 1) (by omega) hd hb
  omega
theorem Ybg {cs:List Nd} (h:Zja cs=true) {i j:Nat} (hi:i < cs.length) (hj:j < cs.length) {a:Nat} (ha:cs[i].1=[a]) (hb:cs[j].1=[a]):i=j:=by
 rcases Nat.lt_trichotomy i j with hl | he | hl
 ·obtain ⟨k,rfl⟩:∃ k,j=i + k + 1:=⟨j - i - 1,by omega⟩
  have:=Yae h k i hj ha hb; omega
 ·exact he
 ·obtain ⟨k,rfl⟩:∃ k,i=j + k + 1:=⟨i - j - 1,by omega⟩
  have:=Yae h k j hi hb ha; omega
theorem Zqf {cs:List Nd} (h:Zja cs=true) {i:Nat} (hi:i < cs.length) {b:Nat} (hb:b∈cs[i].2):∃ j,∃ hj:j < i,cs[j].1=[b]:=by
 have:=Ybi h hi
 unfold Zzc at this
 rw [Zkf hi] at this
 simp only [Bool.and_eq_true] at this
 have h1:=this.2
 unfold Ydx at h1
 rw [List.all_eq_true] at h1
 obtain ⟨k,hk,rfl⟩:=List.mem_iff_getElem.1 hb
 have h2:=h1 k (List.mem_range.2 hk)
 unfold Zza at h2
 rw [Zkf hk] at h2
 simp only [Bool.and_eq_true] at h2
 have h3:=h2.1
 unfold Zgl at h3
 rw [List.any_eq_true] at h3
 obtain ⟨x,hx,he⟩:=h3
 obtain ⟨j,hj,rfl⟩:=List.mem_iff_getElem.1 hx
 rw [List.length_take] at hj
 exact ⟨j,by omega,by simpa using he⟩
theorem Up.ix {cs:List Nd} (h:Zja cs=true) {a b i:Nat} (u:Up cs a b) (hi:i < cs.length) (ha:cs[i].1=[a]):b∈cs[i].2:=by
 obtain ⟨j,hj,hja,hb⟩:=u
 have:=Ybg h hi hj ha hja
 subst this; exact hb
theorem Rch.ix {cs:List Nd} (h:Zja cs=true) {a b i:Nat} (r:Rch cs a b) (hi:i < cs.length) (ha:cs[i].1=[a]):∃ j,∃ hj:j < i,cs[j].1=[b]:=by
 induction r with
 | one u=>exact Zqf h hi (u.ix h hi ha)
 | more _ u ih=>
  obtain ⟨j,hj,hb⟩:=ih
  obtain ⟨k,hk,hc⟩:=Zqf h (show j < cs.length by omega) (u.ix h (by omega) hb)
  exact ⟨k,by omega,hc⟩
structure Zyx (cs:List Nd) (a:Nat) (i:Nat) (ab:List Nat):Prop where
 sound:∀ d∈ab,Rch cs a d
 done:∀ j,i≤j→∀ hj:j < cs.length,(cs[j].1=[a] ∨ ∃ d,cs[j].1=[d]∧d∈ab)→∀ b∈cs[j].2,b∈ab
theorem Zyx.start {cs:List Nd} {a:Nat}:Zyx cs a cs.length []:=⟨by simp,fun j h1 h2=>by omega⟩
theorem Zyx.step {cs:List Nd} (h:Zja cs=true) {a i:Nat} {ab:List Nat} (D:Zyx cs a (i + 1) ab) (hi:i < cs.length) (hc:cs[i].1=[a] ∨ ∃ d,cs[i].1=[d]∧d∈ab):Zyx cs a i (ab ++ cs[i].2):=by
 refine ⟨fun d hd=>?_,fun j hj hjl hcj b hb=>?_⟩
 ·rcases List.mem_append.1 hd with hd | hd
  ·exact D.sound d hd
  ·rcases hc with hc | ⟨e,he,hm⟩
   ·exact .one ⟨i,hi,hc,hd⟩
   ·exact .more (D.sound e hm) ⟨i,hi,he,hd⟩
 ·by_cases hji:j=i
  ·subst hji; exact List.mem_append_right _ hb
  ·refine List.mem_append_left _ (D.done j (by omega) hjl ?_ b hb)
   rcases hcj with hcj | ⟨e,he,hm⟩
   ·exact .inl hcj
   ·rcases List.mem_append.1 hm with hm | hm
    ·exact .inr ⟨e,he,hm⟩
    ·exfalso
     obtain ⟨k,hk,hke⟩:=Zqf h hi hm
     have:=Ybg h hjl (show k < cs.length by omega) he hke
     omega
theorem Zyx.skip {cs:List Nd} {a i:Nat} {ab:List Nat} (D:Zyx cs a (i + 1) ab) (hc:∀ hi:i < cs.length,¬ (cs[i].1=[a] ∨ ∃ d,cs[i].1=[d]∧d∈ab)):Zyx cs a i ab:=
 ⟨D.sound,fun j hj hjl hcj b hb=>by
  by_cases hji:j=i
  ·subst hji; exact absurd hcj (hc hjl)
  ·exact D.done j (by omega) hjl hcj b hb⟩
theorem Zyx.all {cs:List Nd} (h:Zja cs=true) {a i:Nat} {ab:List Nat} (D:Zyx cs a 0 ab) (hi:i < cs.length) (ha:cs[i].1=[a]) (d:Nat):d∈ab ↔ Rch cs a d:=by
 refine ⟨D.sound d,fun r=>?_⟩
 induction r with
 | one u=>exact D.done i (by omega) hi (.inl ha) _ (u.ix h hi ha)
 | more r u ih=>
  obtain ⟨j,hj,hb⟩:=r.ix h hi ha
  exact D.done j (by omega) (by omega) (.inr ⟨_,hb,ih⟩) _ (u.ix h (by omega) hb)
structure Ysr (cs:List Nd) (a i:Nat) (r:Nat) (ab:List Nat):Prop where
 sound:∀ d∈ab,Rch cs a d
 first:∀ d,Up cs a d→d∈ab
 near:∀ j,j < i→i≤j + 1 + r→∀ hj:j < cs.length,∀ d,cs[j].1=[d]→Rch cs a d→d∈ab
theorem Ysr.start {cs:List Nd} (h:Zja cs=true) {a i:Nat} (hi:i < cs.length) (ha:cs[i].1=[a]):Ysr cs a i 0 cs[i].2:=by
 refine ⟨fun d hd=>.one ⟨i,hi,ha,hd⟩,fun d u=>u.ix h hi ha,fun j hj hn hjl d hd r=>?_⟩
 cases r with
 | one u=>exact u.ix h hi ha
 | more r u=>
  obtain ⟨k,hk,hb⟩:=r.ix h hi ha
  obtain ⟨q,hq,hc⟩:=Zqf h (show k < cs.length by omega) (u.ix h (by omega) hb)
  have:=Ybg h hjl (show q < cs.length by omega) hd hc
  omega
theorem Ysr.next {cs:List Nd} (h:Zja cs=true) {a i r:Nat} {ab ab':List Nat} (R:Ysr cs a i r ab) (hi:i < cs.length) (ha:cs[i].1=[a])
  (hs:∀ d∈ab',d∈ab ∨ ∃ e∈ab,Up cs e d) (hc:∀ d,(d∈ab ∨ ∃ e∈ab,Up cs e d)→d∈ab'):Ysr cs a i (r + 1) ab':=by
 refine ⟨fun d hd=>?_,fun d u=>hc d (.inl (R.first d u)),fun j hj hn hjl d hd rc=>?_⟩
 ·rcases hs d hd with hd | ⟨e,he,u⟩
  ·exact R.sound d hd
  ·exact .more (R.sound e he) u
 ·cases rc with
  | one u=>exact hc d (.inl (R.first d u))
  | more rc u=>
   rename_i e
   obtain ⟨k,hk,hb⟩:=rc.ix h hi ha
   have hjk:j < k:=by
    obtain ⟨q,hq,hcq⟩:=Zqf h (show k < cs.length by omega) (u.ix h (by omega) hb)
    have:=Ybg h hjl (show q < cs.length by omega) hd hcq
    omega
   exact hc d (.inr ⟨e,R.near k hk (by omega) (by omega) e hb rc,u⟩)
theorem Ysr.all {cs:List Nd} (h:Zja cs=true) {a i r:Nat} {ab:List Nat} (R:Ysr cs a i r ab) (hi:i < cs.length) (ha:cs[i].1=[a]) (hr:i≤r + 1) (d:Nat):d∈ab ↔ Rch cs a d:=by
 refine ⟨R.sound d,fun rc=>?_⟩
 obtain ⟨j,hj,hd⟩:=rc.ix h hi ha
 exact R.near j hj (by omega) (by omega) d hd rc
end Go.Sim

set_option linter.unusedVariables false
set_option linter.unusedSimpArgs false
set_option maxRecDepth 20000
namespace Go.Sim
open Go Go.RowKit

end Go.Sim

set_option linter.unusedVariables false
set_option linter.unusedSimpArgs false
set_option maxRecDepth 20000
namespace Go.Sim
open Go Go.RowKit

end Go.Sim
