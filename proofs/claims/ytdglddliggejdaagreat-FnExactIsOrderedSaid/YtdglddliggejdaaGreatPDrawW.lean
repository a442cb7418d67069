/- A part of the proof of a statement of this seat: see the text that holds the theorem. No condition. -/
import Derived.Test.YtdglddliggejdaaGreatPTCOwn
import Derived.Test.YtdglddliggejdaaGreatCGrT
import Derived.Test.YtdglddliggejdaaGreatCSUn5
import Derived.Test.YtdglddliggejdaaGreatPUnifT
import Derived.Test.YtdglddliggejdaaGreatPTCSUn5
import Derived.Test.YtdglddliggejdaaGreatCWGiv
import Derived.Test.YtdglddliggejdaaGreatNm
import Derived.Test.YtdglddliggejdaaGreatCSplit
import Derived.Test.YtdglddliggejdaaGreatCMatch2
set_option linter.unusedVariables false
set_option linter.unusedSimpArgs false
set_option linter.all false
set_option linter.unusedVariables false
set_option linter.unusedSimpArgs false
set_option maxRecDepth 20000
namespace Go.Sim
open Go Go.RowKit

theorem Yee {i:Nat} {h h':Zaa} (s:Zaz h.length h h'):Zfv i h h':=⟨s.le,fun j hj _=>s.eq j hj⟩
theorem Ynl {h h':Zaa} {i j:Nat} {x:Zcj} (K:Zfv i h h') (hj:h[j]?=some x) (hi:j≠i):h'[j]?=some x:=by rw [K.eq j (Own.lt hj) hi]; exact hj
def Zzx:List (Nat × Nat)→Nat→Option Nat
 | [],_=>none
 | (c,x) :: r,d=>if c=d then some x else Zzx r d
theorem Yde:∀ {l:List (Nat × Nat)} {c x d:Nat},Zzx (l ++ [(c,x)]) d=match Zzx l d with | some y=>some y | none=>if c=d then some x else none
 | [],c,x,d=>by simp [Zzx]
 | (c',x') :: l,c,x,d=>by
  simp only [List.cons_append,Zzx]
  by_cases e:c'=d
  ·simp [e]
  ·simp only [if_neg e,Yde]
theorem Ydz:∀ {l:List (Nat × Nat)} {c x:Nat},Zzx l c=some x→(c,x)∈l
 | [],c,x,h=>by cases h
 | (c',x') :: l,c,x,h=>by
  simp only [Zzx] at h
  by_cases e:c'=c
  ·rw [if_pos e] at h; cases h; subst e; exact List.mem_cons_self
  ·rw [if_neg e] at h; exact List.mem_cons_of_mem _ (Ydz h)
theorem Ydu:∀ {l r:List (Nat × Nat)} {c x:Nat},Zzx l c=some x→Zzx (l ++ r) c=some x
 | [],r,c,x,h=>by cases h
 | (c',x') :: l,r,c,x,h=>by
  simp only [List.cons_append,Zzx] at h ⊢
  by_cases e:c'=c
  ·rw [if_pos e] at h ⊢; exact h
  ·rw [if_neg e] at h ⊢; exact Ydu h
def Yqr (h:Zaa) (i:Nat) (sc:List (Nat × Nat)):Prop:=∃ es clk,h[i]?=some (.map es clk)∧es.map (·.1)=sc.map (fun p=>Zal.str [p.1])∧es.map (·.2.1)=sc.map (fun p=>Zal.ptr (some (p.2,0)))∧(es.map (·.2.2)).Nodup∧∀ e∈es,e.2.2 < clk
theorem Yqr.eq {h h':Zaa} {i:Nat} {sc:List (Nat × Nat)} (r:Yqr h i sc) (he:h'[i]?=h[i]?):Yqr h' i sc:=by obtain ⟨es,k,h1,x⟩:=r; exact ⟨es,k,by rw [he]; exact h1,x⟩
theorem Zsf:∀ {es:List ME} {sc:List (Nat × Nat)} {v x k:Nat},es.map (·.1)=sc.map (fun p=>Zal.str [p.1])→es.map (·.2.1)=sc.map (fun p=>Zal.ptr (some (p.2,0)))→Zzx sc v=some x→∃ j,Zny es [v] k=some (some (j,.ptr (some (x,0))))
 | _,[],v,x,k,_,_,h=>by cases h
 | [],p :: sc,v,x,k,h,_,_=>by simp at h
 | (ek,ev,eb) :: es,(w,u) :: sc,v,x,k,hk,hv,h=>by
  simp only [List.map_cons,List.cons.injEq] at hk hv
  obtain ⟨rfl,hk⟩:=hk
  obtain ⟨rfl,hv⟩:=hv
  simp only [Zzx] at h
  by_cases e:w=v
  ·rw [if_pos e] at h
   cases h; subst e
   exact ⟨k,by simp [Zny]⟩
  ·rw [if_neg e] at h
   obtain ⟨j,h1⟩:=Zsf (k:=k + 1) hk hv h
   have:¬ [v]=[w]:=fun x=>e (by simpa using x.symm)
   exact ⟨j,by simp only [Zny,this,if_false,h1]⟩
theorem Zwv:∀ {es:List ME} {sc:List (Nat × Nat)} {v k:Nat},es.map (·.1)=sc.map (fun p=>Zal.str [p.1])→Zzx sc v=none→Zny es [v] k=some none
 | [],[],v,k,_,_=>rfl
 | [],p :: sc,v,k,h,_=>by simp at h
 | e :: es,[],v,k,h,_=>by simp at h
 | (ek,ev,eb) :: es,(w,u) :: sc,v,k,hk,h=>by
  simp only [List.map_cons,List.cons.injEq] at hk
  obtain ⟨rfl,hk⟩:=hk
  simp only [Zzx] at h
  by_cases e:w=v
  ·rw [if_pos e] at h; cases h
  ·rw [if_neg e] at h
   have:¬ [v]=[w]:=fun x=>e (by simpa using x.symm)
   simp only [Zny,this,if_false]
   exact Zwv hk h
def Zrx (G:Gr) (o c:Nat) (qs:List Nat):Gr:=⟨fun n=>if n=o then c else G.hd n,fun n=>if n=o then qs else G.ps n⟩
theorem Ych {G:Gr} {N:List Nat} {o c:Nat} {qs:List Nat} (ho:o ∉ N):GAg N G (Zrx G o c qs):=fun n hn=>by
 have:n≠o:=fun e=>ho (e ▸ hn)
 simp [Zrx,this]
structure ShS (h:Zaa) (mi:Nat) (G:Gr) (N:List Nat) (sc:List (Nat × Nat)) (Z:Nat→Prop):Prop where
 gh:GH h G N (fun _=>none) Z
 cl:GCl G N
 ar:∀ n∈N,arN (G.hd n)=((G.ps n).length:Int)
 map:Yqr h mi sc
 sin:∀ p∈sc,p.2∈N∧G.hd p.2=p.1∧Zbc p.1=true∧Zzx sc p.1=some p.2
structure ShR (h:Zaa) (mi:Nat) (G:Gr) (N:List Nat) (sc:List (Nat × Nat)) (Z:Nat→Prop) (t:Ty) (q:Nat) (h':Zaa) (G':Gr) (L:List Nat) (sc':List (Nat × Nat)):Prop where
 fr:Zfv mi h h'
 st:ShS h' mi G' (N ++ L) sc' Z
 ag:GAg N G G'
 new:∀ x∈L,h.length≤x∧Sub G' q x
 var:∀ x∈L,Zbc (G'.hd x)=true→(G'.hd x,x)∈sc'
 ext:∃ r,sc'=sc ++ r
 qN:q∈N ++ L
 raw:Raw G' G'.hd q t
section
variable {h h':Zaa} {mi:Nat} {G:Gr} {N:List Nat} {sc:List (Nat × Nat)} {Z Z':Nat→Prop} {lk:Nat→Option Nat}
theorem GH.re (g:GH h G N lk Z) (hl:h.length≤h'.length) (hN:∀ n∈N,h'[n]?=h[n]?) (hR:∀ j t cs ro,h[j]?=some (Zcj.cells t cs ro)→¬ Z j→j ∉ N→h'[j]?=h[j]?) (hZ:∀ j,j < h.length→¬ Z j→¬ Z' j):GH h' G N lk Z':=by
 refine ⟨fun n hn=>?_⟩
 obtain ⟨a,c,e,hi,hr,hd⟩:=g.node n hn
 refine ⟨a,c,e,by rw [hN n hn]; exact hi,hr.to hl fun j o h0 ha _=>?_,fun j o h0 ha=>?_⟩
 ·obtain ⟨t,all,ro,hj⟩:=hr.cellsAt h0 ha
  exact hR _ _ _ _ hj (hd j o h0 ha).2 (hd j o h0 ha).1
 ·obtain ⟨t,all,ro,hj⟩:=hr.cellsAt h0 ha
  exact ⟨(hd j o h0 ha).1,hZ j (Own.lt hj) (hd j o h0 ha).2⟩
theorem GH.ag {G':Gr} (g:GH h G N lk Z) (ag:GAg N G G'):GH h G' N lk Z:=⟨fun n hn=>by rw [(ag n hn).1,(ag n hn).2]; exact g.node n hn⟩
theorem GH.add {o c:Nat} {qs:List Nat} (g:GH h G N (fun _=>none) Z') (hZo:Z' o) (hZ:∀ z,Z z→Z' z) (ho:o ∉ N) {a:Pt} {cp:Nat} {e:Bool} (hi:h[o]?=some (.cells Zbt [.str [c],.slice a qs.length cp e,.ptr none] false))
  (hr:Row h.length h a qs.length (qs.map fun p=>Zal.ptr (some (p,0)))) (hd:∀ j o',qs.length≠0→a=some (j,o')→j ∉ N∧j≠o∧¬ Z j):GH h (Zrx G o c qs) (N ++ [o]) (fun _=>none) Z:=by
 refine ⟨fun n hn=>?_⟩
 rcases List.mem_append.1 hn with hn | hn
 ·obtain ⟨b,c',e',hb,hbr,hbd⟩:=(g.ag (Ych (c:=c) (qs:=qs) ho)).node n hn
  refine ⟨b,c',e',hb,hbr,fun j o' h0 ha=>⟨fun hj=>?_,fun hj=>(hbd j o' h0 ha).2 (hZ _ hj)⟩⟩
  rcases List.mem_append.1 hj with hj | hj
  ·exact (hbd j o' h0 ha).1 hj
  ·rw [List.mem_singleton] at hj
   subst hj
   exact (hbd j o' h0 ha).2 hZo
 ·rw [List.mem_singleton] at hn
  subst hn
  refine ⟨a,cp,e,by simpa [Zrx] using hi,by simpa [Zrx] using hr,fun j o' h0 ha=>?_⟩
  have h0':qs.length≠0:=by simpa [Zrx] using h0
  obtain ⟨h1,h2,h3⟩:=hd j o' h0' ha
  exact ⟨fun hj=>(List.mem_append.1 hj).elim h1 fun hj=>h2 (List.mem_singleton.1 hj),h3⟩
end
structure ShL (h0:Zaa) (mi:Nat) (G:Gr) (N:List Nat) (sc:List (Nat × Nat)) (Z:Nat→Prop) (t:Ty) (o:Nat) (h':Zaa) (G1:Gr) (L1:List Nat) (sc1:List (Nat × Nat)) (qs:List Nat) (a:Pt) (cp:Nat) (e:Bool):Prop where
 out:h'[o]?=some (.cells Zbt [.str [t.hd],.slice a qs.length cp e,.ptr none] false)
 vec:Vec Zcz h' a qs.length cp (qs.map fun q=>Zal.ptr (some (q,0)))
 low:∀ j,a=some (j,0)→o < j
 raw:∀ (i q:Nat) (x:Ty),qs[i]?=some q→t.ps[i]?=some x→Raw G1 G1.hd q x
 qN:∀ q∈qs,q∈N ++ L1
 fr:Zfv mi h0 h'
 st:ShS h' mi G1 (N ++ L1) sc1 (fun z=>Z z ∨ z=o ∨ a=some (z,0))
 ag:GAg N G G1
 new:∀ x∈L1,o < x∧∃ q∈qs,Sub G1 q x
 var:∀ x∈L1,Zbc (G1.hd x)=true→(G1.hd x,x)∈sc1
 ext:∃ r,sc1=sc ++ r
theorem Yhy {h:Zaa} {i j:Nat} {cs cs':List Zal} {r r':Bool} (hi:h[i]?=some (.cells Zbt cs r)) (hj:h[j]?=some (.cells Zcz cs' r')):i≠j:=by
 rintro rfl; rw [hi] at hj; injection hj with hj; injection hj with hj; exact absurd hj (by decide)
theorem Vec.ptr {ty:TypeId} {h:Zaa} {a:Pt} {n c:Nat} {cs:List Zal} (x:Vec ty h a n c cs) {j o:Nat} (ha:a=some (j,o)):o=0∧h[j]?=some (.cells ty cs false):=by
 rcases x with ⟨h0,_⟩ | ⟨i,hi,hj⟩
 ·rw [ha] at h0; cases h0
 ·rw [ha] at hi; cases hi; exact ⟨rfl,hj⟩
theorem Ylx:∀ (M:Nat) {t:Ty} {S:Nat→Prop} {h:Zaa} {p:Pt} {mi:Nat} {G:Gr} {N:List Nat} {sc:List (Nat × Nat)} {Z:Nat→Prop},t.size≤M→t.ok=true→Zpe S h t p→(∀ j,S j→j≠mi)→ShS h mi G N sc Z→(∀ z,Z z→z < h.length) →
  Zae pg Zgy [.ptr p,.map (some mi)] h fun v h'=>∃ q G' L sc',v=.ptr (some (q,0))∧ShR h mi G N sc Z t q h' G' L sc':=by
 intro M
 induction M with
 | zero=>intro t S h p mi G N sc Z hM; have:=Zrq t; omega
 | succ M ih=>
 intro t S h p mi G N sc Z hM hok hrep hS st hZ
 obtain ⟨i,a,c0,e0,qa,rfl,si,hi,row,hSa,hqal,hqa⟩:=hrep.parts
 obtain ⟨es,clk,hm,hk,hv,hb,hlt⟩:=id st.map
 have hml:=Own.lt hm
 apply Zdx.call
 simp only [Zat,Zak hi,Nat.zero_add,List.getElem?_cons_zero,Zap]
 refine (Zrl [t.hd]).mono ?_
 rintro v h1 ⟨rfl,rfl⟩
 simp only [Zah,Zrv,Zak hi,List.getElem?_cons_zero,Zap,Zat]
 refine Zds (fun hvar=>?_) (fun hvar=>?_)
 ·-- a variable
  have hps:t.ps=[]:=List.eq_nil_of_length_eq_zero (by have:=Ty.ok_ar hok; rw [Zuz hvar] at this; omega)
  have htk:t=.k t.hd:=Yqn (by rw [hps]; rfl)
  simp only [Zdc,hm,Zqg]
  cases hg:Zzx sc t.hd with
  | some x=>
   obtain ⟨j,hf⟩:=Zsf (k:=0) hk hv hg
   rw [hf]
   simp only [Option.getD_some,Zda,Option.isNone_some,Zax]
   apply Zdx.J4i
   simp only [Zat,Zak hi,Nat.zero_add,List.getElem?_cons_zero,Zap,Zdc,hm,Zqg,hf,Option.getD_some,Zda]
   obtain ⟨h2,h3,h4,_⟩:=st.sin _ (Ydz hg)
   refine ⟨x,G,[],sc,rfl,Zfv.refl _ _,by rw [List.append_nil]; exact st,GAg.refl _ _,by simp,by simp,⟨[],by simp⟩,by simpa using h2,?_⟩
   have h3':G.hd x=t.hd:=h3
   rw [htk,← h3']
   exact .var (by rw [h3']; exact hvar)
  | none=>
   have hf:=Zwv (k:=0) hk hg
   rw [hf]
   simp only [Option.getD_none,Zda,Option.isNone_none,Zbr,Zaw,true_and]
   generalize hh2:h1 ++ [Zcj.cells Zbt [.str [t.hd],.slice none 0 0 true,.ptr none] false]=h2
   have s2:Zaz h1.length h1 h2:=by rw [← hh2]; exact Zaq
   have o2:h2[h1.length]?=some (.cells Zbt [.str [t.hd],.slice none 0 0 true,.ptr none] false):=by rw [← hh2]; simp
   have hi2:=s2.get hi (Own.lt hi)
   have hm2:=s2.get hm hml
   have l2:h2.length=h1.length + 1:=by rw [← hh2]; simp
   have him:i≠mi:=hS i si
   simp only [Zak hi2,Zak hi,List.getElem?_cons_zero,xMp,Zdc,hm2,Ygv,hf,true_and]
   generalize hh3:h2.set mi (.map (es ++ [(.str [t.hd],.ptr (some (h1.length,0)),clk)]) (clk + 1))=h3
   have hm3:h3[mi]?=some (.map (es ++ [(.str [t.hd],.ptr (some (h1.length,0)),clk)]) (clk + 1)):=by rw [← hh3]; exact Zck hm2
   have k3:∀ j,j≠mi→h3[j]?=h2[j]?:=fun j hj=>by rw [← hh3]; exact Zbw fun e=>hj e.symm
   have l3:h3.length=h2.length:=by rw [← hh3]; simp
   have hi3:h3[i]?=h2[i]?:=k3 i him
   have hk3:(es ++ [((Zal.str [t.hd],Zal.ptr (some (h1.length,0)),clk):ME)]).map (·.1)=(sc ++ [(t.hd,h1.length)]).map (fun p=>Zal.str [p.1]):=by simp [hk]
   have hv3:(es ++ [((Zal.str [t.hd],Zal.ptr (some (h1.length,0)),clk):ME)]).map (·.2.1)=(sc ++ [(t.hd,h1.length)]).map (fun p=>Zal.ptr (some (p.2,0))):=by simp [hv]
   have hg3:Zzx (sc ++ [(t.hd,h1.length)]) t.hd=some h1.length:=by rw [Yde,hg]; simp
   obtain ⟨j3,hf3⟩:=Zsf (k:=0) hk3 hv3 hg3
   apply Zdx.J4i
   rw [hi2] at hi3
   simp only [Zat,Zak hi3,Nat.zero_add,List.getElem?_cons_zero,Zap,Zdc,hm3,Zqg,hf3,Option.getD_some,Zda]
   have hnN:h1.length ∉ N:=fun h=>by have:=st.gh.lt h; omega
   have hml2:mi≠h1.length:=by omega
   have o3:h3[h1.length]?=some (.cells Zbt [.str [t.hd],.slice none ([]:List Nat).length 0 true,.ptr none] false):=by rw [k3 _ hml2.symm]; exact o2
   have g3:GH h3 G N (fun _=>none) (fun z=>Z z ∨ z=h1.length):=st.gh.re (by omega) (fun n hn=>by rw [k3 n fun e=>by subst e; obtain ⟨_,_,_,q,_⟩:=st.gh.node n hn; rw [hm] at q; cases q]; exact s2.eq n (st.gh.lt hn))
    (fun j t cs ro hj _ _=>by rw [k3 j fun e=>by subst e; rw [hm] at hj; cases hj]; exact s2.eq j (Own.lt hj)) (fun j hj hz=>by rintro (h | h); exact hz h; omega)
   have ag:GAg N G (Zrx G h1.length t.hd []):=Ych hnN
   have ghd:(Zrx G h1.length t.hd []).hd h1.length=t.hd:=by simp [Zrx]
   refine ⟨h1.length,Zrx G h1.length t.hd [],[h1.length],sc ++ [(t.hd,h1.length)],rfl,⟨by omega,fun j hj hne=>by rw [k3 j hne]; exact s2.eq j hj⟩,⟨?_,?_,?_,?_,?_⟩,ag,?_,?_,⟨_,rfl⟩,by simp,?_⟩
   ·exact g3.add (.inr rfl) (fun z hz=>.inl hz) hnN o3 Row.nil (fun j o' h0=>absurd rfl h0)
   ·intro n hn p hp
    rcases List.mem_append.1 hn with hn | hn
    ·rw [(ag n hn).2] at hp; exact List.mem_append_left _ (st.cl n hn p hp)
    ·rw [List.mem_singleton.1 hn] at hp; simp [Zrx] at hp
   ·intro n hn
    rcases List.mem_append.1 hn with hn | hn
    ·rw [(ag n hn).1,(ag n hn).2]; exact st.ar n hn
    ·rw [List.mem_singleton.1 hn,ghd,Zuz hvar]; simp [Zrx]
   ·refine ⟨_,_,hm3,hk3,hv3,?_,?_⟩
    ·rw [List.map_append,List.nodup_append]
     refine ⟨hb,by simp,?_⟩
     intro x hx y hy e
     simp at hy
     obtain ⟨z,hz,rfl⟩:=List.mem_map.1 hx
     have:=hlt z hz; omega
    ·intro e he
     rcases List.mem_append.1 he with he | he
     ·have:=hlt e he; omega
     ·simp at he; subst he; simp
   ·intro p hp
    rcases List.mem_append.1 hp with hp | hp
    ·obtain ⟨h1',h2',h3',h4'⟩:=st.sin p hp
     exact ⟨List.mem_append_left _ h1',by rw [(ag _ h1').1]; exact h2',h3',Ydu h4'⟩
    ·rw [List.mem_singleton.1 hp]
     exact ⟨by simp,ghd,hvar,hg3⟩
   ·intro x hx
    rw [List.mem_singleton.1 hx]
    exact ⟨Nat.le_refl _,.refl⟩
   ·intro x hx _
    rw [List.mem_singleton.1 hx,ghd]; simp
   ·rw [htk]
    have:Raw (Zrx G h1.length t.hd []) (Zrx G h1.length t.hd []).hd h1.length (.k ((Zrx G h1.length t.hd []).hd h1.length)):=.var (by rw [ghd]; exact hvar)
    rw [ghd] at this; exact this
 ·-- another letter
  simp only [Zaw]
  generalize hh2:h1 ++ [Zcj.cells Zbt [.str [t.hd],.slice none 0 0 true,.ptr none] false]=h2
  have s2:Zaz h1.length h1 h2:=by rw [← hh2]; exact Zaq
  have o2:h2[h1.length]?=some (.cells Zbt [.str [t.hd],.slice none 0 0 true,.ptr none] false):=by rw [← hh2]; simp
  have l2:h2.length=h1.length + 1:=by rw [← hh2]; simp
  have hi2:=s2.get hi (Own.lt hi)
  have hm2:=s2.get hm hml
  have hmo:mi≠h1.length:=by omega
  have hNlt:∀ n∈N,n < h1.length:=fun n hn=>st.gh.lt hn
  have har:=Ty.ok_ar hok
  simp only [Zak hi2,List.getElem?_cons_succ,List.getElem?_cons_zero,Zag]
  have st2:ShS h2 mi G (N ++ []) sc (fun z=>Z z ∨ z=h1.length ∨ (none:Pt)=some (z,0)):=by
   rw [List.append_nil]
   refine ⟨st.gh.re (by omega) (fun n hn=>s2.eq n (hNlt n hn)) (fun j t cs ro hj _ _=>s2.eq j (Own.lt hj)) (fun j hj hz=>?_),st.cl,st.ar,st.map.eq (s2.eq mi hml),st.sin⟩
   rintro (h | h | h)
   ·exact hz h
   ·omega
   ·cases h
  refine Zdx.L7ind (J:=fun (g:Nat) x48 h'=>x48=(g:Int)∧g≤t.ps.length∧∃ G1 L1 sc1 qs a1 cp e1,qs.length=g∧ShL h1 mi G N sc Z t h1.length h' G1 L1 sc1 qs a1 cp e1) (m:=fun g=>t.ps.length - g) (hr:=?_) (g:=0)
   (hj:=⟨rfl,by omega,G,[],sc,[],none,0,true,rfl,o2,Vec.mk0,(fun j hj=>by cases hj),(fun i q x hq=>by simp at hq),(fun q hq=>by cases hq),Yee s2,st2,GAg.refl _ _,(fun x hx=>by cases hx),(fun x hx=>by cases hx),⟨[],by simp⟩⟩)
  rintro g x48 h3 ⟨rfl,hg,G1,L1,sc1,qs,a1,cp,e1,hql,W⟩ R hR
  unfold Zdx.L7t
  have hps2:t.ps.length≤2:=by cases t <;> simp [Ty.ps]
  have hol:=Own.lt W.out
  refine Zan (fun hlt'=>?_) (fun hge=>?_)
  ·have hg':g < t.ps.length:=by omega
   have hqag:g < qa.length:=by omega
   obtain ⟨ja,oa,rfl,_,hca⟩:=(row.keepAt (i:=mi) (fun j o h0 e=>hS j (hSa j o h0 e)) W.fr).at hg'
   rw [List.getElem?_map,List.getElem?_eq_getElem hqag] at hca
   simp only [Zat,Int.toNat_natCast,Nat.mul_one,hca,Option.map_some,Zda,Zak W.out,Nat.zero_add,List.getElem?_cons_succ,List.getElem?_cons_zero,Zag]
   have hmem:=List.getElem_mem hg'
   have hsz:=Ty.size_part hmem
   refine ⟨by omega,(ih (by omega) (Ty.ok_ps hok _ hmem) ((hqa g _ _ (List.getElem?_eq_getElem hqag) (List.getElem?_eq_getElem hg')).keep fun j hj hl=>W.fr.eq j hl (hS j hj)) hS W.st (fun z hz=>?_)).mono ?_⟩
   ·rcases hz with hz | hz | hz
    ·have:=hZ z hz; omega
    ·omega
    ·exact Own.lt (W.vec.ptr hz).2
   rintro v h4 ⟨q,G2,L2,sc2,rfl,R2⟩
   have hmo':h1.length≠mi:=fun e=>hmo e.symm
   have out4:=Ynl R2.fr W.out hmo'
   have a1mi:∀ j o,a1=some (j,o)→j≠mi:=fun j o hj e=>by
    subst e
    obtain ⟨es1,k1,hm1,_⟩:=W.st.map
    rw [(W.vec.ptr hj).2] at hm1; cases hm1
   have vec4:Vec Zcz h4 a1 qs.length cp (qs.map fun q=>Zal.ptr (some (q,0))):=W.vec.agree fun j hj=>R2.fr.eq j (Own.lt (W.vec.ptr hj).2) (a1mi j 0 hj)
   simp only [Zda,Zaw]
   refine ⟨by rw [Zak out4]; rfl,by rw [Zak (Zaq.get out4 (Own.lt out4)),Zak out4],?_⟩
   refine vec4.push Zwj Yds Yfa Ydd (by simp) rfl (by omega) (fun h5 hl5 hi5 hk5=>?_)
   have hfl:=R2.fr.le
   have out5:h5[h1.length]?=some (.cells Zbt [.str [t.hd],.slice a1 qs.length cp e1,.ptr none] false):=by rw [hk5 _ (Own.lt out4) fun j hj=>by have:=W.low j hj; omega]; exact out4
   simp only [Zag]
   rw [Zbl out5 (by simp)]
   simp only [Zau,putRow,List.take_succ_cons,List.take_zero,List.length_cons,List.length_nil,List.drop_succ_cons,List.drop_zero,List.drop_nil,List.cons_append,List.nil_append,List.append_nil]
   rw [Zbn (by omega)]
   generalize hh6:h5.set h1.length (.cells Zbt [.str [t.hd],.slice (some (h4.length + 1,0)) (qs.length + 1) (qs.length + 1) false,.ptr none] false)=h6
   have l6:h6.length=h4.length + 2:=by rw [← hh6]; simpa using hl5
   have k6:∀ j,j < h4.length→j≠h1.length→(∀ i,a1=some (i,0)→j≠i)→h6[j]?=h4[j]?:=fun j hj h1' h2'=>by rw [← hh6,Zbw (fun e=>h1' e.symm)]; exact hk5 j hj h2'
   have ob6:h6[h1.length]?=some (.cells Zbt [.str [t.hd],.slice (some (h4.length + 1,0)) (qs ++ [q]).length (qs.length + 1) false,.ptr none] false):=by rw [← hh6,Zck out5]; simp
   have nb6:h6[h4.length + 1]?=some (.cells Zcz ((qs ++ [q]).map fun q=>Zal.ptr (some (q,0))) false):=by
    rw [← hh6,Zbw (by omega),hi5]; simp
   have hoN:∀ n∈(N ++ L1) ++ L2,n≠h1.length:=fun n hn=>by
    rcases List.mem_append.1 hn with hn | hn
    ·rcases List.mem_append.1 hn with hn | hn
     ·have:=hNlt n hn; omega
     ·have:=(W.new n hn).1; omega
    ·have:=(R2.new n hn).1; omega
   have haN:∀ n∈(N ++ L1) ++ L2,∀ i,a1=some (i,0)→n≠i:=fun n hn i hi'=>by
    obtain ⟨_,_,_,hnn,_⟩:=R2.st.gh.node n hn
    exact Yhy hnn (vec4.ptr hi').2
   have hm4:=R2.st.map
   obtain ⟨es4,k4,hm4',_⟩:=id hm4
   have mi6:h6[mi]?=h4[mi]?:=k6 mi (Own.lt hm4') hmo (fun i hi'=>(a1mi i 0 hi').symm)
   have inc:∀ p,p∈sc1→p∈sc2:=fun p hp=>by obtain ⟨r,hr⟩:=R2.ext; rw [hr]; exact List.mem_append_left _ hp
   refine hR (g + 1) _ _ (by omega) ⟨rfl,by omega,G2,L1 ++ L2,sc2,qs ++ [q],some (h4.length + 1,0),qs.length + 1,false,by simp [hql],ob6,by rw [List.length_append]; exact Vec.mk1 nb6,fun j hj=>by cases hj; omega,fun i q' x hq' hx=>?_,fun q' hq'=>?_,⟨by have:=W.fr.le; omega,fun j hj hne=>?_⟩,⟨?_,?_,?_,hm4.eq mi6,?_⟩,W.ag.trans R2.ag (fun n hn=>List.mem_append_left _ hn),fun x hx=>?_,fun x hx hxv=>?_,?_⟩
   ·by_cases hi':i < qs.length
    ·rw [List.getElem?_append_left hi'] at hq'
     exact (W.raw i q' x hq' hx).agree R2.ag W.st.cl (fun y hy=>(R2.ag y hy).1) (W.qN _ (List.mem_of_getElem? hq'))
    ·rw [List.getElem?_append_right (by omega)] at hq'
     have hi0:i=g:=by
      have:=(List.getElem?_eq_some_iff.1 hq').1
      simp at this; omega
     subst hi0
     rw [hql,Nat.sub_self] at hq'
     simp at hq'
     subst hq'
     rw [List.getElem?_eq_getElem hg'] at hx
     cases hx
     exact R2.raw
   ·rw [← List.append_assoc]
    rcases List.mem_append.1 hq' with hq' | hq'
    ·exact List.mem_append_left _ (W.qN q' hq')
    ·rw [List.mem_singleton.1 hq']; exact R2.qN
   ·rw [k6 j (by have:=W.fr.le; omega) (by omega) fun i hi'=>by have:=W.low i hi'; omega,R2.fr.eq j (by have:=W.fr.le; omega) hne]
    exact W.fr.eq j hj hne
   ·rw [← List.append_assoc]
    refine R2.st.gh.re (by omega) (fun n hn=>k6 n (R2.st.gh.lt hn) (hoN n hn) (haN n hn)) (fun j ty cs ro hj hz hjn=>?_) (fun j hj hz=>?_)
    ·exact k6 j (Own.lt hj) (fun e=>hz (.inr (.inl e))) fun i hi' e=>hz (.inr (.inr (by rw [e]; exact hi')))
    ·rintro (h | h | h)
     ·exact hz (.inl h)
     ·exact hz (.inr (.inl h))
     ·cases h; omega
   ·rw [← List.append_assoc]; exact R2.st.cl
   ·rw [← List.append_assoc]; exact R2.st.ar
   ·rw [← List.append_assoc]; exact R2.st.sin
   ·rcases List.mem_append.1 hx with hx | hx
    ·obtain ⟨x1,q',hq',hsub⟩:=W.new x hx
     exact ⟨x1,q',List.mem_append_left _ hq',hsub.agree R2.ag W.st.cl (W.qN q' hq')⟩
    ·obtain ⟨x1,hsub⟩:=R2.new x hx
     exact ⟨by omega,q,by simp,hsub⟩
   ·rcases List.mem_append.1 hx with hx | hx
    ·have hh:=(R2.ag x (List.mem_append_right _ hx)).1
     rw [hh] at hxv ⊢
     exact inc _ (W.var x hx hxv)
    ·exact R2.var x hx hxv
   ·obtain ⟨r1,hr1⟩:=W.ext
    obtain ⟨r2,hr2⟩:=R2.ext
    exact ⟨r1 ++ r2,by rw [hr2,hr1,List.append_assoc]⟩
  ·apply Zdx.A7x0i
   have hgl:g=t.ps.length:=by omega
   have hqt:qs.length=t.ps.length:=by omega
   have hoN:h1.length ∉ N ++ L1:=fun hn=>by
    rcases List.mem_append.1 hn with hn | hn
    ·have:=hNlt _ hn; omega
    ·have:=(W.new _ hn).1; omega
   have ag1:GAg (N ++ L1) G1 (Zrx G1 h1.length t.hd qs):=Ych hoN
   have ghd:(Zrx G1 h1.length t.hd qs).hd h1.length=t.hd:=by simp [Zrx]
   have gps:(Zrx G1 h1.length t.hd qs).ps h1.length=qs:=by simp [Zrx]
   refine ⟨h1.length,Zrx G1 h1.length t.hd qs,L1 ++ [h1.length],sc1,rfl,W.fr,⟨?_,?_,?_,W.st.map,fun p hp=>?_⟩,W.ag.trans ag1 (fun n hn=>List.mem_append_left _ hn),fun x hx=>?_,fun x hx hxv=>?_,W.ext,by simp,?_⟩
   ·rw [← List.append_assoc]
    refine W.st.gh.add (.inr (.inl rfl)) (fun z hz=>.inl hz) hoN W.out (W.vec.row (by simp)) (fun j o' h0 ha=>⟨fun hj=>?_,?_,fun hz=>?_⟩)
    ·obtain ⟨_,_,_,hnn,_⟩:=W.st.gh.node j hj
     exact Yhy hnn (W.vec.ptr ha).2 rfl
    ·have h00:=(W.vec.ptr ha).1
     subst h00
     have:=W.low j ha; omega
    ·have h00:=(W.vec.ptr ha).1
     subst h00
     have:=W.low j ha
     have:=hZ j hz; omega
   ·intro n hn p hp
    rw [← List.append_assoc] at hn ⊢
    rcases List.mem_append.1 hn with hn | hn
    ·rw [(ag1 n hn).2] at hp; exact List.mem_append_left _ (W.st.cl n hn p hp)
    ·rw [List.mem_singleton.1 hn,gps] at hp; exact List.mem_append_left _ (W.qN p hp)
   ·intro n hn
    rw [← List.append_assoc] at hn
    rcases List.mem_append.1 hn with hn | hn
    ·rw [(ag1 n hn).1,(ag1 n hn).2]; exact W.st.ar n hn
    ·rw [List.mem_singleton.1 hn,ghd,gps,har,hqt]
   ·obtain ⟨q1,q2,q3,q4⟩:=W.st.sin p hp
    exact ⟨by rw [← List.append_assoc]; exact List.mem_append_left _ q1,by rw [(ag1 _ q1).1]; exact q2,q3,q4⟩
   ·rcases List.mem_append.1 hx with hx | hx
    ·obtain ⟨x1,q',hq',hsub⟩:=W.new x hx
     exact ⟨by omega,.part (by rw [gps]; exact hq') (hsub.agree ag1 W.st.cl (W.qN q' hq'))⟩
    ·rw [List.mem_singleton.1 hx]; exact ⟨Nat.le_refl _,.refl⟩
   ·rcases List.mem_append.1 hx with hx | hx
    ·rw [(ag1 x (List.mem_append_right _ hx)).1] at hxv ⊢
     exact W.var x hx hxv
    ·rw [List.mem_singleton.1 hx,ghd] at hxv
     rw [hvar] at hxv; cases hxv
   ·have hraw:∀ (i q:Nat) (x:Ty),qs[i]?=some q→t.ps[i]?=some x→Raw (Zrx G1 h1.length t.hd qs) (Zrx G1 h1.length t.hd qs).hd q x:=fun i q x hq hx=>
     (W.raw i q x hq hx).agree ag1 W.st.cl (fun y hy=>(ag1 y hy).1) (W.qN _ (List.mem_of_getElem? hq))
    have hvo:Zbc ((Zrx G1 h1.length t.hd qs).hd h1.length)=false:=by rw [ghd]; exact hvar
    cases t with
    | k c=>
     have hq0:qs=[]:=List.eq_nil_of_length_eq_zero hqt
     have:=Raw.cst (nu:=(Zrx G1 h1.length (Ty.k c).hd qs).hd) hvo (by rw [gps]; exact hq0)
     rw [ghd] at this; exact this
    | u c x=>
     obtain ⟨q,rfl⟩:=List.length_eq_one_iff.1 (show qs.length=1 from hqt)
     ·have:=Raw.one (nu:=(Zrx G1 h1.length (Ty.u c x).hd [q]).hd) hvo gps (hraw 0 q x rfl rfl)
      rw [ghd] at this; exact this
    | w c x y=>
     obtain ⟨q,q',rfl⟩:∃ q q',qs=[q,q']:=by
      match qs,hqt with
      | [q,q'],_=>exact ⟨q,q',rfl⟩
     ·have:=Raw.two (nu:=(Zrx G1 h1.length (Ty.w c x y).hd [q,q']).hd) hvo gps (hraw 0 q x rfl rfl) (hraw 1 q' y rfl rfl)
      rw [ghd] at this; exact this
end Go.Sim

set_option linter.unusedVariables false
set_option linter.unusedSimpArgs false
set_option maxRecDepth 20000
namespace Go.Sim
open Go Go.RowKit

section
variable {h h':Zaa} {mi:Nat} {G G':Gr} {N L:List Nat} {sc sc':List (Nat × Nat)} {Z Z':Nat→Prop} {lk:Nat→Option Nat}
theorem ShS.same (st:ShS h mi G N sc Z) (s:Zaz h.length h h'):ShS h' mi G N sc Z:=by
 obtain ⟨es,k,hm,_⟩:=id st.map
 exact ⟨st.gh.same s,st.cl,st.ar,st.map.eq (s.eq mi (Own.lt hm)),st.sin⟩
theorem Ydn {s:List Nat} {T:Ty} (hs:Zhv s=some T) (st:ShS h mi G N sc Z) (hZ:∀ z,Z z→z < h.length) :
  Zae pg Zlk [.str s,.map (some mi)] h fun v h'=>∃ q G' L sc',v=.ptr (some (q,0))∧ShR h mi G N sc Z T q h' G' L sc':=by
 obtain ⟨h1,h2,h3⟩:=Zep.1 hs
 obtain ⟨es,k,hm,_⟩:=id st.map
 have hml:=Own.lt hm
 apply Zsw.call
 refine (Ztp s.length s (Nat.le_refl _) h).mono ?_
 rintro v g1 ⟨s1,p,r,rfl,hres⟩
 have ho:Zgp s T []:=⟨h1,by rw [h2]; simp⟩
 rcases hres with ⟨t,ho',hn⟩ | ⟨_,hno⟩
 ·obtain ⟨rfl,rfl⟩:=ho'.unique ho
  simp only [Zdo,Zai,Zda,Zap,Zar]
  have l1:=s1.le
  refine (Ylx _ (Nat.le_refl _) h1 hn (fun j hj=>by have:=hj.1; omega) (st.same s1) (fun z hz=>by have:=hZ z hz; omega)).mono ?_
  rintro v g2 ⟨q,G',L,sc',rfl,R⟩
  simp only [Zda]
  exact ⟨q,G',L,sc',rfl,⟨(Yee s1).trans R.fr,R.st,R.ag,fun x hx=>⟨by have:=(R.new x hx).1; omega,(R.new x hx).2⟩,R.var,R.ext,R.qN,R.raw⟩⟩
 ·exact absurd ho (hno T [])
theorem ShS.gok (st:ShS h mi G N sc Z):GOk G N (fun _=>none):=⟨st.cl,st.ar,fun n m _ h=>(by cases h),fun n _=>⟨0,n,.refl,rfl⟩⟩
theorem Raw.under (g:GOk G N lk) {nu:Nat→Nat} {q x:Nat} (s:Sub G q x):q∈N→∀ {t:Ty},Raw G nu q t→∃ t',Raw G nu x t':=by
 induction s with
 | refl=>exact fun _ t r=>⟨_,r⟩
 | @part n p x hp _ ih=>
  intro hn t r
  have hpN:=g.par n hn p hp
  cases r with
  | var hv=>rw [g.var_ps hn hv] at hp; cases hp
  | cst h1 h2=>rw [h2] at hp; cases hp
  | one h1 h2 h3=>rw [h2] at hp; simp at hp; subst hp; exact ih hpN h3
  | two h1 h2 h3 h4=>
   rw [h2] at hp; simp at hp
   rcases hp with rfl | rfl
   ·exact ih hpN h3
   ·exact ih hpN h4
theorem ShS.nil (hm:h[mi]?=some (.map [] 0)) (G:Gr) (Z:Nat→Prop):ShS h mi G [] [] Z:=
 ⟨⟨fun n hn=>(by cases hn)⟩,fun n hn=>(by cases hn),fun n hn=>(by cases hn),⟨[],0,hm,rfl,rfl,by simp,by simp⟩,fun p hp=>(by cases hp)⟩
end
theorem Ycy (s t:List Nat) (h:Zaa):Zae pg Zgg [.str s,.str t] h fun v h'=>v=.bool (Zmh s t)∧Zaz h.length h h':=by
 apply Zkz.call
 refine (Zle s h).mono ?_
 rintro v h1 ⟨rfl,s1⟩
 simp only [Zah]
 refine Zbx (fun hn=>⟨by rw [Ztl (by rw [hn]; rfl)],s1⟩) (fun hs=>?_)
 refine (Zle t h1).mono ?_
 rintro v h2 ⟨rfl,s2⟩
 simp only [Zah]
 have S2:=s1.cat s2
 refine Zbx (fun hn=>⟨by rw [Ztl (by rw [hn]; simp)],S2⟩) (fun ht=>?_)
 obtain ⟨a,ha⟩:=Zzo hs
 obtain ⟨b,hb⟩:=Zzo ht
 obtain ⟨a1,a2,a3⟩:=Zep.1 ha
 obtain ⟨b1,b2,b3⟩:=Zep.1 hb
 apply Zkz.J3i
 simp only [Zaw]
 generalize hh3:h2 ++ [Zcj.map [] 0]=h3
 have s3:Zaz h2.length h2 h3:=by rw [← hh3]; exact Zaq
 have m3:h3[h2.length]?=some (.map [] 0):=by rw [← hh3]; simp
 have l3:h3.length=h2.length + 1:=by rw [← hh3]; simp
 have hl2:=S2.le
 refine (Ydn ha (ShS.nil m3 ⟨fun _=>0,fun _=>[]⟩ fun _=>False) (fun z hz=>hz.elim)).mono ?_
 rintro v h4 ⟨q1,G1,L1,sc1,rfl,R1⟩
 simp only [Zda]
 have l4:=R1.fr.le
 generalize hh5:h4 ++ [Zcj.map [] 0]=h5
 have s5:Zaz h4.length h4 h5:=by rw [← hh5]; exact Zaq
 have m5:h5[h4.length]?=some (.map [] 0):=by rw [← hh5]; simp
 have l5:h5.length=h4.length + 1:=by rw [← hh5]; simp
 refine (Ydn hb (ShS.nil m5 ⟨fun _=>0,fun _=>[]⟩ fun z=>z < h5.length) (fun z hz=>hz)).mono ?_
 rintro v h6 ⟨q2,G2,L2,sc2,rfl,R2⟩
 simp only [Zda]
 have l6:=R2.fr.le
 have st1:=R1.st
 have st2:=R2.st
 simp only [List.nil_append] at st1 st2
 have S6:Zaz h.length h h6:=⟨by omega,fun j hj=>by
  rw [R2.fr.eq j (by omega) (by omega),s5.eq j (by omega),R1.fr.eq j (by omega) (by omega),s3.eq j (by omega)]; exact S2.eq j hj⟩
 have q1N:q1∈L1:=by simpa using R1.qN
 have q2N:q2∈L2:=by simpa using R2.qN
 have lo1:∀ x∈L1,x < h4.length:=fun x hx=>st1.gh.lt hx
 have lo2:∀ x∈L2,h5.length≤x:=fun x hx=>(R2.new x hx).1
 have dis:∀ x∈L1,x ∉ L2:=fun x hx hx2=>by have:=lo1 x hx; have:=lo2 x hx2; omega
 -- both graphs as one
 let G:Gr:=⟨fun n=>if n∈L1 then G1.hd n else G2.hd n,fun n=>if n∈L1 then G1.ps n else G2.ps n⟩
 have ag1:GAg L1 G1 G:=fun n hn=>by simp [G,hn]
 have ag2:GAg L2 G2 G:=fun n hn=>by
  have:n ∉ L1:=fun h=>dis n h hn
  simp [G,this]
 have k56:∀ j,j < h4.length→h6[j]?=h4[j]?:=fun j hj=>by rw [R2.fr.eq j (by omega) (by omega)]; exact s5.eq j hj
 have g1:GH h6 G L1 (fun _=>none) (fun z=>h4.length≤z):=(st1.gh.re (by omega) (fun n hn=>k56 n (lo1 n hn)) (fun j t cs ro hj _ _=>k56 j (Own.lt hj)) (fun j hj _=>by omega)).ag ag1
 have g2:GH h6 G L2 (fun _=>none) (fun z=>z < h5.length):=st2.gh.ag ag2
 have g:GH h6 G (L1 ++ L2) (fun _=>none) (fun _=>False):=by
  refine ⟨fun n hn=>?_⟩
  rcases List.mem_append.1 hn with hn | hn
  ·obtain ⟨pa,c,e,hi,hr,hd⟩:=g1.node n hn
   refine ⟨pa,c,e,hi,hr,fun j o h0 hj=>⟨fun hjm=>?_,fun h=>h.elim⟩⟩
   obtain ⟨d1,d2⟩:=hd j o h0 hj
   rcases List.mem_append.1 hjm with hjm | hjm
   ·exact d1 hjm
   ·have:=lo2 j hjm; omega
  ·obtain ⟨pa,c,e,hi,hr,hd⟩:=g2.node n hn
   refine ⟨pa,c,e,hi,hr,fun j o h0 hj=>⟨fun hjm=>?_,fun h=>h.elim⟩⟩
   obtain ⟨d1,d2⟩:=hd j o h0 hj
   rcases List.mem_append.1 hjm with hjm | hjm
   ·have:=lo1 j hjm; omega
   ·exact d1 hjm
 have cl1:GCl G L1:=fun n hn p hp=>by rw [(ag1 n hn).2] at hp; exact st1.cl n hn p hp
 have cl2:GCl G L2:=fun n hn p hp=>by rw [(ag2 n hn).2] at hp; exact st2.cl n hn p hp
 have ok:GOk G (L1 ++ L2) (fun _=>none):=by
  refine ⟨fun n hn p hp=>?_,fun n hn=>?_,fun n m _ h=>(by cases h),fun n _=>⟨0,n,.refl,rfl⟩⟩
  ·rcases List.mem_append.1 hn with hn | hn
   ·exact List.mem_append_left _ (cl1 n hn p hp)
   ·exact List.mem_append_right _ (cl2 n hn p hp)
  ·rcases List.mem_append.1 hn with hn | hn
   ·rw [(ag1 n hn).1,(ag1 n hn).2]; exact st1.ar n hn
   ·rw [(ag2 n hn).1,(ag2 n hn).2]; exact st2.ar n hn
 let nu:Nat→Nat:=fun n=>if n∈L1 then G.hd n else Yfu (G.hd n)
 have nu1:∀ n∈L1,nu n=G.hd n:=fun n hn=>by simp [nu,hn]
 have nu2:∀ n∈L2,nu n=Yfu (G.hd n):=fun n hn=>by
  have:n ∉ L1:=fun h=>dis n h hn
  simp [nu,this]
 have letter:∀ n∈L1 ++ L2,Zta (G.hd n)=false:=fun n hn=>by
  have h0:=ok.ar n hn
  cases ho:Zta (G.hd n) with
  | false=>rfl
  | true=>
   exfalso
   generalize G.hd n=c at h0 ho
   simp only [Zta,decide_eq_true_eq] at ho
   unfold arN Zfi Zbc at h0
   simp only [Bool.or_eq_true,beq_iff_eq] at h0
   split at h0
   ·omega
   ·split at h0
    ·omega
    ·split at h0 <;> omega
 have nv:Yop G (L1 ++ L2) nu V12:=by
  refine ⟨fun n hn hv=>?_,fun n hn hv=>by simp [V12,hv,letter n hn],fun n hn m hm hv hv' he=>?_⟩
  ·rcases List.mem_append.1 hn with hn | hn
   ·rw [nu1 n hn]; simp [V12,hv]
   ·rw [nu2 n hn]; simp [V12,(Znn hv).2.1]
  ·rcases List.mem_append.1 hn with hn | hn <;> rcases List.mem_append.1 hm with hm | hm
   ·rw [nu1 n hn,nu1 m hm] at he
    rw [(ag1 n hn).1] at hv he
    rw [(ag1 m hm).1] at hv' he
    have e1:=(st1.sin _ (R1.var n hn hv)).2.2.2
    have e2:=(st1.sin _ (R1.var m hm hv')).2.2.2
    simp only at e1 e2
    rw [he,e2] at e1; exact (Option.some.inj e1).symm
   ·rw [nu1 n hn,nu2 m hm] at he
    have:=(Znn hv').2.2
    rw [← he,hv] at this; cases this
   ·rw [nu2 n hn,nu1 m hm] at he
    have:=(Znn hv).2.2
    rw [he,hv'] at this; cases this
   ·rw [nu2 n hn,nu2 m hm] at he
    have he:=Yns hv hv' he
    rw [(ag2 n hn).1] at hv he
    rw [(ag2 m hm).1] at hv' he
    have e1:=(st2.sin _ (R2.var n hn hv)).2.2.2
    have e2:=(st2.sin _ (R2.var m hm hv')).2.2.2
    simp only at e1 e2
    rw [he,e2] at e1; exact (Option.some.inj e1).symm
 have ra:Raw G nu q1 a:=R1.raw.agree ag1 st1.cl (fun x hx=>by rw [nu1 x hx,(ag1 x hx).1]) q1N
 have rb:Raw G nu q2 (Zqh b):=by
  have r0:Raw G G.hd q2 b:=R2.raw.agree ag2 st2.cl (fun x hx=>(ag2 x hx).1) q2N
  exact r0.oth cl2 (fun x hx _=>nu2 x hx) q2N
 have sb1:∀ x∈L1,Sub G q1 x:=fun x hx=>(R1.new x hx).2.agree ag1 st1.cl q1N
 have sb2:∀ x∈L2,Sub G q2 x:=fun x hx=>(R2.new x hx).2.agree ag2 st2.cl q2N
 have w:Two G (L1 ++ L2) nu V12 q1 q2 a (Zqh b):=by
  refine ⟨by simp [q1N],by simp [q2N],nv,ra,rb,fun n hn=>?_,fun x hx=>?_⟩
  ·rcases List.mem_append.1 hn with hn | hn
   ·exact ra.under ok (sb1 n hn) (by simp [q1N])
   ·exact rb.under ok (sb2 n hn) (by simp [q2N])
  ·rcases List.mem_append.1 hx with hx | hx
   ·exact .inl (sb1 x hx)
   ·exact .inr (sb2 x hx)
 have hap:Zmh s t=true ↔ ¬ ∃ θ:Nat→Ty,sb V12 θ a=sb V12 θ (Zqh b):=by
  rw [Ydj a1 b1]
  unfold Zmh; rw [ha,hb]; simp
 refine (Yky _ (Nat.le_refl _) g ok (by simp [q1N]) (by simp [q2N])).mono ?_
 rintro v h7 ⟨o7,hr7⟩
 have S7:Zaz h.length h h7:=⟨by have:=o7.1; omega,fun j hj=>by
  rw [o7.2 j (by omega) fun hj'=>by
   rcases List.mem_append.1 hj' with hj' | hj'
   ·have:=(R1.new j hj').1; omega
   ·have:=lo2 j hj'; omega]
  exact S6.eq j hj⟩
 rcases hr7 with ⟨rfl,lk',y,g7⟩ | ⟨rfl,no⟩
 ·simp only [Zah,Bool.not_true,Zax]
  refine (Ynt y.gok g7 (show q1∈L1 ++ L2 by simp [q1N])).mono ?_
  rintro v h8 ⟨s8,⟨rfl,hno⟩ | ⟨rfl,hT⟩⟩
  ·simp only [Zah,Bool.not_false]
   refine ⟨?_,S7.cat s8⟩
   rw [hap.2 (w.endless y hno)]
  ·simp only [Zah,Bool.not_true]
   refine ⟨?_,S7.cat s8⟩
   obtain ⟨T,hT⟩:=hT nu
   have hs:=w.sol y hT
   have:Zmh s t=false:=by
    cases hq:Zmh s t with
    | false=>rfl
    | true=>exact absurd ⟨_,hs.1.trans hs.2.symm⟩ (hap.1 hq)
   rw [this]
 ·simp only [Zah,Bool.not_false,Zbr]
  exact ⟨by rw [hap.2 (w.no no)],S7⟩
end Go.Sim

set_option linter.unusedVariables false
set_option linter.unusedSimpArgs false
set_option maxRecDepth 20000
namespace Go.Sim
open Go Go.RowKit

end Go.Sim

set_option linter.unusedVariables false
set_option linter.unusedSimpArgs false
set_option maxRecDepth 20000
namespace Go.Sim
open Go Go.RowKit

end Go.Sim

set_option linter.unusedVariables false
set_option linter.unusedSimpArgs false
set_option maxRecDepth 20000
namespace Go.Sim
open Go Go.RowKit

end Go.Sim

set_option linter.unusedSimpArgs false
set_option linter.unusedVariables false
namespace Go.Sim

def Up (cs:List Nd) (a b:Nat):Prop:=∃ i,∃ h:i < cs.length,cs[i].1=[a]∧b∈cs[i].2
inductive Rch (cs:List Nd) (a:Nat):Nat→Prop
 | one {b:Nat}:Up cs a b→Rch cs a b
 | more {b c:Nat}:Rch cs a b→Up cs b c→Rch cs a c
theorem Zxg {cs:List Nd} (h:Zic cs=true) {i:Nat} (hi:i < cs.length):Zvn cs i=true:=by
 unfold Zic at h
 simp only [Bool.and_eq_true,List.all_eq_true] at h
 exact h.1 i (List.mem_range.2 hi)
theorem Yll {cs:List Nd} (h:Zic cs=true) {i:Nat} (hi:i < cs.length):∃ d,cs[i].1=[d]∧65≤d∧d≤84:=by
 have:=Zxg h hi
 unfold Zvn at this
 rw [Zhb hi] at this
 simp only [Bool.and_eq_true] at this
 have h1:=this.1.1
 unfold Ztb at h1
 split at h1
 ·rename_i d hd; exact ⟨d,hd,by simpa using h1⟩
 ·cases h1
theorem Zyu {cs:List Nd} (h:Zic cs=true) {i:Nat} (hi:i + 1 < cs.length) {a b:Nat} (ha:cs[i].1=[a]) (hb:cs[i + 1].1=[b]):a < b:=by
 have:=Zxg h hi
 unfold Zvn at this
 rw [Zhb hi,Nat.add_sub_cancel,Zhb (by omega),ha,hb] at this
 simp only [Bool.and_eq_true] at this
 have h1:=this.1.2
 simpa [Zed] using h1
theorem Zxs {cs:List Nd} (h:Zic cs=true):∀ (k i:Nat) (hi:i + k + 1 < cs.length) {a b:Nat},cs[i].1=[a]→cs[i + k + 1].1=[b]→a < b
 | 0,i,hi,a,b,ha,hb=>Zyu h hi ha hb
 | k + 1,i,hi,a,b,ha,hb=>by
  obtain ⟨d,hd,_⟩:=Yll h (show i + k + 1 < cs.length by omega)
  have h1:=Zxs h k i (by omega) ha hd
  have h2:=Zyu h (i:=i + k + 1) (by omega) hd hb
  omega
theorem Zye {cs:List Nd} (h:Zic cs=true) {i j:Nat} (hi:i < cs.length) (hj:j < cs.length) {a:Nat} (ha:cs[i].1=[a]) (hb:cs[j].1=[a]):i=j:=by
 rcases Nat.lt_trichotomy i j with hl | he | hl
 ·obtain ⟨k,rfl⟩:∃ k,j=i + k + 1:=⟨j - i - 1,by omega⟩
  have:=Zxs h k i hj ha hb; omega
 ·exact he
 ·obtain ⟨k,rfl⟩:∃ k,i=j + k + 1:=⟨i - j - 1,by omega⟩
  have:=Zxs h k j hi hb ha; omega
theorem Zop {cs:List Nd} (h:Zic cs=true) {i:Nat} (hi:i < cs.length) {b:Nat} (hb:b∈cs[i].2):∃ j,∃ hj:j < i,cs[j].1=[b]:=by
 have:=Zxg h hi
 unfold Zvn at this
 rw [Zhb hi] at this
 simp only [Bool.and_eq_true] at this
 have h1:=this.2
 unfold Yad at h1
 rw [List.all_eq_true] at h1
 obtain ⟨k,hk,rfl⟩:=List.mem_iff_getElem.1 hb
 have h2:=h1 k (List.mem_range.2 hk)
 unfold Zvt at h2
 rw [Zhb hk] at h2
 simp only [Bool.and_eq_true] at h2
 have h3:=h2.1
 unfold Zhe at h3
 rw [List.any_eq_true] at h3
 obtain ⟨x,hx,he⟩:=h3
 obtain ⟨j,hj,rfl⟩:=List.mem_iff_getElem.1 hx
 rw [List.length_take] at hj
 exact ⟨j,by omega,by simpa using he⟩
theorem Up.ix {cs:List Nd} (h:Zic cs=true) {a b i:Nat} (u:Up cs a b) (hi:i < cs.length) (ha:cs[i].1=[a]):b∈cs[i].2:=by
 obtain ⟨j,hj,hja,hb⟩:=u
 have:=Zye h hi hj ha hja
 subst this; exact hb
theorem Rch.ix {cs:List Nd} (h:Zic cs=true) {a b i:Nat} (r:Rch cs a b) (hi:i < cs.length) (ha:cs[i].1=[a]):∃ j,∃ hj:j < i,cs[j].1=[b]:=by
 induction r with
 | one u=>exact Zop h hi (u.ix h hi ha)
 | more _ u ih=>
  obtain ⟨j,hj,hb⟩:=ih
  obtain ⟨k,hk,hc⟩:=Zop h (show j < cs.length by omega) (u.ix h (by omega) hb)
  exact ⟨k,by omega,hc⟩
structure Zvy (cs:List Nd) (a:Nat) (i:Nat) (ab:List Nat):Prop where
 sound:∀ d∈ab,Rch cs a d
 done:∀ j,i≤j→∀ hj:j < cs.length,(cs[j].1=[a] ∨ ∃ d,cs[j].1=[d]∧d∈ab)→∀ b∈cs[j].2,b∈ab
theorem Zvy.start {cs:List Nd} {a:Nat}:Zvy cs a cs.length []:=⟨by simp,fun j h1 h2=>by omega⟩
theorem Zvy.step {cs:List Nd} (h:Zic cs=true) {a i:Nat} {ab:List Nat} (D:Zvy cs a (i + 1) ab) (hi:i < cs.length) (hc:cs[i].1=[a] ∨ ∃ d,cs[i].1=[d]∧d∈ab):Zvy cs a i (ab ++ cs[i].2):=by
 refine ⟨fun d hd=>?_,fun j hj hjl hcj b hb=>?_⟩
 ·rcases List.mem_append.1 hd with hd | hd
  ·exact D.sound d hd
  ·rcases hc with hc | ⟨e,he,hm⟩
   ·exact .one ⟨i,hi,hc,hd⟩
   ·exact .more (D.sound e hm) ⟨i,hi,he,hd⟩
 ·by_cases hji:j=i
  ·subst hji; exact List.mem_append_right _ hb
  ·refine List.mem_append_left _ (D.done j (by omega) hjl ?_ b hb)
   rcases hcj with hcj | ⟨e,he,hm⟩
   ·exact .inl hcj
   ·rcases List.mem_append.1 hm with hm | hm
    ·exact .inr ⟨e,he,hm⟩
    ·exfalso
     obtain ⟨k,hk,hke⟩:=Zop h hi hm
     have:=Zye h hjl (show k < cs.length by omega) he hke
     omega
theorem Zvy.skip {cs:List Nd} {a i:Nat} {ab:List Nat} (D:Zvy cs a (i + 1) ab) (hc:∀ hi:i < cs.length,¬ (cs[i].1=[a] ∨ ∃ d,cs[i].1=[d]∧d∈ab)):Zvy cs a i ab:=
 ⟨D.sound,fun j hj hjl hcj b hb=>by
  by_cases hji:j=i
  ·subst hji; exact absurd hcj (hc hjl)
  ·exact D.done j (by omega) hjl hcj b hb⟩
theorem Zvy.all {cs:List Nd} (h:Zic cs=true) {a i:Nat} {ab:List Nat} (D:Zvy cs a 0 ab) (hi:i < cs.length) (ha:cs[i].1=[a]) (d:Nat):d∈ab ↔ Rch cs a d:=by
 refine ⟨D.sound d,fun r=>?_⟩
 induction r with
 | one u=>exact D.done i (by omega) hi (.inl ha) _ (u.ix h hi ha)
 | more r u ih=>
  obtain ⟨j,hj,hb⟩:=r.ix h hi ha
  exact D.done j (by omega) (by omega) (.inr ⟨_,hb,ih⟩) _ (u.ix h (by omega) hb)
structure Ynq (cs:List Nd) (a i:Nat) (r:Nat) (ab:List Nat):Prop where
 sound:∀ d∈ab,Rch cs a d
 first:∀ d,Up cs a d→d∈ab
 near:∀ j,j < i→i≤j + 1 + r→∀ hj:j < cs.length,∀ d,cs[j].1=[d]→Rch cs a d→d∈ab
theorem Ynq.start {cs:List Nd} (h:Zic cs=true) {a i:Nat} (hi:i < cs.length) (ha:cs[i].1=[a]):Ynq cs a i 0 cs[i].2:=by
 refine ⟨fun d hd=>.one ⟨i,hi,ha,hd⟩,fun d u=>u.ix h hi ha,fun j hj hn hjl d hd r=>?_⟩
 cases r with
 | one u=>exact u.ix h hi ha
 | more r u=>
  obtain ⟨k,hk,hb⟩:=r.ix h hi ha
  obtain ⟨q,hq,hc⟩:=Zop h (show k < cs.length by omega) (u.ix h (by omega) hb)
  have:=Zye h hjl (show q < cs.length by omega) hd hc
  omega
theorem Ynq.next {cs:List Nd} (h:Zic cs=true) {a i r:Nat} {ab ab':List Nat} (R:Ynq cs a i r ab) (hi:i < cs.length) (ha:cs[i].1=[a])
  (hs:∀ d∈ab',d∈ab ∨ ∃ e∈ab,Up cs e d) (hc:∀ d,(d∈ab ∨ ∃ e∈ab,Up cs e d)→d∈ab'):Ynq cs a i (r + 1) ab':=by
 refine ⟨fun d hd=>?_,fun d u=>hc d (.inl (R.first d u)),fun j hj hn hjl d hd rc=>?_⟩
 ·rcases hs d hd with hd | ⟨e,he,u⟩
  ·exact R.sound d hd
  ·exact .more (R.sound e he) u
 ·cases rc with
  | one u=>exact hc d (.inl (R.first d u))
  | more rc u=>
   rename_i e
   obtain ⟨k,hk,hb⟩:=rc.ix h hi ha
   have hjk:j < k:=by
    obtain ⟨q,hq,hcq⟩:=Zop h (show k < cs.length by omega) (u.ix h (by omega) hb)
    have:=Zye h hjl (show q < cs.length by omega) hd hcq
    omega
   exact hc d (.inr ⟨e,R.near k hk (by omega) (by omega) e hb rc,u⟩)
theorem Ynq.all {cs:List Nd} (h:Zic cs=true) {a i r:Nat} {ab:List Nat} (R:Ynq cs a i r ab) (hi:i < cs.length) (ha:cs[i].1=[a]) (hr:i≤r + 1) (d:Nat):d∈ab ↔ Rch cs a d:=by
 refine ⟨R.sound d,fun rc=>?_⟩
 obtain ⟨j,hj,hd⟩:=rc.ix h hi ha
 exact R.near j hj (by omega) (by omega) d hd rc
end Go.Sim

set_option linter.unusedVariables false
set_option linter.unusedSimpArgs false
set_option maxRecDepth 20000
namespace Go.Sim
open Go Go.RowKit

end Go.Sim

set_option linter.unusedVariables false
set_option linter.unusedSimpArgs false
set_option maxRecDepth 20000
namespace Go.Sim
open Go Go.RowKit

end Go.Sim

set_option linter.unusedVariables false
set_option linter.unusedSimpArgs false
set_option maxRecDepth 20000
namespace Go.Sim
open Go Go.RowKit

structure Yqe (b:Nat) (h:Zaa) (a:Pt) (n c:Nat) (l:List Nd):Prop where
 vec:Vec Zbv h a n c (Zeu eP l)
 len:l.length=n
 low:∀ i,a=some (i,0)→b≤i
 cap:n≤c
theorem Yqe.row {b:Nat} {h:Zaa} {a:Pt} {n c:Nat} {l:List Nd} (f:Yqe b h a n c l):Row h.length h a (n * 2) (Zeu eP l):=f.vec.row (by rw [Zbm Zgz,f.len])
theorem Yqe.same {b:Nat} {h h':Zaa} {a:Pt} {n c:Nat} {l:List Nd} (f:Yqe b h a n c l) (s:Zaz h.length h h'):Yqe b h' a n c l:=⟨f.vec.same s,f.len,f.low,f.cap⟩
def But (a:Pt) (h h':Zaa):Prop:=h.length≤h'.length∧∀ j,j < h.length→(∀ i,a=some (i,0)→j≠i)→h'[j]?=h[j]?
theorem But.of {a:Pt} {h h':Zaa} (s:Zaz h.length h h'):But a h h':=⟨s.le,fun j hj _=>s.eq j hj⟩
theorem But.below {a:Pt} {b:Nat} {h h':Zaa} (s:But a h h') (hb:b≤h.length) (hl:∀ i,a=some (i,0)→b≤i):Zaz b h h':=⟨s.1,fun j hj=>s.2 j (by omega) fun i hi=>by have:=hl i hi; omega⟩
end Go.Sim

set_option linter.unusedSimpArgs false
set_option linter.unusedVariables false
namespace Go.Sim

structure Wk where
 cand:Nd→List Int
 needs:Int→List Nat→Option (List Nd)
 most:List Int→Int
inductive Fnd where
 | ok (s:List Nat)
 | no (why:List Nat) (n:Nd)
end Go.Sim

set_option linter.unusedVariables false
set_option linter.unusedSimpArgs false
set_option maxRecDepth 20000
namespace Go.Sim
open Go Go.RowKit

noncomputable def wk (w:Wd):Wk:=⟨Yri w,fun x t=>Yql (Zuo w x) t,Yrb w⟩
structure FrS (i:Nat) (qa:Pt) (h h':Zaa) (qa':Pt):Prop where
 le:h.length≤h'.length
 eq:∀ j,j < h.length→j≠i→(∀ q,qa=some (q,0)→j≠q)→h'[j]?=h[j]?
 pt:qa'=qa ∨ ∀ q,qa'=some (q,0)→h.length≤q
theorem FrS.of_same {i:Nat} {qa:Pt} {h h':Zaa} (s:Zaz h.length h h'):FrS i qa h h' qa:=⟨s.le,fun j hj _ _=>s.eq j hj,.inl rfl⟩
theorem FrS.refl (i:Nat) (qa:Pt) (h:Zaa):FrS i qa h h qa:=.of_same (Zaz.refl _ _)
theorem FrS.ne {i:Nat} {qa qa':Pt} {h h':Zaa} (f:FrS i qa h h' qa') {j:Nat} (hj:j < h.length) (hq:∀ q,qa=some (q,0)→j≠q):∀ q,qa'=some (q,0)→j≠q:=by
 intro q hq'
 rcases f.pt with e | e
 ·exact hq q (e ▸ hq')
 ·have:=e q hq'; omega
theorem FrS.trans {i:Nat} {qa qa1 qa2:Pt} {h h1 h2:Zaa} (f:FrS i qa h h1 qa1) (g:FrS i qa1 h1 h2 qa2):FrS i qa h h2 qa2:=by
 have:=f.le; have:=g.le
 refine ⟨by omega,fun j hj hi hq=>?_,?_⟩
 ·rw [g.eq j (by omega) hi (f.ne hj hq)]; exact f.eq j hj hi hq
 ·rcases g.pt with e | e
  ·rcases f.pt with e' | e'
   ·exact .inl (e.trans e')
   ·exact .inr fun q hq=>e' q (e ▸ hq)
  ·exact .inr fun q hq=>by have:=e q hq; omega
theorem FrS.set {i:Nat} {qa:Pt} {h:Zaa} {x:Zcj}:FrS i qa h (h.set i x) qa:=⟨by simp,fun j _ hi _=>Zbw (fun e=>hi e.symm),.inl rfl⟩
theorem FrS.get {i:Nat} {qa qa':Pt} {h h':Zaa} (f:FrS i qa h h' qa') {j:Nat} {x:Zcj} (hj:h[j]?=some x) (hi:j≠i) (hq:∀ q,qa=some (q,0)→j≠q):h'[j]?=some x:=by rw [f.eq j (Own.lt hj) hi hq]; exact hj
theorem FrS.row {i:Nat} {qa qa':Pt} {h h':Zaa} (f:FrS i qa h h' qa') {a:Pt} {n:Nat} {cs:List Zal} (r:Row h.length h a n cs) (hn:∀ j o,n≠0→a=some (j,o)→j≠i∧∀ q,qa=some (q,0)→j≠q):Row h'.length h' a n cs:=by
 obtain ⟨hl,r⟩:=r
 by_cases h0:n=0
 ·exact ⟨hl,.inl h0⟩
 ·refine ⟨hl,r.imp id ?_⟩
  rintro ⟨j,o',t,all,ro,ha,hi,hg,x⟩
  have:=f.le
  obtain ⟨h1,h2⟩:=hn j o' h0 ha
  exact ⟨j,o',t,all,ro,ha,by omega,by rw [f.eq j hi h1 h2]; exact hg,x⟩
theorem FrS.below {i b:Nat} {qa qa':Pt} {h h':Zaa} (f:FrS i qa h h' qa') (hb:b≤h.length) (hi:b≤i) (hq:∀ q,qa=some (q,0)→b≤q):Zaz b h h':=⟨f.le,fun j hj=>f.eq j (by omega) (by omega) fun q hq'=>by have:=hq q hq'; omega⟩
end Go.Sim

set_option linter.unusedSimpArgs false
set_option linter.unusedVariables false
namespace Go.Sim

section
variable {k:Wk} {sp:Bool} {dec:Int→List Nat}
end
end Go.Sim

set_option linter.unusedVariables false
set_option linter.unusedSimpArgs false
set_option maxRecDepth 20000
namespace Go.Sim
open Go Go.RowKit

section
variable {hb:Zaa} {i:Nat} {u v:Zal} {sp:Bool} {h:Zaa} {qa:Pt} {asked:List Nd} {fl:Nd}
end
theorem Zql {w:Wd} (h:Zdw w=true):w.is.length≤10:=by
 unfold Zdw at h
 simp only [Bool.and_eq_true,decide_eq_true_eq] at h
 exact h.1.2
end Go.Sim

set_option linter.unusedVariables false
set_option linter.unusedSimpArgs false
set_option maxRecDepth 20000
namespace Go.Sim
open Go Go.RowKit
theorem Yht:pg.underlying Zky=some (.slice Zet):=by kernel_rfl
theorem Ynm:pg.cellsOf Zet=1:=by kernel_rfl
theorem Ynk:pg.okElem Zet=true:=by kernel_rfl
theorem Ynd:pg.bytesOf Zet≤127:=Nat.le_of_ble_eq_true (by kernel_rfl)
noncomputable def ovP (x y:Ins):Bool:=decide (x.1.1=y.1.1) && !Zmh x.1.2 y.1.2
noncomputable def ovB (w:Wd) (g k:Nat):Bool:=match w.is[g]?,w.is[k]? with | some x,some y=>ovP x y | _,_=>false
noncomputable def ovI (w:Wd) (g m:Nat):List (Nat × Nat):=((List.range m).filter fun k=>decide (g < k) && ovB w g k).map fun k=>(g,k)
noncomputable def ovW (w:Wd) (g:Nat):List (Nat × Nat):=(List.range g).flatMap fun i=>ovI w i w.is.length
noncomputable def Ztc (w:Wd):List (Nat × Nat):=ovW w w.is.length
theorem Yec (w:Wd) (g m:Nat):ovI w g (m + 1)=ovI w g m ++ if g < m∧ovB w g m=true then [(g,m)] else []:=by
 unfold ovI
 rw [List.range_succ,List.filter_append,List.map_append]
 congr 1
 by_cases h:g < m∧ovB w g m=true
 ·simp [h.1,h.2]
 ·rw [if_neg h]
  have:(decide (g < m) && ovB w g m)=false:=by
   cases hb:ovB w g m with
   | false=>simp
   | true=>simp; exact Nat.le_of_not_lt fun hlt=>h ⟨hlt,hb⟩
  simp [this]
theorem Yah (w:Wd) (g:Nat):ovI w g (g + 1)=[]:=by
 unfold ovI
 rw [List.map_eq_nil_iff,List.filter_eq_nil_iff]
 intro k hk
 have:=List.mem_range.1 hk
 simp; omega
theorem Ybq (w:Wd) (g m:Nat):(ovI w g m).length≤m:=by
 unfold ovI
 rw [List.length_map]
 exact Nat.le_trans (List.length_filter_le _ _) (by simp)
theorem Zyc (w:Wd) (g:Nat):ovW w (g + 1)=ovW w g ++ ovI w g w.is.length:=by unfold ovW; rw [List.range_succ,List.flatMap_append]; simp
theorem Zyi (w:Wd):∀ g,(ovW w g).length≤g * w.is.length
 | 0=>by simp [ovW]
 | g + 1=>by
  have:=Zyi w g
  have:=Ybq w g w.is.length
  rw [Zyc,List.length_append,Nat.succ_mul]; omega
theorem Ymt {w:Wd} {g k:Nat} (hg:g < w.is.length) (hk:k < w.is.length):ovB w g k=ovP w.is[g] w.is[k]:=by
 unfold ovB; rw [List.getElem?_eq_getElem hg,List.getElem?_eq_getElem hk]
def eSl (x:Nat × Nat × Bool):List Zal:=[.slice (some (x.1,0)) 2 x.2.1 x.2.2]
theorem Ycd (x:Nat × Nat × Bool):(eSl x).length=1:=rfl
structure PV (lo:Nat) (h:Zaa) (a:Pt) (n c:Nat) (xs:List (Nat × Nat × Bool)) (l:List (Nat × Nat)):Prop where
 len:xs.length=l.length
 num:n=l.length
 vec:Vec Zet h a n c (Zeu eSl xs)
 low:∀ i,a=some (i,0)→lo≤i
 el:∀ (k:Nat) (x:Nat × Nat × Bool),xs[k]?=some x→lo≤x.1∧2≤x.2.1∧a≠some (x.1,0)∧∃ p:Nat × Nat,l[k]?=some p∧h[x.1]?=some (.cells Zna [.int .i64 (p.1:Int),.int .i64 (p.2:Int)] false)
 nd:(xs.map (·.1)).Nodup
section
variable {lo n c:Nat} {h h':Zaa} {a:Pt} {xs:List (Nat × Nat × Bool)} {l:List (Nat × Nat)}
theorem PV.same (p:PV lo h a n c xs l) (s:Zaz h.length h h'):PV lo h' a n c xs l:=⟨p.len,p.num,p.vec.same s,p.low,fun k x hx=>by
 obtain ⟨h1,h2,h3,q,h4,h5⟩:=p.el k x hx
 exact ⟨h1,h2,h3,q,h4,s.get h5 (Own.lt h5)⟩,p.nd⟩
theorem PV.in (p:PV lo h a n c xs l) {q:Nat} (hq:q∈xs.map (·.1)):q < h.length:=by
 obtain ⟨x,hx,rfl⟩:=List.mem_map.1 hq
 obtain ⟨k,hk⟩:=List.getElem?_of_mem hx
 obtain ⟨_,_,_,_,_,h5⟩:=p.el k x hk
 exact Own.lt h5
theorem PV.alt (p:PV lo h a n c xs l) {i:Nat} (ha:a=some (i,0)):i < h.length:=by
 have:=p.vec
 rw [ha] at this
 exact this.lt
theorem PV.push {hb:Zaa} {e:Bool} {q cq x y:Nat} {eq:Bool} {K:Zal→Zaa→Prop} (p:PV lo hb a n c xs l) (hlo:lo≤hb.length) (hn:n≤1000000000) (hq:lo≤q) (hcq:2≤cq) (hqa:a≠some (q,0)) (hqx:q ∉ xs.map (·.1))
  (ho:hb[q]?=some (.cells Zna [.int .i64 (x:Int),.int .i64 (y:Int)] false))
  (hk:∀ h',hb.length≤h'.length→(∀ j,j < hb.length→a≠some (j,0)→h'[j]?=hb[j]?)→PV lo h' (some (hb.length + 1,0)) (n + 1) (n + 1) (xs ++ [(q,cq,eq)]) (l ++ [(x,y)])→K (.slice (some (hb.length + 1,0)) (n + 1) (n + 1) false) h') :
  Zdp pg Zky (hb ++ [.cells Zet [.slice (some (q,0)) 2 cq eq] false]) (.slice a n c e) (.slice (some (hb.length,0)) 1 1 true) K:=by
 refine p.vec.push Yht Ynm Ynk Ynd (by rw [Zbm Ycd,p.len,p.num]; omega) rfl (by omega) (fun h' hl hi hj=>?_)
 have hj':∀ j,j < hb.length→a≠some (j,0)→h'[j]?=hb[j]?:=fun j hlt hne=>hj j hlt fun i hi e=>hne (by rw [hi,e])
 refine hk h' (by omega) hj' ⟨by simp [p.len],by rw [List.length_append,← p.num]; rfl,Vec.mk1 ?_,fun i hi=>by cases hi; omega,fun k z hz=>?_,?_⟩
 ·rw [hi,Zmv]; rfl
 ·by_cases hkl:k < xs.length
  ·rw [List.getElem?_append_left hkl] at hz
   obtain ⟨h1,h2,h3,r,h4,h5⟩:=p.el k z hz
   have:=Own.lt h5
   refine ⟨h1,h2,fun e=>by simp at e; omega,r,by rw [List.getElem?_append_left (by rw [← p.len]; exact hkl)]; exact h4,?_⟩
   rw [hj' _ this h3]; exact h5
  ·have hke:k=xs.length:=by
    have:=(List.getElem?_eq_some_iff.1 hz).1
    simp at this; omega
   subst hke
   simp at hz
   subst hz
   have:=Own.lt ho
   exact ⟨hq,hcq,fun e=>by simp at e; omega,(x,y),by rw [p.len]; simp,by rw [hj' _ this hqa]; exact ho⟩
 ·rw [List.map_append,List.nodup_append]
  refine ⟨p.nd,by simp,?_⟩
  intro a1 h1 b1 h2 e
  simp at h2
  subst h2; subst e
  exact hqx h1
end
theorem Zho {h h':Zaa} (s:Zaz h.length h h') {i o n:Nat} (hi:i < h.length):Zbf h' (.ptr (some (i,o))) n=Zbf h (.ptr (some (i,o))) n:=by simp only [Zbf,s.eq i hi]
theorem Zmt {h h':Zaa} (s:Zaz h.length h h') {i o:Nat} (hi:i < h.length):Zad h' (.ptr (some (i,o)))=Zad h (.ptr (some (i,o))):=by simp only [Zad,s.eq i hi]
def OvQ (w:Wd) (h:Zaa) (v:Zal) (h':Zaa):Prop:=Zaz h.length h h'∧∃ a n c e xs,v=.tup [.slice a n c e,.bool (Zdw w)]∧n≤c∧PV h.length h' a n c xs (if Zdw w then Ztc w else [])
theorem Zxx {h:Zaa} {a0 a1:Pt} {n0 c0 n1 c1:Nat} {e0 e1:Bool} {w:Wd} (r:Zph h a0 n0 c0 a1 n1 c1 w) (b:WB w) :
  Zae pg Ziu [.agg [.slice a0 n0 c0 e0,.slice a1 n1 c1 e1]] h (OvQ w h):=by
 have hl1:=r.len1
 apply Zcb.call
 simp only [Zaw]
 generalize hh0:h ++ [Zcj.cells Zao [.slice a0 n0 c0 e0,.slice a1 n1 c1 e1] false]=h0
 have s0:Zaz h.length h h0:=by rw [← hh0]; exact Zaq
 have w0:h0[h.length]?=some (Zsq a0 n0 c0 e0 a1 n1 c1 e1):=by rw [← hh0]; simp [Zsq]
 rw [Ydp w0]
 simp only [Zas,Zai,Zar,Zag]
 refine (Zyh (r.same s0) b).mono ?_
 rintro v h2 ⟨rfl,s2⟩
 have w2:=s2.get w0 (Own.lt w0)
 have S2:=s0.cat s2
 simp only [Zah]
 refine Zbx (fun b1=>⟨S2,none,0,0,true,[],by rw [b1],Nat.le_refl _,by rw [b1]; exact ⟨rfl,rfl,Vec.mk0,fun i hi=>(by cases hi),fun k x hx=>(by simp at hx),by simp⟩⟩) (fun b1=>?_)
 generalize hh3:h2 ++ [Zcj.cells Zet [] false]=h3
 have s3:Zaz h2.length h2 h3:=by rw [← hh3]; exact Zaq
 have o3:h3[h2.length]?=some (.cells Zet [] false):=by rw [← hh3]; simp
 have w3:=s3.get w2 (Own.lt w2)
 have S3:=S2.cat s3
 have hl10:=Zql b1
 have hl2:=S2.le
 simp only [Zht w3,Nat.zero_add,List.getElem?_cons_succ,List.getElem?_cons_zero,Zag]
 have wlt:=Own.lt w0
 have l0:h0.length=h.length + 1:=by rw [← hh0]; simp
 have l02:=s2.le
 have l3:h3.length=h2.length + 1:=by rw [← hh3]; simp
 have bound:∀ g,g≤w.is.length→(ovW w g).length≤100:=fun g hg=>by
  have h1:=Zyi w g
  have h2:g * w.is.length≤10 * 10:=Nat.mul_le_mul (by omega) hl10
  omega
 refine Zcb.L5ind (J:=fun (g:Nat) a4 n4 c4 e4 x16 k=>x16=(g:Int)∧g≤n1∧Zaz h.length h k∧k[h.length]?=some (Zsq a0 n0 c0 e0 a1 n1 c1 e1)∧n4≤c4∧∃ xs,PV (h.length + 1) k a4 n4 c4 xs (ovW w g)) (m:=fun g=>n1 - g) (hr:=?_) (g:=0)
  (hj:=⟨rfl,by omega,S3,w3,Nat.le_refl _,[],rfl,rfl,Vec.mk1 o3,fun i hi=>by cases hi; omega,fun k x hx=>(by simp at hx),by simp⟩) ..
 rintro g a4 n4 c4 e4 x16 k ⟨rfl,hg,Sk,wk,hnc,xs,pv⟩ R hR
 unfold Zcb.L5t
 refine Zan (fun hlt=>?_) (fun hge=>?_)
 ·have hgl:g < w.is.length:=by omega
  rw [Zbn (by omega)]
  refine Zcb.L8ind (J:=fun (m:Nat) a4 n4 c4 e4 x6 k=>x6=(m:Int)∧g + 1≤m∧m≤n1∧Zaz h.length h k∧k[h.length]?=some (Zsq a0 n0 c0 e0 a1 n1 c1 e1)∧n4≤c4∧∃ xs,PV (h.length + 1) k a4 n4 c4 xs (ovW w g ++ ovI w g m)) (m:=fun m=>n1 - m) (hr:=?_) (g:=g + 1)
   (hj:=⟨rfl,by omega,by omega,Sk,wk,hnc,xs,by rw [Yah,List.append_nil]; exact pv⟩) ..
  clear hnc pv xs wk Sk k a4 n4 c4 e4
  rintro m a4 n4 c4 e4 x6 k ⟨rfl,hm0,hm1,Sk,wk,hnc,xs,pv⟩ R' hR'
  unfold Zcb.L8t
  rw [Zht wk]
  simp only [Nat.zero_add,List.getElem?_cons_succ,List.getElem?_cons_zero,Zag]
  refine Zan (fun hlt2=>?_) (fun hge2=>?_)
  ·have hml:m < w.is.length:=by omega
   have rk:=r.same Sk
   obtain ⟨i,o,aa,na,ca,ea,hai,hil,hra,_,_,_,_⟩:=Zlf rk hgl
   obtain ⟨i',o',ab,nb,cb,eb,hbi,hil',hrb,_,_,_,_⟩:=Zlf rk hml
   rw [hai] at hbi
   cases hbi
   subst hai
   have hov:=Yec w g m
   have hob:=Ymt hgl hml
   have bd:=bound g (by omega)
   have bd2:=Ybq w g m
   have hpn:=pv.num
   rw [List.length_append] at hpn
   -- from the two rows on
   have tail:∀ kz p1 p2,Zaz k.length k kz→kz[p1]?=some (.cells Zac [.str w.is[g].1.1,.str w.is[g].1.2,.slice aa na ca ea] false)→kz[p2]?=some (.cells Zac [.str w.is[m].1.1,.str w.is[m].1.2,.slice ab nb cb eb] false) →
     Zbs (Zad kz (.ptr (some (p1,0)))) fun s_68=>Zbs (Zad kz (.ptr (some (p2,0)))) fun s_69=>bcase (decide (s_68=s_69)) (Zbs (Zad kz (.ptr (some (p1,1)))) fun s_70=>Zbs (Zad kz (.ptr (some (p2,1)))) fun s_71=>Zae pg Zgg [.str s_70,.str s_71] kz fun v_72 h_73=>
      Zbp (some v_72) fun b_74=>bcase (!b_74) (Zdp pg Zky (h_73 ++ [Zcj.cells Zna [.int .i64 (g:Int),.int .i64 (m:Int)] false] ++ [Zcj.cells Zet [.slice (some (List.length h_73,0)) 2 2 true] false]) (.slice a4 n4 c4 e4) (.slice (some (List.length (h_73 ++ [Zcj.cells Zna [.int .i64 (g:Int),.int .i64 (m:Int)] false]),0)) 1 1 true) fun v_77 h_78=>xSl (some v_77) fun a_79 n_80 c_81 e_82=>Zcb.J9 (OvQ w h) R R' (m:Int) h.length 0 (g:Int) a_79 n_80 c_81 e_82 (g:Int) (n1:Int) h_78) (Zcb.J9 (OvQ w h) R R' (m:Int) h.length 0 (g:Int) a4 n4 c4 e4 (g:Int) (n1:Int) h_73)) (Zcb.J9 (OvQ w h) R R' (m:Int) h.length 0 (g:Int) a4 n4 c4 e4 (g:Int) (n1:Int) kz):=by
    intro kz p1 p2 sz q1 q2
    have skip:∀ k2,Zaz k.length k k2→ovP w.is[g] w.is[m]=false→Zcb.J9 (OvQ w h) R R' (m:Int) h.length 0 (g:Int) a4 n4 c4 e4 (g:Int) (n1:Int) k2:=by
     intro k2 s2 hno
     apply Zcb.J9i
     rw [Zbn (by omega)]
     refine hR' (m + 1) _ _ _ _ _ _ (by omega) ⟨rfl,by omega,by omega,Sk.cat s2,s2.get wk (Own.lt wk),hnc,xs,?_⟩
     rw [hov,if_neg (by rw [hob,hno]; simp),List.append_nil]
     exact pv.same s2
    simp only [Zak q1,Zak q2,List.getElem?_cons_zero,List.getElem?_cons_succ,Zap]
    refine Zan (fun hc=>?_) (fun hc=>skip _ sz (by unfold ovP; simp [hc]))
    refine (Ycy _ _ kz).mono ?_
    rintro v k2 ⟨rfl,s2⟩
    simp only [Zah]
    have S2:=sz.cat s2
    refine Zds (fun hap=>?_) (fun hap=>skip _ S2 (by unfold ovP; rw [hap]; simp))
    generalize hk3:k2 ++ [Zcj.cells Zna [.int .i64 (g:Int),.int .i64 (m:Int)] false]=k3
    have s3:Zaz k2.length k2 k3:=by rw [← hk3]; exact Zaq
    have o3:k3[k2.length]?=some (.cells Zna [.int .i64 (g:Int),.int .i64 (m:Int)] false):=by rw [← hk3]; simp
    have S3:=S2.cat s3
    have le3:=S3.le
    have leS:=Sk.le
    have le2:=S2.le
    have wl:=Own.lt wk
    have pv3:=pv.same S3
    refine pv3.push (x:=g) (y:=m) (by omega) (by omega) (by omega) (Nat.le_refl _) (fun e=>?_) (fun hm=>?_) o3 (fun k4 hl4 hj4 pv4=>?_)
    ·have:=pv.alt e; omega
    ·have:=pv.in hm; omega
    ·simp only [Zag]
     apply Zcb.J9i
     rw [Zbn (by omega)]
     refine hR' (m + 1) _ _ _ _ _ _ (by omega) ⟨rfl,by omega,by omega,⟨by omega,fun j hj=>?_⟩,?_,Nat.le_refl _,xs ++ [(k2.length,2,true)],?_⟩
     ·rw [hj4 j (by omega) (fun e=>by have:=pv.low j e; omega),S3.eq j (by omega)]; exact Sk.eq j hj
     ·rw [hj4 _ (by omega) (fun e=>by have:=pv.low _ e; omega),S3.eq _ (by omega)]; exact wk
     ·have hyes:g < m∧ovB w g m=true:=⟨by omega,by rw [hob]; unfold ovP; rw [hap]; simp [hc]⟩
      rw [hov,if_pos hyes,← List.append_assoc]
      exact pv4
   simp only [Zht wk,List.getElem?_cons_succ,List.getElem?_cons_zero,Zag,Zat,Int.toNat_natCast,hra,hrb,Zas,Zai,Zar,Zap,Zaw]
   refine ⟨by omega,by omega,?_⟩
   refine ⟨?_,?_⟩
   ·generalize hk1:k ++ [Zcj.cells Zac [.str [],.str [],.slice none 0 0 true] false]=k1
    generalize hk2:k1 ++ [Zcj.cells Zac [.str [],.str [],.slice none 0 0 true] false]=k2
    have s1:Zaz k.length k k1:=by rw [← hk1]; exact Zaq
    have s2:Zaz k1.length k1 k2:=by rw [← hk2]; exact Zaq
    have l1:k1.length=k.length + 1:=by rw [← hk1]; simp
    have z1:k1[k.length]?=some (.cells Zac [.str [],.str [],.slice none 0 0 true] false):=by rw [← hk1]; simp
    have zA:=s2.get z1 (Own.lt z1)
    have zB:k2[k1.length]?=some (.cells Zac [.str [],.str [],.slice none 0 0 true] false):=by rw [← hk2]; simp
    have S2:=s1.cat s2
    have w1:=s1.get wk (Own.lt wk)
    have w2':=S2.get wk (Own.lt wk)
    rw [Zbl zA (by simp)]
    simp only [Zau,putRow,List.take_zero,List.length_cons,List.length_nil,List.drop_succ_cons,List.drop_zero,List.drop_nil,List.cons_append,List.nil_append,List.append_nil,Nat.zero_add]
    have yA:=Zck zA (x:=.cells Zac [.str w.is[g].1.1,.str w.is[g].1.2,.slice aa na ca ea] false)
    have yB:(k2.set k.length (.cells Zac [.str w.is[g].1.1,.str w.is[g].1.2,.slice aa na ca ea] false))[k1.length]?=some (.cells Zac [.str [],.str [],.slice none 0 0 true] false):=by rw [Zbw (by omega)]; exact zB
    have S3:=S2.set' (i:=k.length) (x:=.cells Zac [.str w.is[g].1.1,.str w.is[g].1.2,.slice aa na ca ea] false) (by omega)
    generalize k2.set k.length (.cells Zac [.str w.is[g].1.1,.str w.is[g].1.2,.slice aa na ca ea] false)=k3 at yA yB S3 ⊢
    rw [Zbl yB (by simp)]
    simp only [Zau,putRow,List.take_zero,List.length_cons,List.length_nil,List.drop_succ_cons,List.drop_zero,List.drop_nil,List.cons_append,List.nil_append,List.append_nil,Nat.zero_add]
    have S4:=S3.set' (i:=k1.length) (x:=.cells Zac [.str w.is[m].1.1,.str w.is[m].1.2,.slice ab nb cb eb] false) (by omega)
    have uA:(k3.set k1.length (.cells Zac [.str w.is[m].1.1,.str w.is[m].1.2,.slice ab nb cb eb] false))[k.length]?=some (.cells Zac [.str w.is[g].1.1,.str w.is[g].1.2,.slice aa na ca ea] false):=by rw [Zbw (by omega)]; exact yA
    have uB:=Zck yB (x:=.cells Zac [.str w.is[m].1.1,.str w.is[m].1.2,.slice ab nb cb eb] false)
    have T:=tail _ k.length k1.length S4 uA uB
    have w3':=S3.get wk (Own.lt wk)
    have e1:∀ o n,Zbf k1 (.ptr (some (i,o))) n=Zbf k (.ptr (some (i,o))) n:=fun o n=>Zho s1 hil
    have e2:∀ o n,Zbf k2 (.ptr (some (i,o))) n=Zbf k (.ptr (some (i,o))) n:=fun o n=>Zho S2 hil
    have e3:∀ o n,Zbf k3 (.ptr (some (i,o))) n=Zbf k (.ptr (some (i,o))) n:=fun o n=>Zho S3 hil
    simp only [e1,e2,e3,hra,hrb,Zht wk,Zht w1,Zht w2',Zht w3',List.getElem?_cons_succ,List.getElem?_cons_zero,true_and]
    exact T
   ·generalize hk1:k ++ [Zcj.cells Zac [.str [],.str [],.slice none 0 0 true] false]=k1
    generalize hk2:k1 ++ [Zcj.cells Zac [.str [],.str [],.slice none 0 0 true] false]=k2
    have s1:Zaz k.length k k1:=by rw [← hk1]; exact Zaq
    have s2:Zaz k1.length k1 k2:=by rw [← hk2]; exact Zaq
    have l1:k1.length=k.length + 1:=by rw [← hk1]; simp
    have z1:k1[k.length]?=some (.cells Zac [.str [],.str [],.slice none 0 0 true] false):=by rw [← hk1]; simp
    have zA:=s2.get z1 (Own.lt z1)
    have zB:k2[k1.length]?=some (.cells Zac [.str [],.str [],.slice none 0 0 true] false):=by rw [← hk2]; simp
    have S2:=s1.cat s2
    have w1:=s1.get wk (Own.lt wk)
    have w2':=S2.get wk (Own.lt wk)
    rw [Zbl zB (by simp)]
    simp only [Zau,putRow,List.take_zero,List.length_cons,List.length_nil,List.drop_succ_cons,List.drop_zero,List.drop_nil,List.cons_append,List.nil_append,List.append_nil,Nat.zero_add]
    have yA:=Zck zB (x:=.cells Zac [.str w.is[g].1.1,.str w.is[g].1.2,.slice aa na ca ea] false)
    have yB:(k2.set k1.length (.cells Zac [.str w.is[g].1.1,.str w.is[g].1.2,.slice aa na ca ea] false))[k.length]?=some (.cells Zac [.str [],.str [],.slice none 0 0 true] false):=by rw [Zbw (by omega)]; exact zA
    have S3:=S2.set' (i:=k1.length) (x:=.cells Zac [.str w.is[g].1.1,.str w.is[g].1.2,.slice aa na ca ea] false) (by omega)
    generalize k2.set k1.length (.cells Zac [.str w.is[g].1.1,.str w.is[g].1.2,.slice aa na ca ea] false)=k3 at yA yB S3 ⊢
    rw [Zbl yB (by simp)]
    simp only [Zau,putRow,List.take_zero,List.length_cons,List.length_nil,List.drop_succ_cons,List.drop_zero,List.drop_nil,List.cons_append,List.nil_append,List.append_nil,Nat.zero_add]
    have S4:=S3.set' (i:=k.length) (x:=.cells Zac [.str w.is[m].1.1,.str w.is[m].1.2,.slice ab nb cb eb] false) (by omega)
    have uA:(k3.set k.length (.cells Zac [.str w.is[m].1.1,.str w.is[m].1.2,.slice ab nb cb eb] false))[k1.length]?=some (.cells Zac [.str w.is[g].1.1,.str w.is[g].1.2,.slice aa na ca ea] false):=by rw [Zbw (by omega)]; exact yA
    have uB:=Zck yB (x:=.cells Zac [.str w.is[m].1.1,.str w.is[m].1.2,.slice ab nb cb eb] false)
    have T:=tail _ k1.length k.length S4 uA uB
    have w3':=S3.get wk (Own.lt wk)
    have e1:∀ o n,Zbf k1 (.ptr (some (i,o))) n=Zbf k (.ptr (some (i,o))) n:=fun o n=>Zho s1 hil
    have e2:∀ o n,Zbf k2 (.ptr (some (i,o))) n=Zbf k (.ptr (some (i,o))) n:=fun o n=>Zho S2 hil
    have e3:∀ o n,Zbf k3 (.ptr (some (i,o))) n=Zbf k (.ptr (some (i,o))) n:=fun o n=>Zho S3 hil
    simp only [e1,e2,e3,hra,hrb,Zht wk,Zht w1,Zht w2',Zht w3',List.getElem?_cons_succ,List.getElem?_cons_zero,true_and]
    exact T
  ·apply Zcb.A8x2i
   have:m=n1:=by omega
   subst this
   rw [Zbn (by omega)]
   refine hR (g + 1) _ _ _ _ _ _ (by omega) ⟨rfl,by omega,Sk,wk,hnc,xs,?_⟩
   rw [Zyc,hl1]; exact pv
 ·apply Zcb.A5x0i
  have:g=n1:=by omega
  subst this
  refine ⟨Sk,a4,n4,c4,e4,xs,by rw [b1],hnc,?_⟩
  rw [b1,if_pos rfl]
  unfold Ztc
  rw [hl1]
  exact ⟨pv.len,pv.num,pv.vec,fun i hi=>by have:=pv.low i hi; omega,fun k x hx=>by obtain ⟨h1,h2⟩:=pv.el k x hx; exact ⟨by omega,h2⟩,pv.nd⟩
theorem Ylz {h:Zaa} {x y:Ins} {a a':Pt} {n c n' c':Nat} {e e':Bool} (hx:x.1.2.length≤1048576) (hy:y.1.2.length≤1048576) :
  Zae pg Zlt [.agg [.str x.1.1,.str x.1.2,.slice a n c e],.agg [.str y.1.1,.str y.1.2,.slice a' n' c' e']] h fun v h'=>v=.bool (ovP x y)∧Zaz h.length h h':=by
 apply Zpo.call
 simp only [Zaw]
 generalize hk1:h ++ [Zcj.cells Zac [.str x.1.1,.str x.1.2,.slice a n c e] false]=k1
 generalize hk2:k1 ++ [Zcj.cells Zac [.str y.1.1,.str y.1.2,.slice a' n' c' e'] false]=k2
 have s1:Zaz h.length h k1:=by rw [← hk1]; exact Zaq
 have s2:Zaz k1.length k1 k2:=by rw [← hk2]; exact Zaq
 have z1:k1[h.length]?=some (.cells Zac [.str x.1.1,.str x.1.2,.slice a n c e] false):=by rw [← hk1]; simp
 have zA:=s2.get z1 (Own.lt z1)
 have zB:k2[k1.length]?=some (.cells Zac [.str y.1.1,.str y.1.2,.slice a' n' c' e'] false):=by rw [← hk2]; simp
 have S2:=s1.cat s2
 simp only [Zak zA,Zak zB,Nat.zero_add,List.getElem?_cons_zero,List.getElem?_cons_succ,Zap]
 refine Zan (fun hc=>?_) (fun hc=>⟨by unfold ovP; simp [hc],S2⟩)
 refine (Zza _ _ hx hy k2).mono ?_
 rintro v k3 ⟨rfl,s3⟩
 simp only [Zah]
 exact ⟨by unfold ovP; simp [hc],S2.cat s3⟩
def OvP (w:Wd) (h:Zaa) (v:Zal) (h':Zaa):Prop:=Zaz h.length h h'∧∃ a n c e xs,v=.slice a n c e∧n≤c∧PV h.length h' a n c xs (Ztc w)
theorem Zxv {h:Zaa} {a0 a1:Pt} {n0 c0 n1 c1:Nat} {e0 e1:Bool} {w:Wd} (r:Zph h a0 n0 c0 a1 n1 c1 w) (b:WB w) (b1:Zdw w=true) :
  Zae pg Ziy [.agg [.slice a0 n0 c0 e0,.slice a1 n1 c1 e1]] h (OvP w h):=by
 have hl1:=r.len1
 apply Zcu.call
 simp only [Zaw]
 generalize hh0:h ++ [Zcj.cells Zao [.slice a0 n0 c0 e0,.slice a1 n1 c1 e1] false]=h0
 have s0:Zaz h.length h h0:=by rw [← hh0]; exact Zaq
 have w0:h0[h.length]?=some (Zsq a0 n0 c0 e0 a1 n1 c1 e1):=by rw [← hh0]; simp [Zsq]
 generalize hh3:h0 ++ [Zcj.cells Zet [] false]=h3
 have s3:Zaz h0.length h0 h3:=by rw [← hh3]; exact Zaq
 have o3:h3[h0.length]?=some (.cells Zet [] false):=by rw [← hh3]; simp
 have w3:=s3.get w0 (Own.lt w0)
 have S3:=s0.cat s3
 have hl10:=Zql b1
 simp only [Zht w3,Nat.zero_add,List.getElem?_cons_succ,List.getElem?_cons_zero,Zag]
 have wlt:=Own.lt w0
 have l0:h0.length=h.length + 1:=by rw [← hh0]; simp
 have l3:h3.length=h0.length + 1:=by rw [← hh3]; simp
 have bound:∀ g,g≤w.is.length→(ovW w g).length≤100:=fun g hg=>by
  have h1:=Zyi w g
  have h2:g * w.is.length≤10 * 10:=Nat.mul_le_mul (by omega) hl10
  omega
 refine Zcu.L3ind (J:=fun (g:Nat) a4 n4 c4 e4 x16 k=>x16=(g:Int)∧g≤n1∧Zaz h.length h k∧k[h.length]?=some (Zsq a0 n0 c0 e0 a1 n1 c1 e1)∧n4≤c4∧∃ xs,PV (h.length + 1) k a4 n4 c4 xs (ovW w g)) (m:=fun g=>n1 - g) (hr:=?_) (g:=0)
  (hj:=⟨rfl,by omega,S3,w3,Nat.le_refl _,[],rfl,rfl,Vec.mk1 o3,fun i hi=>by cases hi; omega,fun k x hx=>(by simp at hx),by simp⟩) ..
 rintro g a4 n4 c4 e4 x16 k ⟨rfl,hg,Sk,wk,hnc,xs,pv⟩ R hR
 unfold Zcu.L3t
 refine Zan (fun hlt=>?_) (fun hge=>?_)
 ·have hgl:g < w.is.length:=by omega
  obtain ⟨i,o,aa,na,ca,ea,hai,hil,hra,_,_,_,_⟩:=Zlf (r.same Sk) hgl
  subst hai
  simp only [Zat,Int.toNat_natCast,hra,Zas,Zai,Zar,Zap,Zag,Zaw]
  rw [Ymw]
  simp only [Zau]
  refine ⟨by omega,?_⟩
  generalize hkq:k ++ [Zcj.cells Zac [.str w.is[g].1.1,.str w.is[g].1.2,.slice aa na ca ea] false]=kq
  have sq:Zaz k.length k kq:=by rw [← hkq]; exact Zaq
  have oq:kq[k.length]?=some (.cells Zac [.str w.is[g].1.1,.str w.is[g].1.2,.slice aa na ca ea] false):=by rw [← hkq]; simp
  have Sq:=Sk.cat sq
  have lSk:=Sk.le
  have lq:kq.length=k.length + 1:=by rw [← hkq]; simp
  have pvq:=pv.same sq
  have plo:=pv.alt (i:=0)
  rw [Zbn (by omega)]
  have hpa:a4≠some (k.length,0):=fun e=>by have:=pv.alt e; omega
  refine Zcu.L6ind (J:=fun (m:Nat) a4 n4 c4 e4 x6 k'=>x6=(m:Int)∧g + 1≤m∧m≤n1∧Zaz h.length h k'∧k'[h.length]?=some (Zsq a0 n0 c0 e0 (some (i,o)) n1 c1 e1)∧k'[k.length]?=some (.cells Zac [.str w.is[g].1.1,.str w.is[g].1.2,.slice aa na ca ea] false)∧a4≠some (k.length,0)∧n4≤c4∧∃ xs,PV (h.length + 1) k' a4 n4 c4 xs (ovW w g ++ ovI w g m)) (m:=fun m=>n1 - m) (hr:=?_) (g:=g + 1)
   (hj:=⟨rfl,by omega,by omega,Sq,sq.get wk (Own.lt wk),oq,hpa,hnc,xs,by rw [Yah,List.append_nil]; exact pvq⟩) ..
  clear hpa plo pvq hnc pv xs a4 n4 c4 e4
  rintro m a4 n4 c4 e4 x6 k' ⟨rfl,hm0,hm1,Sk',wk',ok',hpa,hnc,xs,pv⟩ R' hR'
  unfold Zcu.L6t
  rw [Zht wk']
  simp only [Nat.zero_add,List.getElem?_cons_succ,List.getElem?_cons_zero,Zag]
  refine Zan (fun hlt2=>?_) (fun hge2=>?_)
  ·have hml:m < w.is.length:=by omega
   obtain ⟨i',o',ab,nb,cb,eb,hbi,hil',hrb,_,_,_,_⟩:=Zlf (r.same Sk') hml
   cases hbi
   have hov:=Yec w g m
   have hob:=Ymt hgl hml
   have bd:=bound g (by omega)
   have bd2:=Ybq w g m
   have hpn:=pv.num
   rw [List.length_append] at hpn
   rw [Zie ok']
   simp only [Zht wk',List.getElem?_cons_succ,List.getElem?_cons_zero,Zag,Zat,Int.toNat_natCast,hrb,Zas,Zai,Zar,Zap,Zaw,true_and]
   refine ⟨by omega,?_⟩
   have skip:∀ k2,Zaz k'.length k' k2→ovP w.is[g] w.is[m]=false→Zcu.J7 (OvP w h) R R' (m:Int) h.length 0 k.length 0 a4 n4 c4 e4 (g:Int) (g:Int) (n1:Int) (some (i,o)) n1 c1 e1 k2:=by
    intro k2 s2 hno
    apply Zcu.J7i
    rw [Zbn (by omega)]
    refine hR' (m + 1) _ _ _ _ _ _ (by omega) ⟨rfl,by omega,by omega,Sk'.cat s2,s2.get wk' (Own.lt wk'),s2.get ok' (Own.lt ok'),hpa,hnc,xs,?_⟩
    rw [hov,if_neg (by rw [hob,hno]; simp),List.append_nil]
    exact pv.same s2
   refine (Ylz (b.is _ (List.getElem_mem hgl)).2.1 (b.is _ (List.getElem_mem hml)).2.1).mono ?_
   rintro v k2 ⟨rfl,s2⟩
   simp only [Zah]
   refine Zds (fun hap=>?_) (fun hap=>skip _ s2 hap)
   generalize hk3:k2 ++ [Zcj.cells Zna [.int .i64 (g:Int),.int .i64 (m:Int)] false]=k3
   have s3:Zaz k2.length k2 k3:=by rw [← hk3]; exact Zaq
   have o3:k3[k2.length]?=some (.cells Zna [.int .i64 (g:Int),.int .i64 (m:Int)] false):=by rw [← hk3]; simp
   have S3:=s2.cat s3
   have le3:=S3.le
   have leS:=Sk'.le
   have le2:=s2.le
   have wl:=Own.lt wk'
   have okl:=Own.lt ok'
   have pv3:=pv.same S3
   refine pv3.push (x:=g) (y:=m) (by omega) (by omega) (by omega) (Nat.le_refl _) (fun e=>?_) (fun hm=>?_) o3 (fun k4 hl4 hj4 pv4=>?_)
   ·have:=pv.alt e; omega
   ·have:=pv.in hm; omega
   ·simp only [Zag]
    apply Zcu.J7i
    rw [Zbn (by omega)]
    refine hR' (m + 1) _ _ _ _ _ _ (by omega) ⟨rfl,by omega,by omega,⟨by omega,fun j hj=>?_⟩,?_,?_,fun e=>by simp at e; omega,Nat.le_refl _,xs ++ [(k2.length,2,true)],?_⟩
    ·rw [hj4 j (by omega) (fun e=>by have:=pv.low j e; omega),S3.eq j (by omega)]; exact Sk'.eq j hj
    ·rw [hj4 _ (by omega) (fun e=>by have:=pv.low _ e; omega),S3.eq _ (by omega)]; exact wk'
    ·rw [hj4 _ (by omega) hpa,S3.eq _ (by omega)]; exact ok'
    ·have hyes:g < m∧ovB w g m=true:=⟨by omega,by rw [hob]; exact hap⟩
     rw [hov,if_pos hyes,← List.append_assoc]
     exact pv4
  ·apply Zcu.A6x2i
   have:m=n1:=by omega
   subst this
   rw [Zbn (by omega)]
   refine hR (g + 1) _ _ _ _ _ _ (by omega) ⟨rfl,by omega,Sk',wk',hnc,xs,?_⟩
   rw [Zyc,hl1]; exact pv
 ·apply Zcu.A3x0i
  have:g=n1:=by omega
  subst this
  refine ⟨Sk,a4,n4,c4,e4,xs,rfl,hnc,?_⟩
  unfold Ztc
  rw [hl1]
  exact ⟨pv.len,pv.num,pv.vec,fun i hi=>by have:=pv.low i hi; omega,fun k x hx=>by obtain ⟨h1,h2⟩:=pv.el k x hx; exact ⟨by omega,h2⟩,pv.nd⟩
end Go.Sim

set_option linter.unusedVariables false
set_option linter.unusedSimpArgs false
set_option maxRecDepth 20000
namespace Go.Sim
open Go Go.RowKit

end Go.Sim

set_option linter.unusedVariables false
set_option linter.unusedSimpArgs false
set_option maxRecDepth 20000
namespace Go.Sim
open Go Go.RowKit
theorem Zdk.off {α:Type} {ty:TypeId} {enc:α→List Zal} {b:Nat} {h h':Zaa} {a:Pt} {n:Nat} {l:List α} (f:Zdk ty enc b h a n l) (hk:∀ i,a=some (i,0)→n≠0→i < h.length→h'[i]?=h[i]?):Zdk ty enc b h' a n l:=by
 obtain ⟨hl,h0 | ⟨i,ha,hb,hi⟩⟩:=f
 ·exact ⟨hl,.inl h0⟩
 ·by_cases hn:n=0
  ·exact ⟨hl,.inl hn⟩
  ·exact ⟨hl,.inr ⟨i,ha,hb,by rw [hk i ha hn (Own.lt hi)]; exact hi⟩⟩
structure Ysh (H:Nat) (a0:Pt) (n0:Nat) (a1:Pt) (n1:Nat) (ys:List EI):Prop where
 cls:∀ i,a0=some (i,0)→n0≠0→i < H
 ins:∀ i,a1=some (i,0)→n1≠0→i < H
 need:∀ (q:Nat) (x:EI),ys[q]?=some x→∀ j,x.a=some (j,0)→x.n≠0→j < H
theorem Zqx.bel {b:Nat} {h:Zaa} {a0 a1:Pt} {n0 n1:Nat} {ys:List EI} {w:Wd} (f:Zqx b h a0 n0 a1 n1 ys w):Ysh h.length a0 n0 a1 n1 ys:=
 ⟨fun i hi hn=>(f.cls.in i hi hn).2,fun i hi hn=>(f.ins.in i hi hn).2,fun q x hx j hj hn=>by
  have hq:=(List.getElem?_eq_some_iff.1 hx).1
  exact ((f.need q x (w.is[q]'(by have:=f.len; omega)) hx (List.getElem?_eq_getElem _)).2.2.in j hj hn).2⟩
end Go.Sim

set_option linter.unusedVariables false
namespace Go.Sim
open Go Go.RowKit
end Go.Sim

set_option linter.unusedVariables false
set_option linter.unusedSimpArgs false
set_option maxRecDepth 20000
namespace Go.Sim
open Go Go.RowKit
section
variable {lo n c:Nat} {h h':Zaa} {a:Pt} {xs:List (Nat × Nat × Bool)} {l:List (Nat × Nat)}
theorem PV.get (p:PV lo h a n c xs l) {k:Nat} (hk:k < n):∃ (i q cq:Nat) (eq:Bool) (x:Nat × Nat),a=some (i,0)∧Zad h (.ptr (some (i,0 + k * 1)))=some (.slice (some (q,0)) 2 cq eq)∧xs[k]?=some (q,cq,eq)∧l[k]?=some x∧lo≤q∧2≤cq∧a≠some (q,0) ∧
  h[q]?=some (.cells Zna [.int .i64 (x.1:Int),.int .i64 (x.2:Int)] false):=by
 have hx:k < xs.length:=by rw [p.len,← p.num]; exact hk
 obtain ⟨x1,x2,x3,hxe⟩:∃ x1 x2 x3,xs[k]=(x1,x2,x3):=⟨_,_,_,rfl⟩
 have hxk:xs[k]?=some (x1,x2,x3):=by rw [List.getElem?_eq_getElem hx,hxe]
 obtain ⟨h1,h2,h3,x,h4,h5⟩:=p.el k _ hxk
 rcases p.vec with ⟨_,h0,_,_⟩ | ⟨i,ha,hi⟩
 ·omega
 ·have r:=p.vec.row (m:=n) (by rw [Zbm Ycd,p.len,p.num]; omega)
  obtain ⟨i',o,hk',ha',_,hc⟩:=Row.el1 Ycd r hk
  rw [ha] at ha'
  simp only [Option.some.injEq,Prod.mk.injEq] at ha'
  obtain ⟨rfl,rfl⟩:=ha'
  exact ⟨i,x1,x2,x3,x,ha,by rw [hc,hxe]; rfl,hxk,h4,h1,h2,h3,h5⟩
theorem Ybs {e:Bool} (p:PV lo h a n c xs l) (hn:n≤1000) :
  Zae pg Zfh [.slice a n c e] h fun v h'=>Zaz h.length h h'∧∃ a' c' e' xs',v=.slice a' n c' e'∧n≤c'∧PV h.length h' a' n c' xs' l:=by
 have hnum:=p.num
 apply Zdn.call
 simp only [Zaw]
 generalize hh0:h ++ [Zcj.cells Zet [] false]=h0
 have s0:Zaz h.length h h0:=by rw [← hh0]; exact Zaq
 have o0:h0[h.length]?=some (.cells Zet [] false):=by rw [← hh0]; simp
 refine Zdn.L3ind (J:=fun (g:Nat) a3 n3 c3 e3 x9 k=>x9=(g:Int)∧g≤n∧Zaz h.length h k∧n3=g∧n3≤c3∧∃ xs',PV h.length k a3 n3 c3 xs' (l.take g)) (m:=fun g=>n - g) (hr:=?_) (g:=0)
  (hj:=⟨rfl,by omega,s0,rfl,Nat.le_refl _,[],rfl,rfl,Vec.mk1 o0,fun i hi=>by cases hi; omega,fun k x hx=>(by simp at hx),by simp⟩) ..
 rintro g a3 n3 c3 e3 x9 k ⟨rfl,hg,Sk,rfl,hnc,xs',pk⟩ R hR
 unfold Zdn.L3t
 refine Zan (fun hlt=>?_) (fun hge=>?_)
 ·obtain ⟨i,q,cq,eq,x,rfl,hc,hxk,hl1,hlo,_,hne,ho⟩:=(p.same Sk).get (k:=n3) (by omega)
  simp only [Zat,Int.toNat_natCast,hc,Zag,Zaw]
  refine ⟨by omega,?_⟩
  generalize hk1:k ++ [Zcj.cells Zna [] false]=k1
  have s1:Zaz k.length k k1:=by rw [← hk1]; exact Zaq
  have o1:k1[k.length]?=some (.cells Zna [] false):=by rw [← hk1]; simp
  have l1:k1.length=k.length + 1:=by rw [← hk1]; simp
  have hq1:=s1.get ho (Own.lt ho)
  have lk:=Sk.le
  refine (Vec.mk1 o1 (n:=0) (c:=0)).app (sz:=1) (new:=[.int .i64 (x.1:Int),.int .i64 (x.2:Int)]) Yog Yrf Yrn Yrs rfl (by simp [rowOf,Zbf,hq1]) rfl (by omega) (by omega) (fun k2 hl2 hi2 hj2=>?_)
  simp only [Zag]
  have S2:Zaz k.length k k2:=⟨by omega,fun j hj=>by rw [hj2 j (by omega) fun i hi=>by cases hi; omega,s1.eq j hj]⟩
  have p2:=pk.same S2
  refine p2.push (x:=x.1) (y:=x.2) (by omega) (by omega) (by omega) (by omega) (fun e=>?_) (fun hm=>?_) (by simpa using hi2) (fun k3 hl3 hj3 pv3=>?_)
  ·have:=pk.alt e; omega
  ·have:=pk.in hm; omega
  ·simp only [Zag]
   rw [Zbn (by omega)]
   refine hR (n3 + 1) _ _ _ _ _ _ (by omega) ⟨rfl,by omega,⟨by omega,fun j hj=>?_⟩,rfl,Nat.le_refl _,xs' ++ [(k1.length,0 + 2,false)],?_⟩
   ·rw [hj3 j (by omega) (fun e=>by have:=pk.low j e; omega),S2.eq j (by omega)]; exact Sk.eq j hj
   ·have:l.take (n3 + 1)=l.take n3 ++ [(x.1,x.2)]:=by
     obtain ⟨b,hb⟩:=List.getElem?_eq_some_iff.1 hl1
     rw [List.take_succ_eq_append_getElem b,hb]
    rw [this]
    exact pv3
 ·apply Zdn.A3x0i
  have:n3=n:=by omega
  subst this
  rw [List.take_of_length_le (by omega)] at pk
  exact ⟨Sk,a3,c3,e3,xs',rfl,hnc,pk⟩
end
theorem Yjf {w:Wd} (b1:Zdw w=true):(Ztc w).length≤100:=by
 have hl10:=Zql b1
 have h1:=Zyi w w.is.length
 have h2:w.is.length * w.is.length≤10 * 10:=Nat.mul_le_mul hl10 hl10
 unfold Ztc; omega
theorem Yby (w:Wd):(if Zdw w then Ztc w else []).length≤100:=by
 split
 ·rename_i h; exact Yjf h
 ·simp
theorem Zvw {h:Zaa} {a0 a1:Pt} {n0 c0 n1 c1:Nat} {e0 e1:Bool} {w:Wd} (r:Zph h a0 n0 c0 a1 n1 c1 w) (b:WB w) :
  Zae pg Zix [.agg [.slice a0 n0 c0 e0,.slice a1 n1 c1 e1]] h (OvQ w h):=by
 apply Zms.call
 simp only [Zaw]
 generalize hh0:h ++ [Zcj.cells Zao [.slice a0 n0 c0 e0,.slice a1 n1 c1 e1] false]=h0
 have s0:Zaz h.length h h0:=by rw [← hh0]; exact Zaq
 have w0:h0[h.length]?=some (Zsq a0 n0 c0 e0 a1 n1 c1 e1):=by rw [← hh0]; simp [Zsq]
 rw [Ydp w0]
 simp only [Zas,Zai,Zar,Zag]
 have raw:Zae pg Zgc [.agg [.slice a0 n0 c0 e0,.slice a1 n1 c1 e1]] h0 (OvQ w h0):=by
  have r0:=r.same s0
  apply Zip.call
  simp only [Zaw]
  generalize hh2:h0 ++ [Zcj.cells Zao [.slice a0 n0 c0 e0,.slice a1 n1 c1 e1] false]=h2
  have s2:Zaz h0.length h0 h2:=by rw [← hh2]; exact Zaq
  have w2:h2[h0.length]?=some (Zsq a0 n0 c0 e0 a1 n1 c1 e1):=by rw [← hh2]; simp [Zsq]
  rw [Ydp w2]
  simp only [Zas,Zai,Zar,Zag]
  refine (Zpw (r0.same s2) b).mono ?_
  rintro v h3 ⟨rfl,s3⟩
  have S3:=s2.cat s3
  have l3:=S3.le
  simp only [Zah]
  refine Zbx (fun b1=>⟨S3.cat Zaq,_,0,0,true,[],by rw [b1],Nat.le_refl _,by rw [b1]; exact ⟨rfl,rfl,Vec.mk1 (by simp [Zeu]),fun i hi=>(by cases hi; omega),fun k x hx=>(by simp at hx),by simp⟩⟩) (fun b1=>?_)
  rw [Ydp (s3.get w2 (Own.lt w2))]
  simp only [Zas,Zai,Zar,Zag]
  refine (Zxv (r0.same S3) b b1).mono ?_
  rintro v h4 ⟨s4,a,n,c,e,xs,rfl,hnc,pv⟩
  simp only [Zag]
  refine ⟨S3.cat s4,a,n,c,e,xs,by rw [b1],hnc,?_⟩
  rw [b1,if_pos rfl]
  exact ⟨pv.len,pv.num,pv.vec,fun i hi=>by have:=pv.low i hi; omega,fun k x hx=>by obtain ⟨h1,h2⟩:=pv.el k x hx; exact ⟨by omega,h2⟩,pv.nd⟩
 refine raw.mono ?_
 rintro v h1 ⟨s1,a,n,c,e,xs,rfl,hnc,pv⟩
 simp only [Zdo,Zai,Zag,Zah,Zar]
 have hlen:=Yby w
 have hnum:=pv.num
 have S1:=s0.cat s1
 have l1:=S1.le
 refine (Ybs pv (by omega)).mono ?_
 rintro v h2 ⟨s2,a',c',e',xs',rfl,hnc',pv'⟩
 simp only [Zag]
 exact ⟨S1.cat s2,a',n,c',e',xs',rfl,hnc',pv'.len,pv'.num,pv'.vec,fun i hi=>by have:=pv'.low i hi; omega,fun k x hx=>by obtain ⟨h1,h2⟩:=pv'.el k x hx; exact ⟨by omega,h2⟩,pv'.nd⟩
end Go.Sim

set_option linter.unusedVariables false
set_option linter.unusedSimpArgs false
set_option maxRecDepth 20000
namespace Go.Sim
open Go Go.RowKit

def eB (b:Nat):List Zal:=[.int .u8 (b:Int)]
def Rdr (h:Zaa) (i p:Nat):Prop:=∃ a n c e,∃ l:List Nat,h[i]?=some (.cells Zzi [.slice a n c e,.int .i64 (p:Int)] false)∧Row i h a n (Zeu eB l)∧(∀ b∈l,b < 256)∧n≤2000
theorem Rdr.agree {h h':Zaa} {i p:Nat} (r:Rdr h i p) (hh:∀ j,j≤i→h'[j]?=h[j]?) (hl:h.length≤h'.length):Rdr h' i p:=by
 obtain ⟨a,n,c,e,l,hi,hr,hb,hn⟩:=r
 exact ⟨a,n,c,e,l,by rw [hh i (Nat.le_refl _)]; exact hi,hr.same ⟨hl,fun j hj=>hh j (by omega)⟩,hb,hn⟩
theorem Rdr.lt {h:Zaa} {i p:Nat} (r:Rdr h i p):i < h.length:=by obtain ⟨a,n,c,e,l,hi,_⟩:=r; exact Own.lt hi
theorem Rdr.same {h h':Zaa} {i p:Nat} (r:Rdr h i p) (s:Zaz h.length h h'):Rdr h' i p:=r.agree (fun j hj=>s.eq j (by have:=r.lt; omega)) s.le
theorem Rdr.app {h:Zaa} {i p:Nat} (r:Rdr h i p) (l:Zaa):Rdr (h ++ l) i p:=r.same (Zaz.app (Nat.le_refl _) _)
theorem Rdr.keep {h h':Zaa} {i p:Nat} (r:Rdr h i p) (hh:∀ j,j≤i→h'[j]?=h[j]?) (hl:h.length≤h'.length):Rdr h' i p:=r.agree hh hl
end Go.Sim

set_option linter.unusedVariables false
set_option linter.unusedSimpArgs false
set_option maxRecDepth 20000
namespace Go.Sim
open Go Go.RowKit

end Go.Sim

set_option linter.unusedVariables false
set_option linter.unusedSimpArgs false
set_option maxRecDepth 20000
namespace Go.Sim
open Go Go.RowKit

end Go.Sim

set_option linter.unusedSimpArgs false
set_option linter.unusedVariables false
namespace Go.Sim
end Go.Sim

set_option linter.unusedSimpArgs false
set_option linter.unusedVariables false
namespace Go.Sim
structure WS (m:Nat) (w:Wd):Prop where
 lc:w.cs.length≤m
 li:w.is.length≤m
 cs:∀ p∈w.cs,p.1.length≤1000∧p.2.length≤1000∧∀ b∈p.1,b < 256
 is:∀ i∈w.is,i.1.1.length≤1000∧i.1.2.length≤1000∧i.2.length≤1000∧∀ p∈i.2,p.1.length≤1000∧p.2.length≤1000
theorem WS.mono {m n:Nat} {w:Wd} (s:WS m w) (h:m≤n):WS n w:=⟨by have:=s.lc; omega,by have:=s.li; omega,s.cs,s.is⟩
end Go.Sim
