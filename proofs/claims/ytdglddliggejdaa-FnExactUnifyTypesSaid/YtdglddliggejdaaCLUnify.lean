/- A part of the proof of a statement of this seat: see the text that holds the theorem. No condition. -/
import Derived.Test.YtdglddliggejdaaPTCGr
import Derived.Test.YtdglddliggejdaaCGrT
import Derived.Test.YtdglddliggejdaaCSUn3
import Derived.Test.YtdglddliggejdaaPTCParse
import Derived.Test.YtdglddliggejdaaPUnif
set_option linter.unusedVariables false
set_option linter.unusedSimpArgs false
set_option linter.all false
set_option linter.unusedVariables false
set_option linter.unusedSimpArgs false
set_option maxRecDepth 20000
namespace Go.Sim
open Go Go.RowKit

theorem Zuv {i:Nat} {h h':Zaa} (s:Zbg h.length h h'):Zfl i h h':=⟨s.le,fun j hj _=>s.eq j hj⟩
theorem Yds {h h':Zaa} {i j:Nat} {x:Zcj} (K:Zfl i h h') (hj:h[j]?=some x) (hi:j≠i):h'[j]?=some x:=by rw [K.eq j (Own.lt hj) hi]; exact hj
def Znc:List (Nat × Nat)→Nat→Option Nat
 | [],_=>none
 | (c,x) :: r,d=>if c=d then some x else Znc r d
theorem Zuo:∀ {l:List (Nat × Nat)} {c x d:Nat},Znc (l ++ [(c,x)]) d=match Znc l d with | some y=>some y | none=>if c=d then some x else none
 | [],c,x,d=>by simp [Znc]
 | (c',x') :: l,c,x,d=>by
  simp only [List.cons_append,Znc]
  by_cases e:c'=d
  ·simp [e]
  ·simp only [if_neg e,Zuo]
theorem Zmp:∀ {l:List (Nat × Nat)} {c x:Nat},Znc l c=some x→(c,x)∈l
 | [],c,x,h=>by cases h
 | (c',x') :: l,c,x,h=>by
  simp only [Znc] at h
  by_cases e:c'=c
  ·rw [if_pos e] at h; cases h; subst e; exact List.mem_cons_self
  ·rw [if_neg e] at h; exact List.mem_cons_of_mem _ (Zmp h)
theorem Zup:∀ {l r:List (Nat × Nat)} {c x:Nat},Znc l c=some x→Znc (l ++ r) c=some x
 | [],r,c,x,h=>by cases h
 | (c',x') :: l,r,c,x,h=>by
  simp only [List.cons_append,Znc] at h ⊢
  by_cases e:c'=c
  ·rw [if_pos e] at h ⊢; exact h
  ·rw [if_neg e] at h ⊢; exact Zup h
def Yga (h:Zaa) (i:Nat) (sc:List (Nat × Nat)):Prop:=∃ es clk,h[i]?=some (.map es clk)∧es.map (·.1)=sc.map (fun p=>Zac.str [p.1])∧es.map (·.2.1)=sc.map (fun p=>Zac.ptr (some (p.2,0)))∧(es.map (·.2.2)).Nodup∧∀ e∈es,e.2.2 < clk
theorem Yga.eq {h h':Zaa} {i:Nat} {sc:List (Nat × Nat)} (r:Yga h i sc) (he:h'[i]?=h[i]?):Yga h' i sc:=by obtain ⟨es,k,h1,x⟩:=r; exact ⟨es,k,by rw [he]; exact h1,x⟩
theorem Zlc:∀ {es:List ME} {sc:List (Nat × Nat)} {v x k:Nat},es.map (·.1)=sc.map (fun p=>Zac.str [p.1])→es.map (·.2.1)=sc.map (fun p=>Zac.ptr (some (p.2,0)))→Znc sc v=some x→∃ j,Zij es [v] k=some (some (j,.ptr (some (x,0))))
 | _,[],v,x,k,_,_,h=>by cases h
 | [],p :: sc,v,x,k,h,_,_=>by simp at h
 | (ek,ev,eb) :: es,(w,u) :: sc,v,x,k,hk,hv,h=>by
  simp only [List.map_cons,List.cons.injEq] at hk hv
  obtain ⟨rfl,hk⟩:=hk
  obtain ⟨rfl,hv⟩:=hv
  simp only [Znc] at h
  by_cases e:w=v
  ·rw [if_pos e] at h
   cases h; subst e
   exact ⟨k,by simp [Zij]⟩
  ·rw [if_neg e] at h
   obtain ⟨j,h1⟩:=Zlc (k:=k + 1) hk hv h
   have:¬ [v]=[w]:=fun x=>e (by simpa using x.symm)
   exact ⟨j,by simp only [Zij,this,if_false,h1]⟩
theorem Zot:∀ {es:List ME} {sc:List (Nat × Nat)} {v k:Nat},es.map (·.1)=sc.map (fun p=>Zac.str [p.1])→Znc sc v=none→Zij es [v] k=some none
 | [],[],v,k,_,_=>rfl
 | [],p :: sc,v,k,h,_=>by simp at h
 | e :: es,[],v,k,h,_=>by simp at h
 | (ek,ev,eb) :: es,(w,u) :: sc,v,k,hk,h=>by
  simp only [List.map_cons,List.cons.injEq] at hk
  obtain ⟨rfl,hk⟩:=hk
  simp only [Znc] at h
  by_cases e:w=v
  ·rw [if_pos e] at h; cases h
  ·rw [if_neg e] at h
   have:¬ [v]=[w]:=fun x=>e (by simpa using x.symm)
   simp only [Zij,this,if_false]
   exact Zot hk h
def Zla (G:Gr) (o c:Nat) (qs:List Nat):Gr:=⟨fun n=>if n=o then c else G.hd n,fun n=>if n=o then qs else G.ps n⟩
theorem Zsf {G:Gr} {N:List Nat} {o c:Nat} {qs:List Nat} (ho:o ∉ N):GAg N G (Zla G o c qs):=fun n hn=>by
 have:n≠o:=fun e=>ho (e ▸ hn)
 simp [Zla,this]
structure ShS (h:Zaa) (mi:Nat) (G:Gr) (N:List Nat) (sc:List (Nat × Nat)) (Z:Nat→Prop):Prop where
 gh:GH h G N (fun _=>none) Z
 cl:GCl G N
 ar:∀ n∈N,arN (G.hd n)=((G.ps n).length:Int)
 map:Yga h mi sc
 sin:∀ p∈sc,p.2∈N∧G.hd p.2=p.1∧Zao p.1=true∧Znc sc p.1=some p.2
structure ShR (h:Zaa) (mi:Nat) (G:Gr) (N:List Nat) (sc:List (Nat × Nat)) (Z:Nat→Prop) (t:Ty) (q:Nat) (h':Zaa) (G':Gr) (L:List Nat) (sc':List (Nat × Nat)):Prop where
 fr:Zfl mi h h'
 st:ShS h' mi G' (N ++ L) sc' Z
 ag:GAg N G G'
 new:∀ x∈L,h.length≤x∧Sub G' q x
 var:∀ x∈L,Zao (G'.hd x)=true→(G'.hd x,x)∈sc'
 ext:∃ r,sc'=sc ++ r
 qN:q∈N ++ L
 raw:Raw G' G'.hd q t
section
variable {h h':Zaa} {mi:Nat} {G:Gr} {N:List Nat} {sc:List (Nat × Nat)} {Z Z':Nat→Prop} {lk:Nat→Option Nat}
theorem GH.re (g:GH h G N lk Z) (hl:h.length≤h'.length) (hN:∀ n∈N,h'[n]?=h[n]?) (hR:∀ j t cs ro,h[j]?=some (Zcj.cells t cs ro)→¬ Z j→j ∉ N→h'[j]?=h[j]?) (hZ:∀ j,j < h.length→¬ Z j→¬ Z' j):GH h' G N lk Z':=by
 refine ⟨fun n hn=>?_⟩
 obtain ⟨a,c,e,hi,hr,hd⟩:=g.node n hn
 refine ⟨a,c,e,by rw [hN n hn]; exact hi,hr.to hl fun j o h0 ha _=>?_,fun j o h0 ha=>?_⟩
 ·obtain ⟨t,all,ro,hj⟩:=hr.cellsAt h0 ha
  exact hR _ _ _ _ hj (hd j o h0 ha).2 (hd j o h0 ha).1
 ·obtain ⟨t,all,ro,hj⟩:=hr.cellsAt h0 ha
  exact ⟨(hd j o h0 ha).1,hZ j (Own.lt hj) (hd j o h0 ha).2⟩
theorem GH.ag {G':Gr} (g:GH h G N lk Z) (ag:GAg N G G'):GH h G' N lk Z:=⟨fun n hn=>by rw [(ag n hn).1,(ag n hn).2]; exact g.node n hn⟩
theorem GH.add {o c:Nat} {qs:List Nat} (g:GH h G N (fun _=>none) Z') (hZo:Z' o) (hZ:∀ z,Z z→Z' z) (ho:o ∉ N) {a:Pt} {cp:Nat} {e:Bool} (hi:h[o]?=some (.cells Zav [.str [c],.slice a qs.length cp e,.ptr none] false))
  (hr:Row h.length h a qs.length (qs.map fun p=>Zac.ptr (some (p,0)))) (hd:∀ j o',qs.length≠0→a=some (j,o')→j ∉ N∧j≠o∧¬ Z j):GH h (Zla G o c qs) (N ++ [o]) (fun _=>none) Z:=by
 refine ⟨fun n hn=>?_⟩
 rcases List.mem_append.1 hn with hn | hn
 ·obtain ⟨b,c',e',hb,hbr,hbd⟩:=(g.ag (Zsf (c:=c) (qs:=qs) ho)).node n hn
  refine ⟨b,c',e',hb,hbr,fun j o' h0 ha=>⟨fun hj=>?_,fun hj=>(hbd j o' h0 ha).2 (hZ _ hj)⟩⟩
  rcases List.mem_append.1 hj with hj | hj
  ·exact (hbd j o' h0 ha).1 hj
  ·rw [List.mem_singleton] at hj
   subst hj
   exact (hbd j o' h0 ha).2 hZo
 ·rw [List.mem_singleton] at hn
  subst hn
  refine ⟨a,cp,e,by simpa [Zla] using hi,by simpa [Zla] using hr,fun j o' h0 ha=>?_⟩
  have h0':qs.length≠0:=by simpa [Zla] using h0
  obtain ⟨h1,h2,h3⟩:=hd j o' h0' ha
  exact ⟨fun hj=>(List.mem_append.1 hj).elim h1 fun hj=>h2 (List.mem_singleton.1 hj),h3⟩
end
structure ShL (h0:Zaa) (mi:Nat) (G:Gr) (N:List Nat) (sc:List (Nat × Nat)) (Z:Nat→Prop) (t:Ty) (o:Nat) (h':Zaa) (G1:Gr) (L1:List Nat) (sc1:List (Nat × Nat)) (qs:List Nat) (a:Pt) (cp:Nat) (e:Bool):Prop where
 out:h'[o]?=some (.cells Zav [.str [t.hd],.slice a qs.length cp e,.ptr none] false)
 vec:Vec Zbp h' a qs.length cp (qs.map fun q=>Zac.ptr (some (q,0)))
 low:∀ j,a=some (j,0)→o < j
 raw:∀ (i q:Nat) (x:Ty),qs[i]?=some q→t.ps[i]?=some x→Raw G1 G1.hd q x
 qN:∀ q∈qs,q∈N ++ L1
 fr:Zfl mi h0 h'
 st:ShS h' mi G1 (N ++ L1) sc1 (fun z=>Z z ∨ z=o ∨ a=some (z,0))
 ag:GAg N G G1
 new:∀ x∈L1,o < x∧∃ q∈qs,Sub G1 q x
 var:∀ x∈L1,Zao (G1.hd x)=true→(G1.hd x,x)∈sc1
 ext:∃ r,sc1=sc ++ r
theorem Zyq {h:Zaa} {i j:Nat} {cs cs':List Zac} {r r':Bool} (hi:h[i]?=some (.cells Zav cs r)) (hj:h[j]?=some (.cells Zbp cs' r')):i≠j:=by
 rintro rfl; rw [hi] at hj; injection hj with hj; injection hj with hj; exact absurd hj (by decide)
theorem Vec.ptr {ty:TypeId} {h:Zaa} {a:Pt} {n c:Nat} {cs:List Zac} (x:Vec ty h a n c cs) {j o:Nat} (ha:a=some (j,o)):o=0∧h[j]?=some (.cells ty cs false):=by
 rcases x with ⟨h0,_⟩ | ⟨i,hi,hj⟩
 ·rw [ha] at h0; cases h0
 ·rw [ha] at hi; cases hi; exact ⟨rfl,hj⟩
theorem Ybn:∀ (M:Nat) {t:Ty} {S:Nat→Prop} {h:Zaa} {p:Pt} {mi:Nat} {G:Gr} {N:List Nat} {sc:List (Nat × Nat)} {Z:Nat→Prop},t.size≤M→t.ok=true→Zkd S h t p→(∀ j,S j→j≠mi)→ShS h mi G N sc Z→(∀ z,Z z→z < h.length) →
  Zad pg Zek [.ptr p,.map (some mi)] h fun v h'=>∃ q G' L sc',v=.ptr (some (q,0))∧ShR h mi G N sc Z t q h' G' L sc':=by
 intro M
 induction M with
 | zero=>intro t S h p mi G N sc Z hM; have:=Zje t; omega
 | succ M ih=>
 intro t S h p mi G N sc Z hM hok hrep hS st hZ
 obtain ⟨i,a,c0,e0,qa,rfl,si,hi,row,hSa,hqal,hqa⟩:=hrep.parts
 obtain ⟨es,clk,hm,hk,hv,hb,hlt⟩:=id st.map
 have hml:=Own.lt hm
 apply Zck.call
 simp only [Zaq,Zag hi,Nat.zero_add,List.getElem?_cons_zero,Zba]
 refine (Zmx [t.hd]).mono ?_
 rintro v h1 ⟨rfl,rfl⟩
 simp only [Zaf,Zln,Zag hi,List.getElem?_cons_zero,Zba,Zaq]
 refine Zex (fun hvar=>?_) (fun hvar=>?_)
 ·-- a variable
  have hps:t.ps=[]:=List.eq_nil_of_length_eq_zero (by have:=Ty.ok_ar hok; rw [Znp hvar] at this; omega)
  have htk:t=.k t.hd:=Ygd (by rw [hps]; rfl)
  simp only [Zbl,hm,Zlm]
  cases hg:Znc sc t.hd with
  | some x=>
   obtain ⟨j,hf⟩:=Zlc (k:=0) hk hv hg
   rw [hf]
   simp only [Option.getD_some,Zbt,Option.isNone_some,Zas]
   apply Zck.J4i
   simp only [Zaq,Zag hi,Nat.zero_add,List.getElem?_cons_zero,Zba,Zbl,hm,Zlm,hf,Option.getD_some,Zbt]
   obtain ⟨h2,h3,h4,_⟩:=st.sin _ (Zmp hg)
   refine ⟨x,G,[],sc,rfl,Zfl.refl _ _,by rw [List.append_nil]; exact st,GAg.refl _ _,by simp,by simp,⟨[],by simp⟩,by simpa using h2,?_⟩
   have h3':G.hd x=t.hd:=h3
   rw [htk,← h3']
   exact .var (by rw [h3']; exact hvar)
  | none=>
   have hf:=Zot (k:=0) hk hg
   rw [hf]
   simp only [Option.getD_none,Zbt,Option.isNone_none,Zbe,Zbi,true_and]
   generalize hh2:h1 ++ [Zcj.cells Zav [.str [t.hd],.slice none 0 0 true,.ptr none] false]=h2
   have s2:Zbg h1.length h1 h2:=by rw [← hh2]; exact Zax
   have o2:h2[h1.length]?=some (.cells Zav [.str [t.hd],.slice none 0 0 true,.ptr none] false):=by rw [← hh2]; simp
   have hi2:=s2.get hi (Own.lt hi)
   have hm2:=s2.get hm hml
   have l2:h2.length=h1.length + 1:=by rw [← hh2]; simp
   have him:i≠mi:=hS i si
   simp only [Zag hi2,Zag hi,List.getElem?_cons_zero,xMp,Zbl,hm2,Yar,hf,true_and]
   generalize hh3:h2.set mi (.map (es ++ [(.str [t.hd],.ptr (some (h1.length,0)),clk)]) (clk + 1))=h3
   have hm3:h3[mi]?=some (.map (es ++ [(.str [t.hd],.ptr (some (h1.length,0)),clk)]) (clk + 1)):=by rw [← hh3]; exact Zca hm2
   have k3:∀ j,j≠mi→h3[j]?=h2[j]?:=fun j hj=>by rw [← hh3]; exact Zbk fun e=>hj e.symm
   have l3:h3.length=h2.length:=by rw [← hh3]; simp
   have hi3:h3[i]?=h2[i]?:=k3 i him
   have hk3:(es ++ [((Zac.str [t.hd],Zac.ptr (some (h1.length,0)),clk):ME)]).map (·.1)=(sc ++ [(t.hd,h1.length)]).map (fun p=>Zac.str [p.1]):=by simp [hk]
   have hv3:(es ++ [((Zac.str [t.hd],Zac.ptr (some (h1.length,0)),clk):ME)]).map (·.2.1)=(sc ++ [(t.hd,h1.length)]).map (fun p=>Zac.ptr (some (p.2,0))):=by simp [hv]
   have hg3:Znc (sc ++ [(t.hd,h1.length)]) t.hd=some h1.length:=by rw [Zuo,hg]; simp
   obtain ⟨j3,hf3⟩:=Zlc (k:=0) hk3 hv3 hg3
   apply Zck.J4i
   rw [hi2] at hi3
   simp only [Zaq,Zag hi3,Nat.zero_add,List.getElem?_cons_zero,Zba,Zbl,hm3,Zlm,hf3,Option.getD_some,Zbt]
   have hnN:h1.length ∉ N:=fun h=>by have:=st.gh.lt h; omega
   have hml2:mi≠h1.length:=by omega
   have o3:h3[h1.length]?=some (.cells Zav [.str [t.hd],.slice none ([]:List Nat).length 0 true,.ptr none] false):=by rw [k3 _ hml2.symm]; exact o2
   have g3:GH h3 G N (fun _=>none) (fun z=>Z z ∨ z=h1.length):=st.gh.re (by omega) (fun n hn=>by rw [k3 n fun e=>by subst e; obtain ⟨_,_,_,q,_⟩:=st.gh.node n hn; rw [hm] at q; cases q]; exact s2.eq n (st.gh.lt hn))
    (fun j t cs ro hj _ _=>by rw [k3 j fun e=>by subst e; rw [hm] at hj; cases hj]; exact s2.eq j (Own.lt hj)) (fun j hj hz=>by rintro (h | h); exact hz h; omega)
   have ag:GAg N G (Zla G h1.length t.hd []):=Zsf hnN
   have ghd:(Zla G h1.length t.hd []).hd h1.length=t.hd:=by simp [Zla]
   refine ⟨h1.length,Zla G h1.length t.hd [],[h1.length],sc ++ [(t.hd,h1.length)],rfl,⟨by omega,fun j hj hne=>by rw [k3 j hne]; exact s2.eq j hj⟩,⟨?_,?_,?_,?_,?_⟩,ag,?_,?_,⟨_,rfl⟩,by simp,?_⟩
   ·exact g3.add (.inr rfl) (fun z hz=>.inl hz) hnN o3 Row.nil (fun j o' h0=>absurd rfl h0)
   ·intro n hn p hp
    rcases List.mem_append.1 hn with hn | hn
    ·rw [(ag n hn).2] at hp; exact List.mem_append_left _ (st.cl n hn p hp)
    ·rw [List.mem_singleton.1 hn] at hp; simp [Zla] at hp
   ·intro n hn
    rcases List.mem_append.1 hn with hn | hn
    ·rw [(ag n hn).1,(ag n hn).2]; exact st.ar n hn
    ·rw [List.mem_singleton.1 hn,ghd,Znp hvar]; simp [Zla]
   ·refine ⟨_,_,hm3,hk3,hv3,?_,?_⟩
    ·rw [List.map_append,List.nodup_append]
     refine ⟨hb,by simp,?_⟩
     intro x hx y hy e
     simp at hy
     obtain ⟨z,hz,rfl⟩:=List.mem_map.1 hx
     have:=hlt z hz; omega
    ·intro e he
     rcases List.mem_append.1 he with he | he
     ·have:=hlt e he; omega
     ·simp at he; subst he; simp
   ·intro p hp
    rcases List.mem_append.1 hp with hp | hp
    ·obtain ⟨h1',h2',h3',h4'⟩:=st.sin p hp
     exact ⟨List.mem_append_left _ h1',by rw [(ag _ h1').1]; exact h2',h3',Zup h4'⟩
    ·rw [List.mem_singleton.1 hp]
     exact ⟨by simp,ghd,hvar,hg3⟩
   ·intro x hx
    rw [List.mem_singleton.1 hx]
    exact ⟨Nat.le_refl _,.refl⟩
   ·intro x hx _
    rw [List.mem_singleton.1 hx,ghd]; simp
   ·rw [htk]
    have:Raw (Zla G h1.length t.hd []) (Zla G h1.length t.hd []).hd h1.length (.k ((Zla G h1.length t.hd []).hd h1.length)):=.var (by rw [ghd]; exact hvar)
    rw [ghd] at this; exact this
 ·-- another letter
  simp only [Zbi]
  generalize hh2:h1 ++ [Zcj.cells Zav [.str [t.hd],.slice none 0 0 true,.ptr none] false]=h2
  have s2:Zbg h1.length h1 h2:=by rw [← hh2]; exact Zax
  have o2:h2[h1.length]?=some (.cells Zav [.str [t.hd],.slice none 0 0 true,.ptr none] false):=by rw [← hh2]; simp
  have l2:h2.length=h1.length + 1:=by rw [← hh2]; simp
  have hi2:=s2.get hi (Own.lt hi)
  have hm2:=s2.get hm hml
  have hmo:mi≠h1.length:=by omega
  have hNlt:∀ n∈N,n < h1.length:=fun n hn=>st.gh.lt hn
  have har:=Ty.ok_ar hok
  simp only [Zag hi2,List.getElem?_cons_succ,List.getElem?_cons_zero,Zak]
  have st2:ShS h2 mi G (N ++ []) sc (fun z=>Z z ∨ z=h1.length ∨ (none:Pt)=some (z,0)):=by
   rw [List.append_nil]
   refine ⟨st.gh.re (by omega) (fun n hn=>s2.eq n (hNlt n hn)) (fun j t cs ro hj _ _=>s2.eq j (Own.lt hj)) (fun j hj hz=>?_),st.cl,st.ar,st.map.eq (s2.eq mi hml),st.sin⟩
   rintro (h | h | h)
   ·exact hz h
   ·omega
   ·cases h
  refine Zck.L7ind (J:=fun (g:Nat) x48 h'=>x48=(g:Int)∧g≤t.ps.length∧∃ G1 L1 sc1 qs a1 cp e1,qs.length=g∧ShL h1 mi G N sc Z t h1.length h' G1 L1 sc1 qs a1 cp e1) (m:=fun g=>t.ps.length - g) (hr:=?_) (g:=0)
   (hj:=⟨rfl,by omega,G,[],sc,[],none,0,true,rfl,o2,Vec.mk0,(fun j hj=>by cases hj),(fun i q x hq=>by simp at hq),(fun q hq=>by cases hq),Zuv s2,st2,GAg.refl _ _,(fun x hx=>by cases hx),(fun x hx=>by cases hx),⟨[],by simp⟩⟩)
  rintro g x48 h3 ⟨rfl,hg,G1,L1,sc1,qs,a1,cp,e1,hql,W⟩ R hR
  unfold Zck.L7t
  have hps2:t.ps.length≤2:=by cases t <;> simp [Ty.ps]
  have hol:=Own.lt W.out
  refine Zan (fun hlt'=>?_) (fun hge=>?_)
  ·have hg':g < t.ps.length:=by omega
   have hqag:g < qa.length:=by omega
   obtain ⟨ja,oa,rfl,_,hca⟩:=(row.keepAt (i:=mi) (fun j o h0 e=>hS j (hSa j o h0 e)) W.fr).at hg'
   rw [List.getElem?_map,List.getElem?_eq_getElem hqag] at hca
   simp only [Zaq,Int.toNat_natCast,Nat.mul_one,hca,Option.map_some,Zbt,Zag W.out,Nat.zero_add,List.getElem?_cons_succ,List.getElem?_cons_zero,Zak]
   have hmem:=List.getElem_mem hg'
   have hsz:=Ty.size_part hmem
   refine ⟨by omega,(ih (by omega) (Ty.ok_ps hok _ hmem) ((hqa g _ _ (List.getElem?_eq_getElem hqag) (List.getElem?_eq_getElem hg')).keep fun j hj hl=>W.fr.eq j hl (hS j hj)) hS W.st (fun z hz=>?_)).mono ?_⟩
   ·rcases hz with hz | hz | hz
    ·have:=hZ z hz; omega
    ·omega
    ·exact Own.lt (W.vec.ptr hz).2
   rintro v h4 ⟨q,G2,L2,sc2,rfl,R2⟩
   have hmo':h1.length≠mi:=fun e=>hmo e.symm
   have out4:=Yds R2.fr W.out hmo'
   have a1mi:∀ j o,a1=some (j,o)→j≠mi:=fun j o hj e=>by
    subst e
    obtain ⟨es1,k1,hm1,_⟩:=W.st.map
    rw [(W.vec.ptr hj).2] at hm1; cases hm1
   have vec4:Vec Zbp h4 a1 qs.length cp (qs.map fun q=>Zac.ptr (some (q,0))):=W.vec.agree fun j hj=>R2.fr.eq j (Own.lt (W.vec.ptr hj).2) (a1mi j 0 hj)
   simp only [Zbt,Zbi]
   refine ⟨by rw [Zag out4]; rfl,by rw [Zag (Zax.get out4 (Own.lt out4)),Zag out4],?_⟩
   refine vec4.push Zpn Zue Zty Ztv (by simp) rfl (by omega) (fun h5 hl5 hi5 hk5=>?_)
   have hfl:=R2.fr.le
   have out5:h5[h1.length]?=some (.cells Zav [.str [t.hd],.slice a1 qs.length cp e1,.ptr none] false):=by rw [hk5 _ (Own.lt out4) fun j hj=>by have:=W.low j hj; omega]; exact out4
   simp only [Zak]
   rw [Zbd out5 (by simp)]
   simp only [Zau,putRow,List.take_succ_cons,List.take_zero,List.length_cons,List.length_nil,List.drop_succ_cons,List.drop_zero,List.drop_nil,List.cons_append,List.nil_append,List.append_nil]
   rw [Zcm (by omega)]
   generalize hh6:h5.set h1.length (.cells Zav [.str [t.hd],.slice (some (h4.length + 1,0)) (qs.length + 1) (qs.length + 1) false,.ptr none] false)=h6
   have l6:h6.length=h4.length + 2:=by rw [← hh6]; simpa using hl5
   have k6:∀ j,j < h4.length→j≠h1.length→(∀ i,a1=some (i,0)→j≠i)→h6[j]?=h4[j]?:=fun j hj h1' h2'=>by rw [← hh6,Zbk (fun e=>h1' e.symm)]; exact hk5 j hj h2'
   have ob6:h6[h1.length]?=some (.cells Zav [.str [t.hd],.slice (some (h4.length + 1,0)) (qs ++ [q]).length (qs.length + 1) false,.ptr none] false):=by rw [← hh6,Zca out5]; simp
   have nb6:h6[h4.length + 1]?=some (.cells Zbp ((qs ++ [q]).map fun q=>Zac.ptr (some (q,0))) false):=by
    rw [← hh6,Zbk (by omega),hi5]; simp
   have hoN:∀ n∈(N ++ L1) ++ L2,n≠h1.length:=fun n hn=>by
    rcases List.mem_append.1 hn with hn | hn
    ·rcases List.mem_append.1 hn with hn | hn
     ·have:=hNlt n hn; omega
     ·have:=(W.new n hn).1; omega
    ·have:=(R2.new n hn).1; omega
   have haN:∀ n∈(N ++ L1) ++ L2,∀ i,a1=some (i,0)→n≠i:=fun n hn i hi'=>by
    obtain ⟨_,_,_,hnn,_⟩:=R2.st.gh.node n hn
    exact Zyq hnn (vec4.ptr hi').2
   have hm4:=R2.st.map
   obtain ⟨es4,k4,hm4',_⟩:=id hm4
   have mi6:h6[mi]?=h4[mi]?:=k6 mi (Own.lt hm4') hmo (fun i hi'=>(a1mi i 0 hi').symm)
   have inc:∀ p,p∈sc1→p∈sc2:=fun p hp=>by obtain ⟨r,hr⟩:=R2.ext; rw [hr]; exact List.mem_append_left _ hp
   refine hR (g + 1) _ _ (by omega) ⟨rfl,by omega,G2,L1 ++ L2,sc2,qs ++ [q],some (h4.length + 1,0),qs.length + 1,false,by simp [hql],ob6,by rw [List.length_append]; exact Vec.mk1 nb6,fun j hj=>by cases hj; omega,fun i q' x hq' hx=>?_,fun q' hq'=>?_,⟨by have:=W.fr.le; omega,fun j hj hne=>?_⟩,⟨?_,?_,?_,hm4.eq mi6,?_⟩,W.ag.trans R2.ag (fun n hn=>List.mem_append_left _ hn),fun x hx=>?_,fun x hx hxv=>?_,?_⟩
   ·by_cases hi':i < qs.length
    ·rw [List.getElem?_append_left hi'] at hq'
     exact (W.raw i q' x hq' hx).agree R2.ag W.st.cl (fun y hy=>(R2.ag y hy).1) (W.qN _ (List.mem_of_getElem? hq'))
    ·rw [List.getElem?_append_right (by omega)] at hq'
     have hi0:i=g:=by
      have:=(List.getElem?_eq_some_iff.1 hq').1
      simp at this; omega
     subst hi0
     rw [hql,Nat.sub_self] at hq'
     simp at hq'
     subst hq'
     rw [List.getElem?_eq_getElem hg'] at hx
     cases hx
     exact R2.raw
   ·rw [← List.append_assoc]
    rcases List.mem_append.1 hq' with hq' | hq'
    ·exact List.mem_append_left _ (W.qN q' hq')
    ·rw [List.mem_singleton.1 hq']; exact R2.qN
   ·rw [k6 j (by have:=W.fr.le; omega) (by omega) fun i hi'=>by have:=W.low i hi'; omega,R2.fr.eq j (by have:=W.fr.le; omega) hne]
    exact W.fr.eq j hj hne
   ·rw [← List.append_assoc]
    refine R2.st.gh.re (by omega) (fun n hn=>k6 n (R2.st.gh.lt hn) (hoN n hn) (haN n hn)) (fun j ty cs ro hj hz hjn=>?_) (fun j hj hz=>?_)
    ·exact k6 j (Own.lt hj) (fun e=>hz (.inr (.inl e))) fun i hi' e=>hz (.inr (.inr (by rw [e]; exact hi')))
    ·rintro (h | h | h)
     ·exact hz (.inl h)
     ·exact hz (.inr (.inl h))
     ·cases h; omega
   ·rw [← List.append_assoc]; exact R2.st.cl
   ·rw [← List.append_assoc]; exact R2.st.ar
   ·rw [← List.append_assoc]; exact R2.st.sin
   ·rcases List.mem_append.1 hx with hx | hx
    ·obtain ⟨x1,q',hq',hsub⟩:=W.new x hx
     exact ⟨x1,q',List.mem_append_left _ hq',hsub.agree R2.ag W.st.cl (W.qN q' hq')⟩
    ·obtain ⟨x1,hsub⟩:=R2.new x hx
     exact ⟨by omega,q,by simp,hsub⟩
   ·rcases List.mem_append.1 hx with hx | hx
    ·have hh:=(R2.ag x (List.mem_append_right _ hx)).1
     rw [hh] at hxv ⊢
     exact inc _ (W.var x hx hxv)
    ·exact R2.var x hx hxv
   ·obtain ⟨r1,hr1⟩:=W.ext
    obtain ⟨r2,hr2⟩:=R2.ext
    exact ⟨r1 ++ r2,by rw [hr2,hr1,List.append_assoc]⟩
  ·apply Zck.A7x0i
   have hgl:g=t.ps.length:=by omega
   have hqt:qs.length=t.ps.length:=by omega
   have hoN:h1.length ∉ N ++ L1:=fun hn=>by
    rcases List.mem_append.1 hn with hn | hn
    ·have:=hNlt _ hn; omega
    ·have:=(W.new _ hn).1; omega
   have ag1:GAg (N ++ L1) G1 (Zla G1 h1.length t.hd qs):=Zsf hoN
   have ghd:(Zla G1 h1.length t.hd qs).hd h1.length=t.hd:=by simp [Zla]
   have gps:(Zla G1 h1.length t.hd qs).ps h1.length=qs:=by simp [Zla]
   refine ⟨h1.length,Zla G1 h1.length t.hd qs,L1 ++ [h1.length],sc1,rfl,W.fr,⟨?_,?_,?_,W.st.map,fun p hp=>?_⟩,W.ag.trans ag1 (fun n hn=>List.mem_append_left _ hn),fun x hx=>?_,fun x hx hxv=>?_,W.ext,by simp,?_⟩
   ·rw [← List.append_assoc]
    refine W.st.gh.add (.inr (.inl rfl)) (fun z hz=>.inl hz) hoN W.out (W.vec.row (by simp)) (fun j o' h0 ha=>⟨fun hj=>?_,?_,fun hz=>?_⟩)
    ·obtain ⟨_,_,_,hnn,_⟩:=W.st.gh.node j hj
     exact Zyq hnn (W.vec.ptr ha).2 rfl
    ·have h00:=(W.vec.ptr ha).1
     subst h00
     have:=W.low j ha; omega
    ·have h00:=(W.vec.ptr ha).1
     subst h00
     have:=W.low j ha
     have:=hZ j hz; omega
   ·intro n hn p hp
    rw [← List.append_assoc] at hn ⊢
    rcases List.mem_append.1 hn with hn | hn
    ·rw [(ag1 n hn).2] at hp; exact List.mem_append_left _ (W.st.cl n hn p hp)
    ·rw [List.mem_singleton.1 hn,gps] at hp; exact List.mem_append_left _ (W.qN p hp)
   ·intro n hn
    rw [← List.append_assoc] at hn
    rcases List.mem_append.1 hn with hn | hn
    ·rw [(ag1 n hn).1,(ag1 n hn).2]; exact W.st.ar n hn
    ·rw [List.mem_singleton.1 hn,ghd,gps,har,hqt]
   ·obtain ⟨q1,q2,q3,q4⟩:=W.st.sin p hp
    exact ⟨by rw [← List.append_assoc]; exact List.mem_append_left _ q1,by rw [(ag1 _ q1).1]; exact q2,q3,q4⟩
   ·rcases List.mem_append.1 hx with hx | hx
    ·obtain ⟨x1,q',hq',hsub⟩:=W.new x hx
     exact ⟨by omega,.part (by rw [gps]; exact hq') (hsub.agree ag1 W.st.cl (W.qN q' hq'))⟩
    ·rw [List.mem_singleton.1 hx]; exact ⟨Nat.le_refl _,.refl⟩
   ·rcases List.mem_append.1 hx with hx | hx
    ·rw [(ag1 x (List.mem_append_right _ hx)).1] at hxv ⊢
     exact W.var x hx hxv
    ·rw [List.mem_singleton.1 hx,ghd] at hxv
     rw [hvar] at hxv; cases hxv
   ·have hraw:∀ (i q:Nat) (x:Ty),qs[i]?=some q→t.ps[i]?=some x→Raw (Zla G1 h1.length t.hd qs) (Zla G1 h1.length t.hd qs).hd q x:=fun i q x hq hx=>
     (W.raw i q x hq hx).agree ag1 W.st.cl (fun y hy=>(ag1 y hy).1) (W.qN _ (List.mem_of_getElem? hq))
    have hvo:Zao ((Zla G1 h1.length t.hd qs).hd h1.length)=false:=by rw [ghd]; exact hvar
    cases t with
    | k c=>
     have hq0:qs=[]:=List.eq_nil_of_length_eq_zero hqt
     have:=Raw.cst (nu:=(Zla G1 h1.length (Ty.k c).hd qs).hd) hvo (by rw [gps]; exact hq0)
     rw [ghd] at this; exact this
    | u c x=>
     obtain ⟨q,rfl⟩:=List.length_eq_one_iff.1 (show qs.length=1 from hqt)
     ·have:=Raw.one (nu:=(Zla G1 h1.length (Ty.u c x).hd [q]).hd) hvo gps (hraw 0 q x rfl rfl)
      rw [ghd] at this; exact this
    | w c x y=>
     obtain ⟨q,q',rfl⟩:∃ q q',qs=[q,q']:=by
      match qs,hqt with
      | [q,q'],_=>exact ⟨q,q',rfl⟩
     ·have:=Raw.two (nu:=(Zla G1 h1.length (Ty.w c x y).hd [q,q']).hd) hvo gps (hraw 0 q x rfl rfl) (hraw 1 q' y rfl rfl)
      rw [ghd] at this; exact this
end Go.Sim

set_option linter.unusedVariables false
set_option linter.unusedSimpArgs false
set_option maxRecDepth 20000
namespace Go.Sim
open Go Go.RowKit

section
variable {h h':Zaa} {mi:Nat} {G G':Gr} {N L:List Nat} {sc sc':List (Nat × Nat)} {Z Z':Nat→Prop} {lk:Nat→Option Nat}
theorem ShS.same (st:ShS h mi G N sc Z) (s:Zbg h.length h h'):ShS h' mi G N sc Z:=by
 obtain ⟨es,k,hm,_⟩:=id st.map
 exact ⟨st.gh.same s,st.cl,st.ar,st.map.eq (s.eq mi (Own.lt hm)),st.sin⟩
theorem Zud {s:List Nat} {T:Ty} (hs:Zgh s=some T) (st:ShS h mi G N sc Z) (hZ:∀ z,Z z→z < h.length) :
  Zad pg Zgv [.str s,.map (some mi)] h fun v h'=>∃ q G' L sc',v=.ptr (some (q,0))∧ShR h mi G N sc Z T q h' G' L sc':=by
 obtain ⟨h1,h2,h3⟩:=Zgm.1 hs
 obtain ⟨es,k,hm,_⟩:=id st.map
 have hml:=Own.lt hm
 apply Zlr.call
 refine (Znd s.length s (Nat.le_refl _) h).mono ?_
 rintro v g1 ⟨s1,p,r,rfl,hres⟩
 have ho:Zec s T []:=⟨h1,by rw [h2]; simp⟩
 rcases hres with ⟨t,ho',hn⟩ | ⟨_,hno⟩
 ·obtain ⟨rfl,rfl⟩:=ho'.unique ho
  simp only [Zes,Zai,Zbt,Zba,Zat]
  have l1:=s1.le
  refine (Ybn _ (Nat.le_refl _) h1 hn (fun j hj=>by have:=hj.1; omega) (st.same s1) (fun z hz=>by have:=hZ z hz; omega)).mono ?_
  rintro v g2 ⟨q,G',L,sc',rfl,R⟩
  simp only [Zbt]
  exact ⟨q,G',L,sc',rfl,⟨(Zuv s1).trans R.fr,R.st,R.ag,fun x hx=>⟨by have:=(R.new x hx).1; omega,(R.new x hx).2⟩,R.var,R.ext,R.qN,R.raw⟩⟩
 ·exact absurd ho (hno T [])
theorem ShS.gok (st:ShS h mi G N sc Z):GOk G N (fun _=>none):=⟨st.cl,st.ar,fun n m _ h=>(by cases h),fun n _=>⟨0,n,.refl,rfl⟩⟩
theorem Raw.under (g:GOk G N lk) {nu:Nat→Nat} {q x:Nat} (s:Sub G q x):q∈N→∀ {t:Ty},Raw G nu q t→∃ t',Raw G nu x t':=by
 induction s with
 | refl=>exact fun _ t r=>⟨_,r⟩
 | @part n p x hp _ ih=>
  intro hn t r
  have hpN:=g.par n hn p hp
  cases r with
  | var hv=>rw [g.var_ps hn hv] at hp; cases hp
  | cst h1 h2=>rw [h2] at hp; cases hp
  | one h1 h2 h3=>rw [h2] at hp; simp at hp; subst hp; exact ih hpN h3
  | two h1 h2 h3 h4=>
   rw [h2] at hp; simp at hp
   rcases hp with rfl | rfl
   ·exact ih hpN h3
   ·exact ih hpN h4
theorem ShS.nil (hm:h[mi]?=some (.map [] 0)) (G:Gr) (Z:Nat→Prop):ShS h mi G [] [] Z:=
 ⟨⟨fun n hn=>(by cases hn)⟩,fun n hn=>(by cases hn),fun n hn=>(by cases hn),⟨[],0,hm,rfl,rfl,by simp,by simp⟩,fun p hp=>(by cases hp)⟩
end
end Go.Sim

set_option linter.unusedVariables false
set_option linter.unusedSimpArgs false
set_option maxRecDepth 20000
namespace Go.Sim
open Go Go.RowKit

theorem Yat {es:List ME} {seen:List Nat} {e:ME} (he:e∈es) (hn:e.2.2 ∉ seen):es.countP (fun x=>decide (x.2.2 ∉ seen ++ [e.2.2])) < es.countP (fun x=>decide (x.2.2 ∉ seen)):=by
 have key:∀ L:List ME,e∈L→L.countP (fun x=>decide (x.2.2 ∉ seen ++ [e.2.2])) < L.countP (fun x=>decide (x.2.2 ∉ seen)):=by
  intro L hL
  induction L with
  | nil=>cases hL
  | cons n L ih=>
   have hm:L.countP (fun x=>decide (x.2.2 ∉ seen ++ [e.2.2]))≤L.countP (fun x=>decide (x.2.2 ∉ seen)):=List.countP_mono_left fun x _ h=>by
    simp only [decide_eq_true_eq,List.mem_append,not_or] at h ⊢; exact h.1
   rw [List.countP_cons,List.countP_cons]
   rcases List.mem_cons.1 hL with rfl | hL
   ·rw [if_neg (by simp),if_pos (by simpa using hn)]; omega
   ·have:=ih hL
    by_cases h1:n.2.2∈seen ++ [e.2.2]
    ·rw [if_neg (by rw [decide_eq_true_eq]; exact fun h=>h h1)]; split <;> omega
    ·have h2:n.2.2 ∉ seen:=fun h=>h1 (List.mem_append_left _ h)
     rw [if_pos (by rw [decide_eq_true_eq]; exact h1),if_pos (by rw [decide_eq_true_eq]; exact h2)]; omega
 exact key es he
theorem Znb:∀ {m:Bd} {p:Nat × Ty},p∈m→∃ T,Zea m p.1=some T
 | (w,u) :: m,p,h=>by
  simp only [Zea]
  by_cases e:w=p.1
  ·exact ⟨u,by rw [if_pos e]⟩
  ·rw [if_neg e]
   refine Znb ((List.mem_cons.1 h).resolve_left fun h=>?_)
   subst h; exact e rfl
theorem Zyo {Q:QT} {h0:Zaa} {G:Gr} {N:List Nat} {lk:Nat→Option Nat} {Z:Nat→Prop} {sc:List (Nat × Nat)} {mi mo r clk:Nat} {es:List ME} {F:Nat→Ty} (g:GH h0 G N lk Z) (ok:GOk G N lk) (cl:Cls G N lk)
  (hsc:∀ p∈sc,p.2∈N∧G.hd p.2=p.1∧Zao p.1=true∧Znc sc p.1=some p.2) (hF:∀ p∈sc,VT G lk G.hd p.2 (F p.1)) (hFk:∀ p∈sc,(F p.1=.k p.1 ↔ lk p.2=none)) (hFok:∀ p∈sc,(F p.1).ok=true)
  (hFo:∀ v,Zao v=true→Znc sc v=none→F v=.k v) (hm:h0[mi]?=some (.map es clk)) (hk:es.map (·.1)=sc.map (fun p=>Zac.str [p.1])) (hv:es.map (·.2.1)=sc.map (fun p=>Zac.ptr (some (p.2,0)))) (hnd:(es.map (·.2.2)).Nodup) (hlt:∀ e∈es,e.2.2 < clk)
  (hmo:∃ es' k',h0[mo]?=some (.map es' k')) (hr0:∃ a b c d,h0[r]?=some (.miter a b c d)) (hne1:mi≠mo) (hne2:mi≠r) (hne3:mo≠r)
  (hyes:∀ m h',Zyw h' mo m→(∀ v,Zea m v=Zea (Zko F) v)→BOk 60 m→Zmf F=true→Zfv mo r h0 h'→Zbv.A9x0 Q (some mo) h') (hno:∀ h',Zfv mo r h0 h'→Zmf F=false→Q (.tup [.slice none 0 0 true,.bool false]) h') :
  ∀ (h:Zaa) (seen:List Nat),Zfv mo r h0 h→h[r]?=some (.miter (some mi) clk seen clk)→(∃ m,Zyw h mo m∧BOk 60 m∧(∀ (j:Nat) (e:ME) (c x:Nat),es[j]?=some e→sc[j]?=some (c,x)→e.2.2∈seen→lk x≠none→Zea m c=some (F c))∧∀ v T,Zea m v=some T→T=F v∧∃ x,(v,x)∈sc∧lk x≠none) →
   Zbv.L9 Q (some mo) r h:=by
 intro h seen hK hr hm0
 refine Zbv.L9ind (J:=fun (seen:List Nat) h=>Zfv mo r h0 h∧h[r]?=some (.miter (some mi) clk seen clk)∧(∃ m,Zyw h mo m∧BOk 60 m∧(∀ (j:Nat) (e:ME) (c x:Nat),es[j]?=some e→sc[j]?=some (c,x)→e.2.2∈seen→lk x≠none→Zea m c=some (F c))∧∀ v T,Zea m v=some T→T=F v∧∃ x,(v,x)∈sc∧lk x≠none)) (m:=fun seen=>es.countP (fun x=>decide (x.2.2 ∉ seen))) (hr:=?_) (g:=seen) (hj:=⟨hK,hr,hm0⟩)
 clear hm0 hr hK seen h
 rintro seen h ⟨hK,hr,m,rm,bo,inv1,inv2⟩ R hR
 unfold Zbv.L9t
 have hmi:h[mi]?=some (.map es clk):=by rw [hK.2 mi (Own.lt hm) hne1 hne2]; exact hm
 have hlen:es.length=sc.length:=by have:=congrArg List.length hk; simpa using this
 simp only [Zjv,hr,Yep,Zbl,hmi]
 refine ⟨⟨hlt,Nat.le_refl _⟩,fun hall=>?_,fun e he hns=>?_⟩
 ·refine hyes m h rm (fun v=>?_) bo ?_ hK
  ·rw [Zlj]
   cases hb:Zea m v with
   | some T=>
    obtain ⟨rfl,x,hx,hlx⟩:=inv2 v T hb
    obtain ⟨_,_,h3,_⟩:=hsc _ hx
    have h4:¬ F v=.k v:=fun e=>hlx ((hFk _ hx).1 e)
    simp only at h3
    rw [if_pos ⟨h3,h4⟩]
   | none=>
    split
    ·rename_i hc
     obtain ⟨h1,h2⟩:=hc
     exfalso
     cases hg:Znc sc v with
     | none=>exact h2 (hFo v h1 hg)
     | some x=>
      have hx:=Zmp hg
      obtain ⟨j,hj⟩:=List.getElem?_of_mem hx
      have hjl:=(List.getElem?_eq_some_iff.1 hj).1
      have hje:es[j]?=some es[j]:=List.getElem?_eq_getElem (by omega)
      have:=inv1 j _ v x hje hj (hall _ (List.getElem_mem _)) (fun e=>h2 ((hFk _ hx).2 e))
      rw [hb] at this; cases this
    ·rfl
  ·unfold Zmf
   rw [List.all_eq_true]
   intro v hv'
   have hvv:=(Zei v).1 hv'
   by_cases hfv:F v=.k v
   ·simp [hfv]
   ·cases hg:Znc sc v with
    | none=>exact absurd (hFo v hvv hg) hfv
    | some x=>
     have hx:=Zmp hg
     obtain ⟨j,hj⟩:=List.getElem?_of_mem hx
     have hjl:=(List.getElem?_eq_some_iff.1 hj).1
     have hje:es[j]?=some es[j]:=List.getElem?_eq_getElem (by omega)
     have hb:=inv1 j _ v x hje hj (hall _ (List.getElem_mem _)) (fun e=>hfv ((hFk _ hx).2 e))
     have:=(bo.var _ (Zmv hb)).2.2
     simp only at this
     simp [this]
 ·obtain ⟨j,hj⟩:=List.getElem?_of_mem he
  have hjl:=(List.getElem?_eq_some_iff.1 hj).1
  obtain ⟨c,x,hcx⟩:∃ c x,sc[j]?=some (c,x):=⟨_,_,List.getElem?_eq_getElem (by omega)⟩
  obtain ⟨e1,e2,st⟩:=e
  have he1:e1=.str [c]:=by
   have:=congrArg (·[j]?) hk
   simp only [List.getElem?_map,hj,hcx,Option.map_some,Option.some.injEq] at this; exact this
  have he2:e2=.ptr (some (x,0)):=by
   have:=congrArg (·[j]?) hv
   simp only [List.getElem?_map,hj,hcx,Option.map_some,Option.some.injEq] at this; exact this
  subst he1; subst he2
  have hxs:=List.mem_of_getElem? hcx
  obtain ⟨hxN,hxh,hcv,hng⟩:=hsc _ hxs
  simp only at hxN hxh hcv hng hns
  simp only [Zrx,Zbi]
  generalize hh1:h.set r (.miter (some mi) clk (seen ++ [st]) clk)=h1
  have hr1:h1[r]?=some (.miter (some mi) clk (seen ++ [st]) clk):=by rw [← hh1]; exact Zca hr
  have k1:∀ q,q≠r→h1[q]?=h[q]?:=fun q hq=>by rw [← hh1]; exact Zbk fun e=>hq e.symm
  have l1:h1.length=h.length:=by rw [← hh1]; simp
  have K1:Zfv mo r h0 h1:=hK.trans ⟨by omega,fun q hq _ h2=>k1 q h2⟩
  have rm1:Zyw h1 mo m:=rm.eq (k1 mo hne3)
  have hm1:h1[mi]?=some (.map es clk):=by rw [k1 mi hne2]; exact hmi
  have g1:GH h1 G N lk Z:=g.agree K1.1 fun q t cs ro hq=>K1.2 q (Own.lt hq) (fun e=>by subst e; obtain ⟨_,_,hx⟩:=hmo; rw [hx] at hq; cases hq) (fun e=>by subst e; obtain ⟨_,_,_,_,hx⟩:=hr0; rw [hx] at hq; cases hq)
  simp only [hr1,xMp,hm1]
  refine ⟨⟨hnd,by trivial⟩,(.str [c],.ptr (some (x,0)),st),he,seen,rfl,?_⟩
  simp only [Zrx]
  obtain ⟨kp,en,hp,hen0,henN⟩:=ok.ends hxN
  refine (Zrh g1 ok hxN hp hen0).mono ?_
  rintro v h2 ⟨rfl,rfl⟩
  simp only [Zbt]
  have hdec:=Yat he hns
  -- only the one more stamp
  have same_ix:∀ (j':Nat) (e':ME) (c' x':Nat),es[j']?=some e'→sc[j']?=some (c',x')→e'.2.2∈seen ++ [st]→e'.2.2∈seen ∨ (c'=c∧x'=x):=by
   intro j' e' c' x' hj' hs' hin
   rcases List.mem_append.1 hin with hin | hin
   ·exact .inl hin
   ·right
    rw [List.mem_singleton] at hin
    have h1:(es.map (·.2.2))[j']?=some st:=by rw [List.getElem?_map,hj',Option.map_some,hin]
    have h2:(es.map (·.2.2))[j]?=some st:=by rw [List.getElem?_map,hj,Option.map_some]
    have hjj:j'=j:=by
     obtain ⟨a1,b1⟩:=List.getElem?_eq_some_iff.1 h1
     obtain ⟨a2,b2⟩:=List.getElem?_eq_some_iff.1 h2
     exact (List.getElem_inj (h₀:=a1) (h₁:=a2) hnd).1 (b1.trans b2.symm)
    subst hjj
    rw [hcx] at hs'
    cases hs'; exact ⟨rfl,rfl⟩
  by_cases hex:en=x
  ·subst hex
   refine .inl ⟨rfl,?_⟩
   simp only [Zbe]
   refine hR (seen ++ [st]) _ hdec ⟨K1,hr1,m,rm1,bo,fun j' e' c' x' hj' hs' hin hlx=>?_,inv2⟩
   rcases same_ix j' e' c' x' hj' hs' hin with h | ⟨rfl,rfl⟩
   ·exact inv1 j' e' c' x' hj' hs' h hlx
   ·exact absurd hen0 hlx
  ·refine .inr ⟨hex,Zfa g1 henN,Zfa g1 hxN,?_⟩
   simp only [Zas]
   have hlx:lk x≠none:=fun h=>hex (hp.at_end h)
   have hvt:=hF _ hxs
   simp only at hvt
   refine (Ydx ok cl _ (Nat.le_refl _) g1 hxN hvt).mono ?_
   rintro v h3 ⟨rfl,s,rfl,hs61,hst⟩
   simp only [Zes,Zai,Zba,Zaf,Zat]
   have hfne:¬ F c=.k c:=fun e=>hlx ((hFk _ hxs).1 e)
   refine Zhl (fun hb=>?_) (fun hb=>?_)
   ·have hb:=of_decide_eq_false hb
    refine hno _ K1 ?_
    unfold Zmf
    rw [List.all_eq_false]
    exact ⟨c,(Zei c).2 hcv,by simp [hfne,hb]⟩
   ·have hb:=of_decide_eq_true hb
    have hs':=hst hb
    subst hs'
    obtain ⟨es2,clk2,ho2,hk2,hv2,hnd2,hlt2⟩:=id rm1
    simp only [ho2,Yar]
    have hol:=Own.lt ho2
    have fin:∀ (m':Bd) (es':List ME) (k':Nat),Zyw (h3.set mo (.map es' k')) mo m'→BOk 60 m'→Zea m' c=some (F c)→(∀ v,v≠c→Zea m' v=Zea m v)→R (some mo) r (h3.set mo (.map es' k')):=by
     intro m' es' k' rm' bo' hc hoth
     have bc:∀ c',Zea m c'=some (F c')→Zea m' c'=some (F c'):=fun c' hb'=>by
      by_cases e:c'=c
      ·rw [e]; exact hc
      ·rw [hoth c' e]; exact hb'
     refine hR (seen ++ [st]) _ hdec ⟨K1.trans (Zfv.set1 mo r h3 _),by rw [Zbk hne3]; exact hr1,m',rm',bo',fun j' e' c' x' hj' hs' hin hlx'=>?_,fun v T hv'=>?_⟩
     ·rcases same_ix j' e' c' x' hj' hs' hin with h | ⟨rfl,rfl⟩
      ·exact bc c' (inv1 j' e' c' x' hj' hs' h hlx')
      ·exact hc
     ·by_cases e:v=c
      ·subst e
       rw [hc] at hv'
       exact ⟨(Option.some.inj hv').symm,x,hxs,hlx⟩
      ·rw [hoth v e] at hv'; exact inv2 v T hv'
    cases hg:Zea m c with
    | none=>
     rw [Zoy hk2 hg]
     refine fin (m ++ [(c,F c)]) _ _ ⟨_,_,List.getElem?_set_self hol,by simp [hk2],by simp [hv2],?_,?_⟩ ⟨fun p hp=>?_,?_⟩ (by rw [Zmk,hg]; simp) (fun v hv'=>?_)
     ·rw [List.map_append,List.nodup_append]
      refine ⟨hnd2,by simp,?_⟩
      intro a ha b hb' e
      simp at hb'
      obtain ⟨z,hz,rfl⟩:=List.mem_map.1 ha
      have:=hlt2 z hz; omega
     ·intro e he
      rcases List.mem_append.1 he with he | he
      ·have:=hlt2 e he; omega
      ·simp at he; subst he; simp
     ·rcases List.mem_append.1 hp with hp | hp
      ·exact bo.var p hp
      ·rw [List.mem_singleton.1 hp]; exact ⟨hcv,hFok _ hxs,hb⟩
     ·rw [List.map_append,List.nodup_append]
      refine ⟨bo.nd,by simp,?_⟩
      intro a ha b hb' e
      simp at hb'
      subst hb'; subst e
      obtain ⟨p,hp,rfl⟩:=List.mem_map.1 ha
      obtain ⟨T,hT⟩:=Znb hp
      rw [hg] at hT; cases hT
     ·rw [Zmk]
      cases Zea m v with
      | some T=>rfl
      | none=>rw [if_neg fun e=>hv' e.symm]
    | some T=>
     obtain ⟨hT,_⟩:=inv2 c T hg
     subst hT
     obtain ⟨j2,b2,hf2,hj2⟩:=Zlo (k:=0) hk2 hv2 hg
     rw [hf2]
     simp only [Nat.zero_add]
     rw [Zkb hj2 rfl]
     exact fin m es2 clk2 ⟨es2,clk2,List.getElem?_set_self hol,hk2,hv2,hnd2,hlt2⟩ bo hg (fun _ _=>rfl)
def Yfz (s t:List Nat) (h:Zaa) (v:Zac) (h':Zaa):Prop:=Zbg h.length h h'∧∃ a n c e,v=.tup [.slice a n c e,.bool (Zil s t).isSome]∧n≤c∧Zdv Zap eP h.length h' a n ((Zil s t).getD [])
theorem Zms {s t:List Nat} (h:(Ztr s && Ztr t)=false):Zil s t=none:=by
 unfold Zil
 split
 ·rename_i a b ha hb; rw [Zps ha,Zps hb] at h; cases h
 ·rfl
theorem Zob {s t:List Nat} {h h':Zaa} (hn:Zil s t=none) (S:Zbg h.length h h'):Yfz s t h (.tup [.slice none 0 0 true,.bool false]) h':=
 ⟨S,none,0,0,true,by rw [hn]; rfl,Nat.le_refl _,by rw [hn]; exact ⟨rfl,.inl rfl⟩⟩
theorem Zzp {m m':Bd} (h:∀ v,Zea m v=Zea m' v):bdL m=bdL m':=by
 unfold bdL
 congr 1
 funext v
 rw [h v]
theorem Zkg (s t:List Nat) (h:Zaa):Zad pg Zen [.str s,.str t] h (Yfz s t h):=by
 apply Zbv.call
 refine (Zmc s h).mono ?_
 rintro v h1 ⟨rfl,s1⟩
 simp only [Zaf]
 refine Zhl (fun hn=>Zob (Zms (by rw [hn]; rfl)) s1) (fun hs=>?_)
 refine (Zmc t h1).mono ?_
 rintro v h2 ⟨rfl,s2⟩
 simp only [Zaf]
 have S2:=s1.cat s2
 refine Zhl (fun hn=>Zob (Zms (by rw [hn]; simp)) S2) (fun ht=>?_)
 obtain ⟨a,ha⟩:=Zrc hs
 obtain ⟨b,hb⟩:=Zrc ht
 obtain ⟨a1,a2,a3⟩:=Zgm.1 ha
 obtain ⟨b1,b2,b3⟩:=Zgm.1 hb
 apply Zbv.J3i
 simp only [Zbi]
 generalize hh3:h2 ++ [Zcj.map [] 0]=h3
 have s3:Zbg h2.length h2 h3:=by rw [← hh3]; exact Zax
 have m3:h3[h2.length]?=some (.map [] 0):=by rw [← hh3]; simp
 have l3:h3.length=h2.length + 1:=by rw [← hh3]; simp
 have hl2:=S2.le
 refine (Zud ha (ShS.nil m3 ⟨fun _=>0,fun _=>[]⟩ fun _=>False) (fun z hz=>hz.elim)).mono ?_
 rintro v h4 ⟨q1,G1,L1,sc1,rfl,R1⟩
 simp only [Zbt]
 have l4:=R1.fr.le
 have st1:=R1.st
 simp only [List.nil_append] at st1
 refine (Zud hb st1 (fun z hz=>hz.elim)).mono ?_
 rintro v h5 ⟨q2,G,L2,sc,rfl,R2⟩
 simp only [Zbt]
 have l5:=R2.fr.le
 have st:=R2.st
 have q1N1:q1∈L1:=by simpa using R1.qN
 have q1N:q1∈L1 ++ L2:=List.mem_append_left _ q1N1
 have q2N:=R2.qN
 have ok:GOk G (L1 ++ L2) (fun _=>none):=st.gok
 have nv:Zxa G (L1 ++ L2) G.hd Zao:=by
  refine ⟨fun n _ h=>h,fun n _ h=>h,fun n hn m hm hv hv' he=>?_⟩
  have key:∀ n∈L1 ++ L2,Zao (G.hd n)=true→Znc sc (G.hd n)=some n:=fun n hn hv=>by
   rcases List.mem_append.1 hn with hn | hn
   ·have hh:=(R2.ag n hn).1
    rw [hh] at hv ⊢
    obtain ⟨r,hr⟩:=R2.ext
    exact (st.sin (G1.hd n,n) (by rw [hr]; exact List.mem_append_left _ (R1.var n hn hv))).2.2.2
   ·exact (st.sin _ (R2.var n hn hv)).2.2.2
  have e1:=key n hn hv
  have e2:=key m hm hv'
  rw [he,e2] at e1; exact (Option.some.inj e1).symm
 have ra:Raw G G.hd q1 a:=R1.raw.agree R2.ag st1.cl (fun x hx=>(R2.ag x hx).1) q1N1
 have rb:Raw G G.hd q2 b:=R2.raw
 have sb1:∀ x∈L1,Sub G q1 x:=fun x hx=>(R1.new x hx).2.agree R2.ag st1.cl q1N1
 have w:Two G (L1 ++ L2) G.hd Zao q1 q2 a b:=by
  refine ⟨q1N,q2N,nv,ra,rb,fun n hn=>?_,fun x hx=>?_⟩
  ·rcases List.mem_append.1 hn with hn | hn
   ·exact ra.under ok (sb1 n hn) q1N
   ·exact rb.under ok (R2.new n hn).2 q2N
  ·rcases List.mem_append.1 hx with hx | hx
   ·exact .inl (sb1 x hx)
   ·exact .inr (R2.new x hx).2
 have S5:Zbg h.length h h5:=⟨by omega,fun j hj=>by
  rw [R2.fr.eq j (by omega) (by omega),R1.fr.eq j (by omega) (by omega),s3.eq j (by omega)]; exact S2.eq j hj⟩
 have none_of:(¬ ∃ θ:Nat→Ty,sb Zao θ a=sb Zao θ b)→Zil s t=none:=fun hno=>by
  unfold Zil; rw [ha,hb]; simp only; rw [Zov hno]
 refine (Yam _ (Nat.le_refl _) st.gh ok q1N q2N).mono ?_
 rintro v h6 ⟨o6,hr6⟩
 have fresh:∀ n∈L1 ++ L2,h2.length < n:=fun n hn=>by
  rcases List.mem_append.1 hn with hn | hn
  ·have:=(R1.new n hn).1; omega
  ·have:=(R2.new n hn).1; omega
 have S6:Zbg h.length h h6:=⟨by have:=o6.1; omega,fun j hj=>by
  rw [o6.2 j (by omega) fun hj'=>by have:=fresh j hj'; omega]; exact S5.eq j hj⟩
 rcases hr6 with ⟨rfl,lk,y,g6⟩ | ⟨rfl,no⟩
 ·simp only [Zaf,Bool.not_true,Zas]
  refine (Ydz y.gok g6 q1N).mono ?_
  rintro v h7 ⟨s7,⟨rfl,hno⟩ | ⟨rfl,hT⟩⟩
  ·simp only [Zaf,Bool.not_false,Zbe]
   exact Zob (none_of (w.endless y hno)) (S6.cat s7)
  ·simp only [Zaf,Bool.not_true,Zas]
   obtain ⟨T,hT⟩:=hT G.hd
   have hall:=w.all y hT
   have mg:=w.mgu y hT
   generalize hFd:grF G (L1 ++ L2) lk G.hd=F at mg
   have hu:Zil s t=if Zmf F then some (bdL (Zko F)) else none:=by
    unfold Zil; rw [ha,hb]; simp only; rw [Zph mg]
   have g7:=g6.same s7
   have S7:=S6.cat s7
   obtain ⟨es,clk,hm5,hk,hv,hnd,hlt⟩:=id st.map
   have hm6:h6[h2.length]?=some (.map es clk):=by rw [o6.2 _ (Own.lt hm5) fun hj=>by have:=fresh _ hj; omega]; exact hm5
   have hm7:=s7.get hm6 (Own.lt hm6)
   apply Zbv.J7i
   simp only [Zbi]
   generalize hh8:h7 ++ [Zcj.map [] 0]=h8
   have s8:Zbg h7.length h7 h8:=by rw [← hh8]; exact Zax
   have o8:h8[h7.length]?=some (.map [] 0):=by rw [← hh8]; simp
   have l8:h8.length=h7.length + 1:=by rw [← hh8]; simp
   have hm8:=s8.get hm7 (Own.lt hm7)
   simp only [Zbl,hm8,Yfq]
   generalize hh9:h8 ++ [Zcj.miter (some h2.length) clk [] clk]=h9
   have s9:Zbg h8.length h8 h9:=by rw [← hh9]; exact Zax
   have r9:h9[h8.length]?=some (.miter (some h2.length) clk [] clk):=by rw [← hh9]; simp
   have hm9:=s9.get hm8 (Own.lt hm8)
   have o9:=s9.get o8 (Own.lt o8)
   have S9:=(S7.cat s8).cat s9
   have hml:=Own.lt hm7
   have hvt:∀ p∈sc,∃ x,VT G lk G.hd p.2 x:=fun p hp=>hall _ (st.sin p hp).1
   have hbnd:∀ p∈sc,VT G lk G.hd p.2 (F p.1)∧(F p.1=.k p.1 ↔ lk p.2=none):=fun p hp=>by
    obtain ⟨i1,i2,i3,_⟩:=st.sin p hp
    obtain ⟨x,hx⟩:=hvt p hp
    have:=w.bound y i1 (by rw [i2]; exact i3) hx
    rw [hFd,i2] at this
    rw [this.1]
    exact ⟨hx,this.2⟩
   have hl7:=S7.le
   refine Zyo (Z:=fun _=>False) ((g7.same s8).same s9) y.gok y.cls (fun p hp=>st.sin p hp) (fun p hp=>(hbnd p hp).1) (fun p hp=>(hbnd p hp).2) (fun p hp=>mg.2 p.1 (st.sin p hp).2.2.1) (fun v hv' hg=>?_) hm9 hk hv hnd hlt ⟨_,_,o9⟩ ⟨_,_,_,_,r9⟩ (by omega) (by omega) (by omega)
    (fun m h' rm hb' bo hS K=>?_) (fun h' K hS=>?_) h9 [] (Zfv.refl _ _ _) r9 ⟨[],⟨[],0,o9,rfl,rfl,by simp,by simp⟩,BOk.nil,fun j e c x _ _ hin=>(by cases hin),fun v T hv'=>(by cases hv')⟩
   ·-- a variable of neither type
    rw [← hFd]
    unfold grF
    rw [dif_neg]
    rintro ⟨s',x,hx,hxv,rfl,_⟩
    have key:Znc sc (G.hd x)=some x:=by
     rcases List.mem_append.1 hx with hx | hx
     ·have hh:=(R2.ag x hx).1
      rw [hh] at hxv ⊢
      obtain ⟨r,hr⟩:=R2.ext
      exact (st.sin (G1.hd x,x) (by rw [hr]; exact List.mem_append_left _ (R1.var x hx hxv))).2.2.2
     ·exact (st.sin _ (R2.var x hx hxv)).2.2.2
    rw [hg] at key; cases key
   ·apply Zbv.A9x0i
    refine (Zsv rm bo).mono ?_
    rintro v h10 ⟨s10,ra,rn,rc,re,rfl,hrc,fr⟩
    simp only [Zak]
    have SK:Zbg h.length h h':=⟨by have:=K.1; have:=S9.le; omega,fun j hj=>by
     rw [K.2 j (by have:=S9.le; omega) (by omega) (by omega)]; exact S9.eq j hj⟩
    rw [hS,if_pos rfl] at hu
    rw [Zzp hb'] at fr
    refine ⟨SK.cat s10,ra,rn,rc,re,by rw [hu]; rfl,hrc,?_⟩
    rw [hu]
    exact ⟨fr.1,fr.2.imp id fun ⟨i,hi1,hi2,hi3⟩=>⟨i,hi1,by have:=SK.le; omega,hi3⟩⟩
   ·rw [hS,if_neg (by simp)] at hu
    exact Zob hu ⟨by have:=K.1; have:=S9.le; omega,fun j hj=>by
     rw [K.2 j (by have:=S9.le; omega) (by omega) (by omega)]; exact S9.eq j hj⟩
 ·simp only [Zaf,Bool.not_false,Zbe]
  exact Zob (none_of (w.no no)) S6
end Go.Sim

set_option linter.unusedVariables false
set_option linter.unusedSimpArgs false
set_option maxRecDepth 20000
namespace Go.Sim
open Go Go.RowKit

def Ycl (m:Bd):Bool:=Zcq.all fun v=>match Zea m v with | some t=>decide (t.txt.length≤60) | none=>true
theorem Zwr (F:Nat→Ty):Ycl (Zko F)=Zmf F:=by
 unfold Ycl Zmf
 rw [Bool.eq_iff_iff,List.all_eq_true,List.all_eq_true]
 refine forall_congr' fun v=>forall_congr' fun hv=>?_
 rw [Zlj]
 have hvv:=(Zei v).1 hv
 by_cases e:F v=.k v
 ·simp [e]
 ·simp [e,hvv]
def Yez (m:Bd) (h:Zaa) (v:Zac) (h':Zaa):Prop:=Zbg h.length h h'∧∃ a n c e,v=.tup [.slice a n c e,.bool (Ycl m)]∧n≤c∧Zdv Zap eP h.length h' a n (if Ycl m then bdL m else [])
theorem Zvg {S:Nat→Prop} {h:Zaa} {i:Nat} {m:Bd} (rm:Zmh S h i m) (bo:BOk 4611686018427387904 m) :
  Zad pg Zhz [.ptr (some (i,0))] h fun v h'=>Yez m h v h':=by
 apply Zcs.call
 simp only [Zbi,Zaq]
 generalize hh0:h ++ [Zcj.cells Zap [] false]=h0
 have s0:Zbg h.length h h0:=by rw [← hh0]; exact Zax
 have l0:h0.length=h.length + 1:=by rw [← hh0]; simp
 have o0:h0[h.length]?=some (.cells Zap [] false):=by rw [← hh0]; simp
 refine Zcs.L3ind _ _ (J:=fun (g:Nat) a4 n4 c4 e4 x10 h'=>x10=(g:Int)∧g≤12∧Zbg h.length h h'∧n4=(Zsd m g).length∧n4≤c4∧Vec Zap h' a4 n4 c4 (Zdz eP (Zsd m g))∧(∀ i,a4=some (i,0)→h.length≤i)∧∀ v∈Zcq.take g,∀ t,Zea m v=some t→t.txt.length≤60) (fun g=>12 - g) ?_ 0 _ _ _ _ _ _
  ⟨rfl,by omega,s0,by simp [Zsd],Nat.le_refl _,Vec.mk1 (by simpa [Zsd] using o0),fun i hi=>by cases hi; omega,fun v hv=>by simp at hv⟩
 rintro g a4 n4 c4 e4 x10 h' ⟨rfl,hg,hSm,rfl,hnc,hv,ha,hsm⟩ R hR
 unfold Zcs.L3t
 have hbl:=Yaf m g
 refine Zan (fun hlt=>?_) (fun hge=>?_)
 ·have hg':g < 12:=by omega
  obtain ⟨x,hx1,hx2,hx3⟩:=(rm.same hSm).get hg'
  have il:=(rm.same hSm).lt
  have hx:∃ (d:Nat) (a:Pt) (n c:Nat) (e:Bool),x=(.int .u8 (d:Int),.slice a n c e)∧(match (Zcq[g]?).bind (Zea m) with | some t=>d=t.hd | none=>d=0):=by
   split at hx3
   ·rename_i t ht
    obtain ⟨ua,uc,ue,hu⟩:=hx3.shape
    simp only [List.cons.injEq,and_true] at hu
    exact ⟨t.hd,ua,t.ps.length,uc,ue,by rw [← hu.1,← hu.2],by first | rfl | rw [ht]⟩
   ·rename_i hn; exact ⟨0,none,0,0,true,hx3,by first | rfl | rw [hn]⟩
  obtain ⟨d,ua,un,uc,ue,rfl,hd⟩:=hx
  simp only [Int.toNat_natCast,hx2,Zaq,Zay,Zai,Zat,Zae,Zak,Zbi]
  generalize hq:h' ++ [Zcj.cells Zab [.int .u8 0,.slice none 0 0 true] false]=hq'
  have sq:Zbg h'.length h' hq':=by rw [← hq]; exact Zax
  have hrq:Zcl hq' (.ptr (some (i,0 + g * 2))) 2=some [.int .u8 (d:Int),.slice ua un uc ue]:=by
   rw [← hx2]; simp only [Zcl,sq.eq i il]
  rw [hrq,← hq,Zlu]
  generalize hw:h' ++ [Zcj.cells Zab [.int .u8 (d:Int),.slice ua un uc ue] false]=hw'
  have sw:Zbg h'.length h' hw':=by rw [← hw]; exact Zax
  have ow:hw'[h'.length]?=some (.cells Zab [.int .u8 (d:Int),.slice ua un uc ue] false):=by rw [← hw]; simp
  simp only [Zau,Zag ow,Nat.zero_add,List.getElem?_cons_zero,Zae,true_and]
  have SW:=hSm.cat sw
  have hsuc:=Zzq m g
  have step:(∀ v t,Zcq[g]?=some v→Zea m v=some t→t.txt.length≤60)→∀ v∈Zcq.take (g + 1),∀ t,Zea m v=some t→t.txt.length≤60:=fun hs v hv t ht=>by
   rw [List.take_succ,List.mem_append] at hv
   rcases hv with hv | hv
   ·exact hsm v hv t ht
   ·exact hs v t (by simpa using hv) ht
  have skip:(Zcq[g]?).bind (Zea m)=none→Zcs.J9 (fun v h'=>Yez m h v h') R (g:Int) (some (i,0)) a4 (Zsd m g).length c4 e4 hw':=by
   intro hn
   have hsame:Zsd m (g + 1)=Zsd m g:=by
    rw [hsuc]
    cases hvg:Zcq[g]? with
    | none=>simp
    | some v=>rw [hvg,Option.bind_some] at hn; simp [hn]
   apply Zcs.J9i
   rw [Zcm (by omega)]
   exact hR (g + 1) _ _ _ _ _ _ (by omega) ⟨rfl,by omega,SW,by rw [hsame],hnc,by rw [hsame]; exact hv.same sw,ha,step fun v t h1 h2=>by rw [h1,Option.bind_some,h2] at hn; cases hn⟩
  refine ⟨by omega,?_⟩
  cases hb:(Zcq[g]?).bind (Zea m) with
  | none=>
   rw [hb] at hd
   simp only at hd
   subst hd
   simp only [show (((0:Nat):Int) == 0)=true from rfl,Zbe]
   exact skip hb
  | some t=>
   rw [hb] at hd hx3
   simp only at hd hx3
   obtain ⟨v,hvg,hbv⟩:=Option.bind_eq_some_iff.1 hb
   have hu:=bo.var _ (Zmv hbv)
   have hg6:g < 6:=(List.getElem?_eq_some_iff.1 hvg).1
   have hd0:((d:Int) == 0)=false:=by
    have:=Zzg hu.2.1
    have hne:t.hd≠0:=fun e=>by rw [e] at this; simp at this
    simp; omega
   rw [show decide ((g:Int) ≥ 6)=false by simp; omega]
   simp only [hd0,Zas]
   apply Zcs.J6i
   rw [← hw,Zzx,hw]
   simp only [Zay,Zai,Zat,Zae,Zak]
   refine (Znq _ (Nat.le_refl _) hu.2.2 (hx3.same sw)).mono ?_
   rintro v' h3 ⟨rfl,s3⟩
   have o3:=s3.get ow (Own.lt ow)
   simp only [Zae]
   refine Zan (fun hbig=>?_) (fun hle60=>?_)
   ·have:Ycl m=false:=by
     unfold Ycl
     rw [List.all_eq_false]
     exact ⟨v,List.mem_of_getElem? hvg,by rw [hbv]; simp; omega⟩
    refine ⟨(SW.cat s3).cat Zax,_,0,0,true,by rw [this],Nat.le_refl _,?_⟩
    rw [this]; exact ⟨rfl,.inl rfl⟩
   have hu2:t.txt.length≤60:=by omega
   simp only [Zhc o3 (show 0 + 2≤_ by simp),List.drop_zero,List.take_succ_cons,List.take_zero,Zay,Zai,Zat,Zae,Zak]
   rw [Zcm (by omega),show (((g + 1:Nat):Int))=(g:Int) + 1 by omega,Yav hvg]
   refine ⟨⟨by omega,by omega,by simp; omega⟩,(Zri _ (Nat.le_refl _) (Nat.le_trans hu2 (by decide)) hu.2.1 ((hx3.same sw).same s3)).mono ?_⟩
   rintro v' h4 ⟨rfl,s4⟩
   simp only [Zba,Zbi]
   have S4:=(SW.cat s3).cat s4
   refine (((hv.same sw).same s3).same s4).pushN Zof Zrk Zqw Zql (by rw [Zbj Zgx]) rfl (by omega) rfl (by omega) (fun h6 hl6 hi6 hk6=>?_)
   simp only [Zak]
   apply Zcs.J9i
   rw [Zcm (by omega)]
   have hle:=S4.le
   have hs':Zsd m (g + 1)=Zsd m g ++ [([v],t.txt)]:=by rw [hsuc,hvg]; simp [hbv]
   refine hR (g + 1) _ _ _ _ _ _ (by omega) ⟨rfl,by omega,⟨by omega,fun j hj=>?_⟩,by rw [hs']; simp,Nat.le_refl _,Vec.mk1 ?_,fun i hi=>by cases hi; omega,step fun v' t' h1 h2=>by rw [hvg] at h1; cases h1; rw [hbv] at h2; cases h2; exact hu2⟩
   ·rw [hk6 j (by omega) fun i hi=>by have:=ha i hi; omega]; exact S4.eq j hj
   ·rw [hi6,hs',Zho]; rfl
 ·apply Zcs.A3x0i
  have:g=12:=by omega
  subst this
  have hb12:Zsd m 12=bdL m:=by unfold Zsd bdL; rw [List.take_of_length_le (by decide)]
  rw [hb12] at hv hnc ⊢
  have hsmall:Ycl m=true:=by
   unfold Ycl
   rw [List.all_eq_true]
   intro v hvv
   cases hbv:Zea m v with
   | none=>rfl
   | some t=>simpa using hsm v (by rw [List.take_of_length_le (by decide)]; exact hvv) t hbv
  refine ⟨hSm,a4,_,c4,e4,by rw [hsmall],hnc,?_⟩
  rw [hsmall]
  exact hv.fresh (b:=h.length) rfl fun i hi=>ha i hi
theorem Yfc {σ:Nat→Option Ty} {F:Nat→Ty} (rs:Rsv V12 σ F) (hσ:∀ c t,σ c=some t→(Ty.k c).ok=true) {S:Nat→Prop} {h:Zaa} {i:Nat} (r:Zjt S h i (tg σ F 12)):Zmh S h i (Zko F):=by
 obtain ⟨rows,h1,h2,h3⟩:=r
 refine ⟨rows,h1,h2,fun k x hx=>?_⟩
 have hk:k < 12:=by rw [← h1]; exact (List.getElem?_eq_some_iff.1 hx).1
 obtain ⟨v,hv⟩:∃ v,Zdh[k]?=some v:=⟨_,List.getElem?_eq_getElem (show k < Zdh.length from hk)⟩
 have hvv:=Zzn hv
 have:=h3 k x v hx hv
 have hrk:Zit v < 12:=by
  obtain ⟨k',hk',_,hix⟩:=Zhg hvv
  unfold Zit; rw [hix]; simpa using hk'
 have hfr:=rs.free hvv
 have heq:(Zcq[k]?).bind (Zea (Zko F))=tg σ F 12 v:=by
  by_cases hk6:k < 6
  ·have hvn:Zcq[k]?=some v:=by
    rw [← hv]
    match k,hk6 with
    | 0,_ | 1,_ | 2,_ | 3,_ | 4,_ | 5,_=>rfl
   have hown:Zao v=true:=(Zei v).1 (List.mem_of_getElem? hvn)
   rw [hvn,Option.bind_some,Zlj]
   unfold tg
   by_cases hs:σ v=none
   ·rw [if_neg fun hc=>hc.2 (hfr.2 hs),if_neg fun hc=>hc.2.2 hs]
   ·rw [if_pos ⟨hown,fun e=>hs (hfr.1 e)⟩,if_pos ⟨hvv,hrk,hs⟩]
  ·have hvn:Zcq[k]?=none:=List.getElem?_eq_none (by show 6≤k; omega)
   rw [hvn,Option.bind_none]
   unfold tg
   rw [if_neg]
   rintro ⟨_,_,hs⟩
   cases hsv:σ v with
   | none=>exact hs hsv
   | some t=>
    have hok:=hσ v t hsv
    have:Zsx v=true:=by
     match k,hk,hk6 with
     | 6,_,_ | 7,_,_ | 8,_,_ | 9,_,_ | 10,_,_ | 11,_,_=>simp [Zdh] at hv; subst hv; rfl
    rw [Znw hok] at this; cases this
 rw [heq]
 exact this
theorem Yey {c:Nat} (h:Zao c=true):Zda c=true:=by
 unfold Zda; simp [h]
theorem Yai {c d:Nat} (hc:Zao c=true) (hd:Zao d=true) (h:Zit c < Zit d):c < d:=by
 have h1:=(Zei c).2 hc
 have h2:=(Zei d).2 hd
 simp only [Zcq,List.mem_cons,List.not_mem_nil,or_false] at h1 h2
 rcases h1 with rfl | rfl | rfl | rfl | rfl | rfl <;> rcases h2 with rfl | rfl | rfl | rfl | rfl | rfl <;> first | decide | exact absurd h (by decide)
theorem Zyn {a b:Ty} (ha:a.ok=true) (hb:b.ok=true) {σ:Nat→Option Ty} {F:Nat→Ty} (rs:Rsv V12 σ F) (hS:∀ θ,Sol V12 σ θ ↔ sb V12 θ a=sb V12 θ b) (hi:Inc Zit V12 σ) (hσ:∀ c t,σ c=some t→(Ty.k c).ok=true∧t.ok=true∧t.size≤60) :
  Zwf a b=some F∧∀ c,Zao c=true→(F c).ok=true∧(F c).txt.length≤4611686018427387904:=by
 have hv:∀ c t,σ c=some t→Zao c=true:=fun c t h=>by
  have h1:=rs.dom c t h
  have h2:=Znw (hσ c t h).1
  unfold V12 at h1; rw [h2,Bool.or_false] at h1; exact h1
 have r:Rsv Zao σ F:=⟨hv,rs.non,fun c t h=>by rw [rs.som c t h,Zju F (hσ c t h).2.1],rs.wlk⟩
 have hok:∀ c,Zao c=true→(F c).ok=true:=fun c hc=>by
  rw [← Zlt]
  exact r.okF (fun d hd=>Yey hd) (fun d t h=>by rw [Zlt]; exact (hσ d t h).2.1) _ c (Nat.le_refl _) hc
 refine ⟨Zph ⟨MGU.of_res r (fun c d h hd=>?_) fun θ=>?_,hok⟩,fun c hc=>⟨hok c hc,?_⟩⟩
 ·exact Yai (hv c _ h) hd (hi c d h (by simp [V12,hd]))
 ·rw [← Zju θ ha,← Zju θ hb,← hS θ]
  constructor
  ·intro h c t hc; rw [h c t hc,Zju θ (hσ c t hc).2.1]
  ·intro h c t hc; rw [h c t hc,Zju θ (hσ c t hc).2.1]
 ·have:=Ydl r (fun c t h=>(hσ c t h).2.2) hc
  have h2:=Zmi (F c)
  have:(60:Nat) ^ 7=2799360000000:=by decide
  omega
theorem BOk.unifN {F:Nat→Ty} {n:Nat} (h:∀ c,Zao c=true→(F c).ok=true∧(F c).txt.length≤n):BOk n (Zko F):=by
 refine ⟨fun p hp=>?_,?_⟩
 ·unfold Zko at hp
  obtain ⟨v,hv,rfl⟩:=List.mem_map.1 hp
  rw [List.mem_filter] at hv
  have hvv:=(Zei v).1 hv.1
  exact ⟨hvv,h v hvv⟩
 ·have:(Zko F).map (·.1)=Zcq.filter fun v=>decide (F v≠.k v):=by unfold Zko; rw [List.map_map]; simp [Function.comp_def]
  rw [this]; exact Zgn.filter _
theorem Zoo (s t:List Nat) (hs0:s.length≤1048576) (ht0:t.length≤1048576) (h:Zaa):Zad pg Zfn [.str s,.str t] h (Yfz s t h):=by
 apply Zfp.call
 refine (Zrp s (by omega) h).mono ?_
 rintro v h1 ⟨s1,vs1,rfl,r1⟩
 obtain ⟨d1,a1,n1,c1,e1,rfl⟩:=Zpi r1
 simp only [Zes,Zai,Zft,Zae,Zak,Zat,Zaf,Zbi]
 rw [Zlu]
 generalize hh2:h1 ++ [Zcj.cells Zab [.int .u8 d1,.slice a1 n1 c1 e1] false]=h2
 have s2:Zbg h1.length h1 h2:=by rw [← hh2]; exact Zax
 have o2:h2[h1.length]?=some (.cells Zab [.int .u8 d1,.slice a1 n1 c1 e1] false):=by rw [← hh2]; simp
 simp only [Zau]
 refine (Zrp t (by omega) h2).mono ?_
 rintro v h3 ⟨s3,vs3,rfl,r3⟩
 obtain ⟨d3,a3,n3,c3,e3,rfl⟩:=Zpi r3
 simp only [Zes,Zai,Zft,Zae,Zak,Zat,Zaf]
 rw [Zlu]
 generalize hh4:h3 ++ [Zcj.cells Zab [.int .u8 d3,.slice a3 n3 c3 e3] false]=h4
 have s4:Zbg h3.length h3 h4:=by rw [← hh4]; exact Zax
 have o4:h4[h3.length]?=some (.cells Zab [.int .u8 d3,.slice a3 n3 c3 e3] false):=by rw [← hh4]; simp
 simp only [Zau]
 have S2:=s1.cat s2
 have S4:=(S2.cat s3).cat s4
 have o24:=s4.get (s3.get o2 (Own.lt o2)) (by have:=Own.lt o2; have:=s3.le; omega)
 have no:∀ hz,Zil s t=none→Zbg h.length h hz→Yfz s t h (.tup [.slice (some (hz.length,0)) 0 0 true,.bool false]) (hz ++ [Zcj.cells Zap [] false]):=fun hz hn S=>
  ⟨S.cat Zax,_,0,0,true,by rw [hn]; rfl,Nat.le_refl _,by rw [hn]; exact ⟨rfl,.inl rfl⟩⟩
 cases hp:Zgh s with
 | none=>
  have:Ztr s=false:=by unfold Ztr; rw [hp]; rfl
  rw [this]
  simp only [Bool.not_false,Zbe]
  exact no _ (Zms (by rw [this]; rfl)) S4
 | some a=>
  rw [Zps hp]
  simp only [Bool.not_true,Zas]
  cases ht:Zgh t with
  | none=>
   have:Ztr t=false:=by unfold Ztr; rw [ht]; rfl
   rw [this]
   simp only [Bool.not_false,Zbe]
   exact no _ (Zms (by rw [this]; simp)) S4
  | some b=>
   rw [Zps ht]
   rw [hp] at r1
   rw [ht] at r3
   simp only at r1 r3
   obtain ⟨ha1,ha2,ha3⟩:=Zgm.1 hp
   obtain ⟨hb1,hb2,hb3⟩:=Zgm.1 ht
   simp only [Bool.not_true,Zas]
   apply Zfp.J5i
   rw [Zdg o24,Zdg o4]
   simp only [Zay,Zai,Zat,Zae,Zak,true_and]
   have l1:=s1.le; have l2:=s2.le; have l3:=s3.le; have l4:=s4.le
   have za:a.size≤60:=Nat.le_trans (Zkf a) (by rw [← ha2]; exact ha3)
   have zb:b.size≤60:=Nat.le_trans (Zkf b) (by rw [← hb2]; exact hb3)
   refine (Zwj (P:=fun t=>t.ok=true∧t.size≤60) (fun t h=>Zml (lf:=Zda) (fun c hc=>by unfold Zma; rw [hc]; rfl) (by rw [Zlt]; exact h.1)) (fun t h p hp=>⟨by rw [← Zlt]; exact Zzr (by rw [Zlt]; exact h.1) p hp,by have:=Ty.size_part hp; have:=h.2; omega⟩) (S:=fun j=>j < h4.length) (fun j hj=>hj) ⟨ha1,za⟩ ⟨hb1,zb⟩ ((((r1.same s2).same s3).same s4).below.mono fun j hj=>hj.2) ((r3.same s4).below.mono fun j hj=>hj.2)).mono ?_
   rintro v h6 ⟨s6,q,bl,rfl,hres⟩
   simp only [Zes,Zai,Zbt,Zaf,Zat]
   have S6:=S4.cat s6
   rcases hres with ⟨rfl,σ,F,rs,hsol,hi,hσ,S',hS',m6⟩ | ⟨rfl,hno⟩
   ·obtain ⟨hu,hF⟩:=Zyn ha1 hb1 rs hsol hi fun c t h=>⟨(hσ c t h).1.1,(hσ c t h).2.1,(hσ c t h).2.2⟩
    simp only [Bool.not_true,Zas]
    refine (Zvg (Yfc rs (fun c t h=>(hσ c t h).1.1) m6) (BOk.unifN hF)).mono ?_
    rintro v h7 ⟨s7,a7,n7,c7,e7,rfl,hc7,f7⟩
    simp only [Zes,Zai,Zak,Zaf,Zat]
    have hr:Zil s t=if Zmf F then some (bdL (Zko F)) else none:=by
     unfold Zil; rw [hp,ht]; simp only; rw [hu]
    rw [Zwr] at f7 ⊢
    refine ⟨S6.cat s7,a7,n7,c7,e7,?_,hc7,?_⟩
    ·rw [hr]; cases Zmf F <;> rfl
    ·have:(Zil s t).getD []=if Zmf F then bdL (Zko F) else []:=by rw [hr]; cases Zmf F <;> rfl
     rw [this]
     exact ⟨f7.1,f7.2.imp id fun ⟨i,ha,hb,hi⟩=>⟨i,ha,by have:=S6.le; omega,hi⟩⟩
   ·simp only [Bool.not_false,Zbe]
    refine no _ ?_ S6
    unfold Zil; rw [hp,ht]; simp only
    rw [Zov]
    rintro ⟨θ,h⟩
    rw [← Zju θ ha1,← Zju θ hb1] at h
    exact hno θ h
theorem Zze {s t:List Nat} {l:List Nd} (hu:Zil s t=some l):l.length≤6:=by
 unfold Zil at hu
 split at hu
 ·split at hu
  ·split at hu
   ·cases hu; exact Ydt _
   ·cases hu
  ·cases hu
 ·cases hu
end Go.Sim

set_option linter.unusedVariables false
set_option linter.unusedSimpArgs false
set_option maxRecDepth 20000
namespace Go.Sim
open Go Go.RowKit
theorem Zxr {h:Zaa} {c t c' t':List Nat} :
  Zad pg Zfx [.agg [.str c,.str t],.agg [.str c',.str t']] h fun v h'=>v=.bool (decide (c=c') && decide (t=t'))∧Zbg h.length h h':=by
 apply Zie.call
 simp only [Zbi]
 simp [Zaj]
 by_cases e1:c=c' <;> by_cases e2:t=t' <;> simp [e1,e2] <;> exact Zbg.app (Nat.le_refl _) _
theorem Zpb {h:Zaa} {a0 a1:Pt} {n0 n1 c0 c1:Nat} {e0 e1:Bool} {l0 l1:List (List Nat × List Nat)} (r0:Row h.length h a0 (n0 * 2) (prs l0)) (r1:Row h.length h a1 (n1 * 2) (prs l1)) (hn:n0≤4611686018427387904) (heq:l0=l1) :
  Zad pg Zeo [.slice a0 n0 c0 e0,.slice a1 n1 c1 e1] h fun v h'=>v=.bool true∧Zbg h.length h h':=by
 subst heq
 have hl0:l0.length=n0:=by have:=r0.1; rw [Zlq] at this; omega
 have hl1:l0.length=n1:=by have:=r1.1; rw [Zlq] at this; omega
 have:n1=n0:=by omega
 subst this
 apply Zdl.call
 simp only [beq_self_eq_true,Bool.not_true,Zas]
 refine Zdl.L4ind _ _ _ _ _ _ _ _ _ (J:=fun (k:Nat) x5 h'=>Zbg h.length h h'∧x5=(k:Int)∧k≤n1) (fun k=>n1 - k) ?_ 0 0 h ⟨Zbg.refl _ _,rfl,by omega⟩
 rintro k x5 h' ⟨hs,rfl,hk⟩ R hR
 unfold Zdl.L4t
 refine Zan (fun hlt=>?_) (fun hge=>Zdl.A4x0i _ _ ⟨rfl,hs⟩)
 have hlt':k < n1:=by omega
 obtain ⟨i,o,hgl,rfl,_,hc0⟩:=(r0.same hs).pair hlt'
 obtain ⟨i',o',_,rfl,_,hc1⟩:=(r1.same hs).pair hlt'
 simp only [Zaq,Int.toNat_natCast,hc0,hc1,Zay,Zai,Zat,Zba,true_and]
 refine ⟨⟨by omega,by omega⟩,⟨by omega,by omega⟩,Zxr.mono fun v h1 ⟨hv,hs1⟩=>?_⟩
 subst hv
 simp only [Zaf,decide_true,Bool.and_self,Bool.not_true,Zas]
 rw [Zzu hlt' (by omega)]
 exact hR (k + 1) _ _ (by omega) ⟨hs.trans (hs1.mono hs.le),rfl,by omega⟩

theorem Zrz {h:Zaa} {b:Nat} {a:Pt} {n c:Nat} {e:Bool} {l:List Nd} {k:Int} (f:Zdv Zap eP b h a n l) (hk:0≤k∧k + 2 * n≤4611686018427387000) :
  Zad pg Zew [.slice a n c e,.int .i64 k] h fun v h'=>v=.int .i64 (k + 2 * n)∧Zvq a n h h'∧Zdv Zap eP b h' a n (Zis k n):=by
 apply Zcw.call
 obtain ⟨hl,hf⟩:=f
 refine Zcw.L2ind _ _ _ _ _ (J:=fun (g:Nat) x1 x5 h'=>x5=(g:Int)∧g≤n∧x1=k + 2 * g∧Zvq a n h h'∧(n=0 ∨ ∃ i,a=some (i,0)∧b≤i∧h'[i]?=some (.cells Zap (Zdz eP (Zis k g ++ l.drop g)) false))) (fun g=>n - g) ?_ 0 _ _ _
  ⟨rfl,by omega,by simp,Zvq.refl _ _ _,by simpa [Zis] using hf⟩
 rintro g x1 x5 h' ⟨rfl,hg,rfl,hO,hst⟩ R hR
 unfold Zcw.L2t
 refine Zan (fun hlt=>?_) (fun hge=>?_)
 ·rcases hst with h0 | ⟨i,rfl,hbi,ho⟩
  ·omega
  have hn0:n≠0:=by omega
  have hgl:g < (Zis k g ++ l.drop g).length:=by simp [Zgt]; omega
  have hlen:(Zdz eP (Zis k g ++ l.drop g)).length=n * 2:=by rw [Zbj Zgx]; simp [Zgt]; omega
  refine (Zhv (by omega)).mono ?_
  rintro v h1 ⟨rfl,s1⟩
  simp only [Zba,Zaq,Int.toNat_natCast,Nat.zero_add,Nat.add_zero]
  have ho1:h1[i]?=some (.cells Zap (Zdz eP (Zis k g ++ l.drop g)) false):=by rw [s1.eq i (Own.lt ho)]; exact ho
  rw [Zbd ho1 (by rw [hlen]; simp; omega)]
  simp only [Zau]
  refine ⟨by omega,(Zhv (by rw [IntWalk.i64_in _ (by omega)]; omega)).mono ?_⟩
  rintro v h2 ⟨rfl,s2⟩
  simp only [Zba]
  rw [IntWalk.i64_in (k + 2 * (g:Int) + 1) (by omega)]
  have ho2:h2[i]?=some (.cells Zap (putRow (Zdz eP (Zis k g ++ l.drop g)) (g * 2) [.str (Zlh (k + 2 * g))]) false):=by rw [s2.eq i (by simp; exact Own.lt ho1)]; exact Zca ho1
  have hlen2:(putRow (Zdz eP (Zis k g ++ l.drop g)) (g * 2) [.str (Zlh (k + 2 * g))]).length=n * 2:=by rw [Zpx (by rw [hlen]; simp; omega),hlen]
  rw [Zbd ho2 (by rw [hlen2]; simp; omega)]
  simp only [Zau]
  rw [IntWalk.i64_in _ (by omega),Zcm (by omega)]
  refine ⟨by omega,hR (g + 1) _ _ _ (by omega) ⟨rfl,by omega,by omega,((hO.same s1).set hn0 |>.same s2).set hn0,.inr ⟨i,rfl,hbi,?_⟩⟩⟩
  rw [Zca ho2,Yef hgl]
  congr 3
  rw [List.take_left' (Zgt k g),Zvo]
  have:(Zis k g ++ l.drop g).drop (g + 1)=l.drop (g + 1):=by
   rw [← List.drop_drop,List.drop_left' (Zgt k g),List.drop_drop]
  rw [this]; simp
 ·have:g=n:=by omega
  subst this
  apply Zcw.A2x0i
  refine ⟨rfl,hO,Zgt _ _,?_⟩
  rw [List.drop_of_length_le (by omega),List.append_nil] at hst
  exact hst
theorem Zlz {h:Zaa} {a:Pt} {n c:Nat} {e:Bool} {k:Int} (r:Row h.length h a (n * 2) (Zdz eP (Zis k n))) (hk:0≤k∧k + 2 * n≤4611686018427387000) :
  Zad pg Zdo [.slice a n c e,.int .i64 k] h fun v h'=>v=.int .i64 (k + 2 * n)∧Zbg h.length h h':=by
 apply Zcy.call
 refine Zcy.L2ind _ _ _ _ _ (J:=fun (g:Nat) x1 x5 h'=>x5=(g:Int)∧g≤n∧x1=k + 2 * g∧Zbg h.length h h') (fun g=>n - g) ?_ 0 _ _ _ ⟨rfl,by omega,by simp,Zbg.refl _ _⟩
 rintro g x1 x5 h' ⟨rfl,hg,rfl,hS⟩ R hR
 unfold Zcy.L2t
 refine Zan (fun hlt=>?_) (fun hge=>?_)
 ·obtain ⟨i,o,hgl,rfl,hi,_,hc⟩:=Row.el Zgx (r.same hS) (Zgt k n) (k:=g) (by omega) (by omega)
  rw [Zwu k (by omega)] at hc
  have c0:=hc 0 (by omega)
  have c1:=hc 1 (by omega)
  simp only [eP,List.getElem?_cons_zero,List.getElem?_cons_succ] at c0 c1
  simp only [Zaq,Int.toNat_natCast,c0,Zba]
  refine ⟨by omega,(Zhv (by omega)).mono ?_⟩
  rintro v h1 ⟨rfl,s1⟩
  have hl:=hS.le
  simp only [Zba]
  have c01:=(s1.mono hl).cell (by omega) c0
  have c11:=(s1.mono hl).cell (by omega) c1
  refine ⟨c01,?_⟩
  simp only [decide_true,Bool.not_true,Zas,Zaq,c11,Zba]
  refine ⟨by omega,(Zhv (by rw [IntWalk.i64_in _ (by omega)]; omega)).mono ?_⟩
  rintro v h2 ⟨rfl,s2⟩
  rw [IntWalk.i64_in (k + 2 * (g:Int) + 1) (by omega)]
  simp only [Zba,decide_true,Bool.not_true,Zas]
  have S1:=hS.trans (s1.mono hl)
  have c12:=(s2.mono S1.le).cell (by omega) c11
  rw [IntWalk.i64_in _ (by omega),Zcm (by omega)]
  exact ⟨c12,hR (g + 1) _ _ _ (by omega) ⟨rfl,by omega,by omega,S1.trans (s2.mono S1.le)⟩⟩
 ·have:g=n:=by omega
  subst this
  exact Zcy.A2x0i _ _ _ ⟨rfl,hS⟩

theorem lawUnifyTypes {h:Zaa} {s t:List Nat} (hbs:∀ b∈s,b < 256) (hbt:∀ b∈t,b < 256):Zad pg Zez [.str s,.str t] h fun v _=>v=.bool true:=by
 apply Zcn.call
 refine Zan (fun _=>rfl) (fun hle=>?_)
 refine Zan (fun _=>rfl) (fun hle2=>?_)
 have hs:s.length≤1048576:=by omega
 have ht:t.length≤1048576:=by omega
 generalize hL:(Zil s t).getD []=L
 have hn:L.length≤6:=by
  rw [← hL]
  cases hu:Zil s t with
  | none=>simp
  | some l=>exact Zze hu
 refine (Zoo s t hs ht h).mono ?_
 rintro v h1 ⟨s1,a1,n1,c1,e1,rfl,hc1,f1⟩
 simp only [Zes,Zai,Zak,Zaf,Zat]
 refine (Zkg s t h1).mono ?_
 rintro v h2 ⟨s2,a2,n2,c2,e2,rfl,hc2,f2⟩
 rw [hL] at f1 f2
 simp only [Zes,Zai,Zak,Zaf,Zat]
 have g1:=(f1.same s2).row Zgx
 have m1:=f1.1
 have m2:=f2.1
 refine (Zpb (f2.row Zgx) g1 (by omega) rfl).mono ?_
 rintro v h3 ⟨rfl,s3⟩
 simp only [Zaf,Bool.not_true,Zas,beq_self_eq_true]
 apply Zcn.J9i
 refine (Zrz (f2.same s3) (k:=1) (by omega)).mono ?_
 rintro v h4 ⟨rfl,o4,f4⟩
 simp only [Zae]
 refine (Zlz (f4.row Zgx) (by omega)).mono ?_
 rintro v h5 ⟨rfl,s5⟩
 simp only [Zae]
 rw [show decide ((1 + 2 * (n2:Int)) < 0)=false by simp; omega]
 simp only [Zas,beq_self_eq_true,Bool.not_true]
 refine (Zkg s t h5).mono ?_
 rintro v h6 ⟨s6,a6,n6,c6,e6,rfl,hc6,f6⟩
 rw [hL] at f6
 simp only [Zes,Zai,Zak,Zaf,Zat]
 have m6:=f6.1
 have o5:=o4.same s5
 have r1:Row h1.length h1 a1 (n1 * 2) (Zdz eP L):=f1.row Zgx
 have r1':Row h1.length h3 a1 (n1 * 2) (Zdz eP L):=(r1.same s2).same (s3.mono s2.le)
 have r5:Row h1.length h5 a1 (n1 * 2) (Zdz eP L):=r1'.only o5 fun i hi hn=>by
  rcases f2.2 with h0 | ⟨j,ha,hbj,_⟩
  ·exact absurd h0 hn
  ·rw [hi] at ha; cases ha; exact hbj
 have le15:h1.length≤h5.length:=by have:=s2.le; have:=s3.le; have:=o5.1; omega
 have r6:Row h6.length h6 a1 (n1 * 2) (Zdz eP L):=(r5.same (s6.mono le15)).mono (by have:=s6.le; omega)
 refine (Zpb (f6.row Zgx) r6 (by omega) rfl).mono ?_
 rintro v h7 ⟨rfl,s7⟩
 simp only [Zaf,Bool.not_true,Zas,beq_self_eq_true]
 apply Zcn.J20i
 have r7:=(((f4.row Zgx).same s5).mono s5.le |>.same s6).mono s6.le |>.same s7 |>.mono s7.le
 refine (Zlz r7 (by omega)).mono ?_
 rintro v h8 ⟨rfl,s8⟩
 simp only [Zae]
 rw [show decide ((1 + 2 * (n2:Int)) < 0)=false by simp; omega]
 simp only [Zas,beq_self_eq_true,Bool.not_true]
end Go.Sim
