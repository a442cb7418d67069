/- A part of the proof of a statement of this seat: see the text that holds the theorem. No condition. -/
import Derived.Test.YtdglddliggejdaaPTCGrS
import Derived.Test.YtdglddliggejdaaCUni
import Derived.Test.YtdglddliggejdaaPTCParse
import Derived.Test.YtdglddliggejdaaCMost
set_option linter.unusedVariables false
set_option linter.unusedSimpArgs false
set_option linter.all false
set_option linter.unusedVariables false
set_option linter.unusedSimpArgs false
set_option maxRecDepth 20000
namespace Go.Sim
open Go Go.RowKit

theorem Ycr {es:List ME} {seen:List Nat} {e:ME} (he:e∈es) (hn:e.2.2 ∉ seen):es.countP (fun x=>decide (x.2.2 ∉ seen ++ [e.2.2])) < es.countP (fun x=>decide (x.2.2 ∉ seen)):=by
 have key:∀ L:List ME,e∈L→L.countP (fun x=>decide (x.2.2 ∉ seen ++ [e.2.2])) < L.countP (fun x=>decide (x.2.2 ∉ seen)):=by
  intro L hL
  induction L with
  | nil=>cases hL
  | cons n L ih=>
   have hm:L.countP (fun x=>decide (x.2.2 ∉ seen ++ [e.2.2]))≤L.countP (fun x=>decide (x.2.2 ∉ seen)):=List.countP_mono_left fun x _ h=>by
    simp only [decide_eq_true_eq,List.mem_append,not_or] at h ⊢; exact h.1
   rw [List.countP_cons,List.countP_cons]
   rcases List.mem_cons.1 hL with rfl | hL
   ·rw [if_neg (by simp),if_pos (by simpa using hn)]; omega
   ·have:=ih hL
    by_cases h1:n.2.2∈seen ++ [e.2.2]
    ·rw [if_neg (by rw [decide_eq_true_eq]; exact fun h=>h h1)]; split <;> omega
    ·have h2:n.2.2 ∉ seen:=fun h=>h1 (List.mem_append_left _ h)
     rw [if_pos (by rw [decide_eq_true_eq]; exact h1),if_pos (by rw [decide_eq_true_eq]; exact h2)]; omega
 exact key es he
theorem Zqb:∀ {m:Bd} {p:Nat × Ty},p∈m→∃ T,Zcn m p.1=some T
 | (w,u) :: m,p,h=>by
  simp only [Zcn]
  by_cases e:w=p.1
  ·exact ⟨u,by rw [if_pos e]⟩
  ·rw [if_neg e]
   refine Zqb ((List.mem_cons.1 h).resolve_left fun h=>?_)
   subst h; exact e rfl
theorem Zzq {Q:QT} {h0:Zaa} {G:Gr} {N:List Nat} {lk:Nat→Option Nat} {Z:Nat→Prop} {sc:List (Nat × Nat)} {mi mo r clk:Nat} {es:List ME} {F:Nat→Ty} (g:GH h0 G N lk Z) (ok:GOk G N lk) (cl:Cls G N lk)
  (hsc:∀ p∈sc,p.2∈N∧G.hd p.2=p.1∧Zag p.1=true∧Zqf sc p.1=some p.2) (hF:∀ p∈sc,VT G lk G.hd p.2 (F p.1)) (hFk:∀ p∈sc,(F p.1=.k p.1 ↔ lk p.2=none)) (hFok:∀ p∈sc,(F p.1).ok=true)
  (hFo:∀ v,Zag v=true→Zqf sc v=none→F v=.k v) (hm:h0[mi]?=some (.map es clk)) (hk:es.map (·.1)=sc.map (fun p=>Zac.str [p.1])) (hv:es.map (·.2.1)=sc.map (fun p=>Zac.ptr (some (p.2,0)))) (hnd:(es.map (·.2.2)).Nodup) (hlt:∀ e∈es,e.2.2 < clk)
  (hmo:∃ es' k',h0[mo]?=some (.map es' k')) (hr0:∃ a b c d,h0[r]?=some (.miter a b c d)) (hne1:mi≠mo) (hne2:mi≠r) (hne3:mo≠r)
  (hyes:∀ m h',Ybl h' mo m→(∀ v,Zcn m v=Zcn (Zhx F) v)→BOk 60 m→Zmg F=true→Zgh mo r h0 h'→Zbz.A9x0 Q (some mo) h') (hno:∀ h',Zgh mo r h0 h'→Zmg F=false→Q (.tup [.slice none 0 0 true,.bool false]) h') :
  ∀ (h:Zaa) (seen:List Nat),Zgh mo r h0 h→h[r]?=some (.miter (some mi) clk seen clk)→(∃ m,Ybl h mo m∧BOk 60 m∧(∀ (j:Nat) (e:ME) (c x:Nat),es[j]?=some e→sc[j]?=some (c,x)→e.2.2∈seen→lk x≠none→Zcn m c=some (F c))∧∀ v T,Zcn m v=some T→T=F v∧∃ x,(v,x)∈sc∧lk x≠none) →
   Zbz.L9 Q (some mo) r h:=by
 intro h seen hK hr hm0
 refine Zbz.L9ind (J:=fun (seen:List Nat) h=>Zgh mo r h0 h∧h[r]?=some (.miter (some mi) clk seen clk)∧(∃ m,Ybl h mo m∧BOk 60 m∧(∀ (j:Nat) (e:ME) (c x:Nat),es[j]?=some e→sc[j]?=some (c,x)→e.2.2∈seen→lk x≠none→Zcn m c=some (F c))∧∀ v T,Zcn m v=some T→T=F v∧∃ x,(v,x)∈sc∧lk x≠none)) (m:=fun seen=>es.countP (fun x=>decide (x.2.2 ∉ seen))) (hr:=?_) (g:=seen) (hj:=⟨hK,hr,hm0⟩)
 clear hm0 hr hK seen h
 rintro seen h ⟨hK,hr,m,rm,bo,inv1,inv2⟩ R hR
 unfold Zbz.L9t
 have hmi:h[mi]?=some (.map es clk):=by rw [hK.2 mi (Own.lt hm) hne1 hne2]; exact hm
 have hlen:es.length=sc.length:=by have:=congrArg List.length hk; simpa using this
 simp only [Zkx,hr,Yha,Zbs,hmi]
 refine ⟨⟨hlt,Nat.le_refl _⟩,fun hall=>?_,fun e he hns=>?_⟩
 ·refine hyes m h rm (fun v=>?_) bo ?_ hK
  ·rw [Zif]
   cases hb:Zcn m v with
   | some T=>
    obtain ⟨rfl,x,hx,hlx⟩:=inv2 v T hb
    obtain ⟨_,_,h3,_⟩:=hsc _ hx
    have h4:¬ F v=.k v:=fun e=>hlx ((hFk _ hx).1 e)
    simp only at h3
    rw [if_pos ⟨h3,h4⟩]
   | none=>
    split
    ·rename_i hc
     obtain ⟨h1,h2⟩:=hc
     exfalso
     cases hg:Zqf sc v with
     | none=>exact h2 (hFo v h1 hg)
     | some x=>
      have hx:=Zoc hg
      obtain ⟨j,hj⟩:=List.getElem?_of_mem hx
      have hjl:=(List.getElem?_eq_some_iff.1 hj).1
      have hje:es[j]?=some es[j]:=List.getElem?_eq_getElem (by omega)
      have:=inv1 j _ v x hje hj (hall _ (List.getElem_mem _)) (fun e=>h2 ((hFk _ hx).2 e))
      rw [hb] at this; cases this
    ·rfl
  ·unfold Zmg
   rw [List.all_eq_true]
   intro v hv'
   have hvv:=(Zdj v).1 hv'
   by_cases hfv:F v=.k v
   ·simp [hfv]
   ·cases hg:Zqf sc v with
    | none=>exact absurd (hFo v hvv hg) hfv
    | some x=>
     have hx:=Zoc hg
     obtain ⟨j,hj⟩:=List.getElem?_of_mem hx
     have hjl:=(List.getElem?_eq_some_iff.1 hj).1
     have hje:es[j]?=some es[j]:=List.getElem?_eq_getElem (by omega)
     have hb:=inv1 j _ v x hje hj (hall _ (List.getElem_mem _)) (fun e=>hfv ((hFk _ hx).2 e))
     have:=(bo.var _ (Zhu hb)).2.2
     simp only at this
     simp [this]
 ·obtain ⟨j,hj⟩:=List.getElem?_of_mem he
  have hjl:=(List.getElem?_eq_some_iff.1 hj).1
  obtain ⟨c,x,hcx⟩:∃ c x,sc[j]?=some (c,x):=⟨_,_,List.getElem?_eq_getElem (by omega)⟩
  obtain ⟨e1,e2,st⟩:=e
  have he1:e1=.str [c]:=by
   have:=congrArg (·[j]?) hk
   simp only [List.getElem?_map,hj,hcx,Option.map_some,Option.some.injEq] at this; exact this
  have he2:e2=.ptr (some (x,0)):=by
   have:=congrArg (·[j]?) hv
   simp only [List.getElem?_map,hj,hcx,Option.map_some,Option.some.injEq] at this; exact this
  subst he1; subst he2
  have hxs:=List.mem_of_getElem? hcx
  obtain ⟨hxN,hxh,hcv,hng⟩:=hsc _ hxs
  simp only at hxN hxh hcv hng hns
  simp only [Ztt,Zbc]
  generalize hh1:h.set r (.miter (some mi) clk (seen ++ [st]) clk)=h1
  have hr1:h1[r]?=some (.miter (some mi) clk (seen ++ [st]) clk):=by rw [← hh1]; exact Zca hr
  have k1:∀ q,q≠r→h1[q]?=h[q]?:=fun q hq=>by rw [← hh1]; exact Zbl fun e=>hq e.symm
  have l1:h1.length=h.length:=by rw [← hh1]; simp
  have K1:Zgh mo r h0 h1:=hK.trans ⟨by omega,fun q hq _ h2=>k1 q h2⟩
  have rm1:Ybl h1 mo m:=rm.eq (k1 mo hne3)
  have hm1:h1[mi]?=some (.map es clk):=by rw [k1 mi hne2]; exact hmi
  have g1:GH h1 G N lk Z:=g.agree K1.1 fun q t cs ro hq=>K1.2 q (Own.lt hq) (fun e=>by subst e; obtain ⟨_,_,hx⟩:=hmo; rw [hx] at hq; cases hq) (fun e=>by subst e; obtain ⟨_,_,_,_,hx⟩:=hr0; rw [hx] at hq; cases hq)
  simp only [hr1,xMp,hm1]
  refine ⟨⟨hnd,by trivial⟩,(.str [c],.ptr (some (x,0)),st),he,seen,rfl,?_⟩
  simp only [Ztt]
  obtain ⟨kp,en,hp,hen0,henN⟩:=ok.ends hxN
  refine (Ztj g1 ok hxN hp hen0).mono ?_
  rintro v h2 ⟨rfl,rfl⟩
  simp only [Zbx]
  have hdec:=Ycr he hns
  -- only the one more stamp
  have same_ix:∀ (j':Nat) (e':ME) (c' x':Nat),es[j']?=some e'→sc[j']?=some (c',x')→e'.2.2∈seen ++ [st]→e'.2.2∈seen ∨ (c'=c∧x'=x):=by
   intro j' e' c' x' hj' hs' hin
   rcases List.mem_append.1 hin with hin | hin
   ·exact .inl hin
   ·right
    rw [List.mem_singleton] at hin
    have h1:(es.map (·.2.2))[j']?=some st:=by rw [List.getElem?_map,hj',Option.map_some,hin]
    have h2:(es.map (·.2.2))[j]?=some st:=by rw [List.getElem?_map,hj,Option.map_some]
    have hjj:j'=j:=by
     obtain ⟨a1,b1⟩:=List.getElem?_eq_some_iff.1 h1
     obtain ⟨a2,b2⟩:=List.getElem?_eq_some_iff.1 h2
     exact (List.getElem_inj (h₀:=a1) (h₁:=a2) hnd).1 (b1.trans b2.symm)
    subst hjj
    rw [hcx] at hs'
    cases hs'; exact ⟨rfl,rfl⟩
  by_cases hex:en=x
  ·subst hex
   refine .inl ⟨rfl,?_⟩
   simp only [Zbd]
   refine hR (seen ++ [st]) _ hdec ⟨K1,hr1,m,rm1,bo,fun j' e' c' x' hj' hs' hin hlx=>?_,inv2⟩
   rcases same_ix j' e' c' x' hj' hs' hin with h | ⟨rfl,rfl⟩
   ·exact inv1 j' e' c' x' hj' hs' h hlx
   ·exact absurd hen0 hlx
  ·refine .inr ⟨hex,Zfr g1 henN,Zfr g1 hxN,?_⟩
   simp only [Zax]
   have hlx:lk x≠none:=fun h=>hex (hp.at_end h)
   have hvt:=hF _ hxs
   simp only at hvt
   refine (Yfi ok cl _ (Nat.le_refl _) g1 hxN hvt).mono ?_
   rintro v h3 ⟨rfl,s,rfl,hs61,hst⟩
   simp only [Zcx,Zaf,Zaw,Zah,Zao]
   have hfne:¬ F c=.k c:=fun e=>hlx ((hFk _ hxs).1 e)
   refine Zdg (fun hb=>?_) (fun hb=>?_)
   ·have hb:=of_decide_eq_false hb
    refine hno _ K1 ?_
    unfold Zmg
    rw [List.all_eq_false]
    exact ⟨c,(Zdj c).2 hcv,by simp [hfne,hb]⟩
   ·have hb:=of_decide_eq_true hb
    have hs':=hst hb
    subst hs'
    obtain ⟨es2,clk2,ho2,hk2,hv2,hnd2,hlt2⟩:=id rm1
    simp only [ho2,Yeh]
    have hol:=Own.lt ho2
    have fin:∀ (m':Bd) (es':List ME) (k':Nat),Ybl (h3.set mo (.map es' k')) mo m'→BOk 60 m'→Zcn m' c=some (F c)→(∀ v,v≠c→Zcn m' v=Zcn m v)→R (some mo) r (h3.set mo (.map es' k')):=by
     intro m' es' k' rm' bo' hc hoth
     have bc:∀ c',Zcn m c'=some (F c')→Zcn m' c'=some (F c'):=fun c' hb'=>by
      by_cases e:c'=c
      ·rw [e]; exact hc
      ·rw [hoth c' e]; exact hb'
     refine hR (seen ++ [st]) _ hdec ⟨K1.trans (Zgh.set1 mo r h3 _),by rw [Zbl hne3]; exact hr1,m',rm',bo',fun j' e' c' x' hj' hs' hin hlx'=>?_,fun v T hv'=>?_⟩
     ·rcases same_ix j' e' c' x' hj' hs' hin with h | ⟨rfl,rfl⟩
      ·exact bc c' (inv1 j' e' c' x' hj' hs' h hlx')
      ·exact hc
     ·by_cases e:v=c
      ·subst e
       rw [hc] at hv'
       exact ⟨(Option.some.inj hv').symm,x,hxs,hlx⟩
      ·rw [hoth v e] at hv'; exact inv2 v T hv'
    cases hg:Zcn m c with
    | none=>
     rw [Zrn hk2 hg]
     refine fin (m ++ [(c,F c)]) _ _ ⟨_,_,List.getElem?_set_self hol,by simp [hk2],by simp [hv2],?_,?_⟩ ⟨fun p hp=>?_,?_⟩ (by rw [Zhp,hg]; simp) (fun v hv'=>?_)
     ·rw [List.map_append,List.nodup_append]
      refine ⟨hnd2,by simp,?_⟩
      intro a ha b hb' e
      simp at hb'
      obtain ⟨z,hz,rfl⟩:=List.mem_map.1 ha
      have:=hlt2 z hz; omega
     ·intro e he
      rcases List.mem_append.1 he with he | he
      ·have:=hlt2 e he; omega
      ·simp at he; subst he; simp
     ·rcases List.mem_append.1 hp with hp | hp
      ·exact bo.var p hp
      ·rw [List.mem_singleton.1 hp]; exact ⟨hcv,hFok _ hxs,hb⟩
     ·rw [List.map_append,List.nodup_append]
      refine ⟨bo.nd,by simp,?_⟩
      intro a ha b hb' e
      simp at hb'
      subst hb'; subst e
      obtain ⟨p,hp,rfl⟩:=List.mem_map.1 ha
      obtain ⟨T,hT⟩:=Zqb hp
      rw [hg] at hT; cases hT
     ·rw [Zhp]
      cases Zcn m v with
      | some T=>rfl
      | none=>rw [if_neg fun e=>hv' e.symm]
    | some T=>
     obtain ⟨hT,_⟩:=inv2 c T hg
     subst hT
     obtain ⟨j2,b2,hf2,hj2⟩:=Zna (k:=0) hk2 hv2 hg
     rw [hf2]
     simp only [Nat.zero_add]
     rw [Zle hj2 rfl]
     exact fin m es2 clk2 ⟨es2,clk2,List.getElem?_set_self hol,hk2,hv2,hnd2,hlt2⟩ bo hg (fun _ _=>rfl)
def Yis (s t:List Nat) (h:Zaa) (v:Zac) (h':Zaa):Prop:=Zbh h.length h h'∧∃ a n c e,v=.tup [.slice a n c e,.bool (Zhj s t).isSome]∧n≤c∧Zet Zap eP h.length h' a n ((Zhj s t).getD [])
theorem Zob {s t:List Nat} (h:(Zmm s && Zmm t)=false):Zhj s t=none:=by
 unfold Zhj
 split
 ·rename_i a b ha hb; rw [Znd ha,Znd hb] at h; cases h
 ·rfl
theorem Zqc {s t:List Nat} {h h':Zaa} (hn:Zhj s t=none) (S:Zbh h.length h h'):Yis s t h (.tup [.slice none 0 0 true,.bool false]) h':=
 ⟨S,none,0,0,true,by rw [hn]; rfl,Nat.le_refl _,by rw [hn]; exact ⟨rfl,.inl rfl⟩⟩
theorem Zzc {m m':Bd} (h:∀ v,Zcn m v=Zcn m' v):bdL m=bdL m':=by
 unfold bdL
 congr 1
 funext v
 rw [h v]
theorem Zsg (s t:List Nat) (h:Zaa):Zae pg Zgd [.str s,.str t] h (Yis s t h):=by
 apply Zbz.call
 refine (Zhn s h).mono ?_
 rintro v h1 ⟨rfl,s1⟩
 simp only [Zah]
 refine Zdg (fun hn=>Zqc (Zob (by rw [hn]; rfl)) s1) (fun hs=>?_)
 refine (Zhn t h1).mono ?_
 rintro v h2 ⟨rfl,s2⟩
 simp only [Zah]
 have S2:=s1.cat s2
 refine Zdg (fun hn=>Zqc (Zob (by rw [hn]; simp)) S2) (fun ht=>?_)
 obtain ⟨a,ha⟩:=Zkb hs
 obtain ⟨b,hb⟩:=Zkb ht
 obtain ⟨a1,a2,a3⟩:=Zcj.1 ha
 obtain ⟨b1,b2,b3⟩:=Zcj.1 hb
 apply Zbz.J3i
 simp only [Zbc]
 generalize hh3:h2 ++ [Zcf.map [] 0]=h3
 have s3:Zbh h2.length h2 h3:=by rw [← hh3]; exact Zau
 have m3:h3[h2.length]?=some (.map [] 0):=by rw [← hh3]; simp
 have l3:h3.length=h2.length + 1:=by rw [← hh3]; simp
 have hl2:=S2.le
 refine (Zvz ha (ShS.nil m3 ⟨fun _=>0,fun _=>[]⟩ fun _=>False) (fun z hz=>hz.elim)).mono ?_
 rintro v h4 ⟨q1,G1,L1,sc1,rfl,R1⟩
 simp only [Zbx]
 have l4:=R1.fr.le
 have st1:=R1.st
 simp only [List.nil_append] at st1
 refine (Zvz hb st1 (fun z hz=>hz.elim)).mono ?_
 rintro v h5 ⟨q2,G,L2,sc,rfl,R2⟩
 simp only [Zbx]
 have l5:=R2.fr.le
 have st:=R2.st
 have q1N1:q1∈L1:=by simpa using R1.qN
 have q1N:q1∈L1 ++ L2:=List.mem_append_left _ q1N1
 have q2N:=R2.qN
 have ok:GOk G (L1 ++ L2) (fun _=>none):=st.gok
 have nv:Ybo G (L1 ++ L2) G.hd Zag:=by
  refine ⟨fun n _ h=>h,fun n _ h=>h,fun n hn m hm hv hv' he=>?_⟩
  have key:∀ n∈L1 ++ L2,Zag (G.hd n)=true→Zqf sc (G.hd n)=some n:=fun n hn hv=>by
   rcases List.mem_append.1 hn with hn | hn
   ·have hh:=(R2.ag n hn).1
    rw [hh] at hv ⊢
    obtain ⟨r,hr⟩:=R2.ext
    exact (st.sin (G1.hd n,n) (by rw [hr]; exact List.mem_append_left _ (R1.var n hn hv))).2.2.2
   ·exact (st.sin _ (R2.var n hn hv)).2.2.2
  have e1:=key n hn hv
  have e2:=key m hm hv'
  rw [he,e2] at e1; exact (Option.some.inj e1).symm
 have ra:Raw G G.hd q1 a:=R1.raw.agree R2.ag st1.cl (fun x hx=>(R2.ag x hx).1) q1N1
 have rb:Raw G G.hd q2 b:=R2.raw
 have sb1:∀ x∈L1,Sub G q1 x:=fun x hx=>(R1.new x hx).2.agree R2.ag st1.cl q1N1
 have w:Two G (L1 ++ L2) G.hd Zag q1 q2 a b:=by
  refine ⟨q1N,q2N,nv,ra,rb,fun n hn=>?_,fun x hx=>?_⟩
  ·rcases List.mem_append.1 hn with hn | hn
   ·exact ra.under ok (sb1 n hn) q1N
   ·exact rb.under ok (R2.new n hn).2 q2N
  ·rcases List.mem_append.1 hx with hx | hx
   ·exact .inl (sb1 x hx)
   ·exact .inr (R2.new x hx).2
 have S5:Zbh h.length h h5:=⟨by omega,fun j hj=>by
  rw [R2.fr.eq j (by omega) (by omega),R1.fr.eq j (by omega) (by omega),s3.eq j (by omega)]; exact S2.eq j hj⟩
 have none_of:(¬ ∃ θ:Nat→Ty,sb Zag θ a=sb Zag θ b)→Zhj s t=none:=fun hno=>by
  unfold Zhj; rw [ha,hb]; simp only; rw [Zrj hno]
 refine (Ycy _ (Nat.le_refl _) st.gh ok q1N q2N).mono ?_
 rintro v h6 ⟨o6,hr6⟩
 have fresh:∀ n∈L1 ++ L2,h2.length < n:=fun n hn=>by
  rcases List.mem_append.1 hn with hn | hn
  ·have:=(R1.new n hn).1; omega
  ·have:=(R2.new n hn).1; omega
 have S6:Zbh h.length h h6:=⟨by have:=o6.1; omega,fun j hj=>by
  rw [o6.2 j (by omega) fun hj'=>by have:=fresh j hj'; omega]; exact S5.eq j hj⟩
 rcases hr6 with ⟨rfl,lk,y,g6⟩ | ⟨rfl,no⟩
 ·simp only [Zah,Bool.not_true,Zax]
  refine (Ygg y.gok g6 q1N).mono ?_
  rintro v h7 ⟨s7,⟨rfl,hno⟩ | ⟨rfl,hT⟩⟩
  ·simp only [Zah,Bool.not_false,Zbd]
   exact Zqc (none_of (w.endless y hno)) (S6.cat s7)
  ·simp only [Zah,Bool.not_true,Zax]
   obtain ⟨T,hT⟩:=hT G.hd
   have hall:=w.all y hT
   have mg:=w.mgu y hT
   generalize hFd:grF G (L1 ++ L2) lk G.hd=F at mg
   have hu:Zhj s t=if Zmg F then some (bdL (Zhx F)) else none:=by
    unfold Zhj; rw [ha,hb]; simp only; rw [Zqu mg]
   have g7:=g6.same s7
   have S7:=S6.cat s7
   obtain ⟨es,clk,hm5,hk,hv,hnd,hlt⟩:=id st.map
   have hm6:h6[h2.length]?=some (.map es clk):=by rw [o6.2 _ (Own.lt hm5) fun hj=>by have:=fresh _ hj; omega]; exact hm5
   have hm7:=s7.get hm6 (Own.lt hm6)
   apply Zbz.J7i
   simp only [Zbc]
   generalize hh8:h7 ++ [Zcf.map [] 0]=h8
   have s8:Zbh h7.length h7 h8:=by rw [← hh8]; exact Zau
   have o8:h8[h7.length]?=some (.map [] 0):=by rw [← hh8]; simp
   have l8:h8.length=h7.length + 1:=by rw [← hh8]; simp
   have hm8:=s8.get hm7 (Own.lt hm7)
   simp only [Zbs,hm8,Yhe]
   generalize hh9:h8 ++ [Zcf.miter (some h2.length) clk [] clk]=h9
   have s9:Zbh h8.length h8 h9:=by rw [← hh9]; exact Zau
   have r9:h9[h8.length]?=some (.miter (some h2.length) clk [] clk):=by rw [← hh9]; simp
   have hm9:=s9.get hm8 (Own.lt hm8)
   have o9:=s9.get o8 (Own.lt o8)
   have S9:=(S7.cat s8).cat s9
   have hml:=Own.lt hm7
   have hvt:∀ p∈sc,∃ x,VT G lk G.hd p.2 x:=fun p hp=>hall _ (st.sin p hp).1
   have hbnd:∀ p∈sc,VT G lk G.hd p.2 (F p.1)∧(F p.1=.k p.1 ↔ lk p.2=none):=fun p hp=>by
    obtain ⟨i1,i2,i3,_⟩:=st.sin p hp
    obtain ⟨x,hx⟩:=hvt p hp
    have:=w.bound y i1 (by rw [i2]; exact i3) hx
    rw [hFd,i2] at this
    rw [this.1]
    exact ⟨hx,this.2⟩
   have hl7:=S7.le
   refine Zzq (Z:=fun _=>False) ((g7.same s8).same s9) y.gok y.cls (fun p hp=>st.sin p hp) (fun p hp=>(hbnd p hp).1) (fun p hp=>(hbnd p hp).2) (fun p hp=>mg.2 p.1 (st.sin p hp).2.2.1) (fun v hv' hg=>?_) hm9 hk hv hnd hlt ⟨_,_,o9⟩ ⟨_,_,_,_,r9⟩ (by omega) (by omega) (by omega)
    (fun m h' rm hb' bo hS K=>?_) (fun h' K hS=>?_) h9 [] (Zgh.refl _ _ _) r9 ⟨[],⟨[],0,o9,rfl,rfl,by simp,by simp⟩,BOk.nil,fun j e c x _ _ hin=>(by cases hin),fun v T hv'=>(by cases hv')⟩
   ·-- a variable of neither type
    rw [← hFd]
    unfold grF
    rw [dif_neg]
    rintro ⟨s',x,hx,hxv,rfl,_⟩
    have key:Zqf sc (G.hd x)=some x:=by
     rcases List.mem_append.1 hx with hx | hx
     ·have hh:=(R2.ag x hx).1
      rw [hh] at hxv ⊢
      obtain ⟨r,hr⟩:=R2.ext
      exact (st.sin (G1.hd x,x) (by rw [hr]; exact List.mem_append_left _ (R1.var x hx hxv))).2.2.2
     ·exact (st.sin _ (R2.var x hx hxv)).2.2.2
    rw [hg] at key; cases key
   ·apply Zbz.A9x0i
    refine (Zuu rm bo).mono ?_
    rintro v h10 ⟨s10,ra,rn,rc,re,rfl,hrc,fr⟩
    simp only [Zal]
    have SK:Zbh h.length h h':=⟨by have:=K.1; have:=S9.le; omega,fun j hj=>by
     rw [K.2 j (by have:=S9.le; omega) (by omega) (by omega)]; exact S9.eq j hj⟩
    rw [hS,if_pos rfl] at hu
    rw [Zzc hb'] at fr
    refine ⟨SK.cat s10,ra,rn,rc,re,by rw [hu]; rfl,hrc,?_⟩
    rw [hu]
    exact ⟨fr.1,fr.2.imp id fun ⟨i,hi1,hi2,hi3⟩=>⟨i,hi1,by have:=SK.le; omega,hi3⟩⟩
   ·rw [hS,if_neg (by simp)] at hu
    exact Zqc hu ⟨by have:=K.1; have:=S9.le; omega,fun j hj=>by
     rw [K.2 j (by have:=S9.le; omega) (by omega) (by omega)]; exact S9.eq j hj⟩
 ·simp only [Zah,Bool.not_false,Zbd]
  exact Zqc (none_of (w.no no)) S6
theorem Ybg (s t:List Nat) (h:Zaa):Zae pg Ziy [.str s,.str t] h fun v h'=>v=.tup [.str ((Znv s t).getD []),.bool (Znv s t).isSome]∧Zbh h.length h h':=by
 apply Zmf.call
 refine (Zsg s t h).mono ?_
 rintro v h1 ⟨s1,a,n,c,e,rfl,hnc,f⟩
 simp only [Zcx,Zaf,Zal,Zah,Zao]
 cases hu:Zhj s t with
 | none=>
  have:Znv s t=none:=by unfold Znv; rw [hu]; rfl
  simp only [Option.isSome_none,Bool.not_false,Zbd]
  rw [this]
  exact ⟨rfl,s1⟩
 | some l=>
  rw [hu] at f
  simp only [Option.isSome_some,Bool.not_true,Zax,Option.getD_some] at f ⊢
  have hbk:=(Zvw hu).1
  have:Znv s t=Zgp l s:=by unfold Znv; rw [hu]; rfl
  rw [this]
  have hn:n≤1048576:=by
   rw [← f.1]
   unfold Zhj at hu
   split at hu
   ·split at hu
    ·split at hu
     ·cases hu; exact Nat.le_trans (Ych _) (by decide)
     ·cases hu
    ·cases hu
   ·cases hu
  refine (Zoa (t:=s) (f.row Zig) hn).mono ?_
  rintro v h2 ⟨rfl,s2⟩
  unfold Zie
  cases Zgp l s with
  | none=>
   simp only [Zcx,Zaf,Zaw,Zah,Zao]
   exact ⟨rfl,s1.cat s2⟩
  | some u=>
   simp only [Zcx,Zaf,Zaw,Zah,Zao]
   exact ⟨rfl,s1.cat s2⟩
end Go.Sim

set_option linter.unusedVariables false
set_option linter.unusedSimpArgs false
set_option maxRecDepth 20000
namespace Go.Sim
open Go Go.RowKit

def Yfb (m:Bd):Bool:=Zct.all fun v=>match Zcn m v with | some t=>decide (t.txt.length≤60) | none=>true
theorem Ycg (F:Nat→Ty):Yfb (Zhx F)=Zmg F:=by
 unfold Yfb Zmg
 rw [Bool.eq_iff_iff,List.all_eq_true,List.all_eq_true]
 refine forall_congr' fun v=>forall_congr' fun hv=>?_
 rw [Zif]
 have hvv:=(Zdj v).1 hv
 by_cases e:F v=.k v
 ·simp [e]
 ·simp [e,hvv]
def Yhd (m:Bd) (h:Zaa) (v:Zac) (h':Zaa):Prop:=Zbh h.length h h'∧∃ a n c e,v=.tup [.slice a n c e,.bool (Yfb m)]∧n≤c∧Zet Zap eP h.length h' a n (if Yfb m then bdL m else [])
theorem Zyt {S:Nat→Prop} {h:Zaa} {i:Nat} {m:Bd} (rm:Zni S h i m) (bo:BOk 4611686018427387904 m) :
  Zae pg Ziw [.ptr (some (i,0))] h fun v h'=>Yhd m h v h':=by
 apply Zdc.call
 simp only [Zbc,Zaq]
 generalize hh0:h ++ [Zcf.cells Zap [] false]=h0
 have s0:Zbh h.length h h0:=by rw [← hh0]; exact Zau
 have l0:h0.length=h.length + 1:=by rw [← hh0]; simp
 have o0:h0[h.length]?=some (.cells Zap [] false):=by rw [← hh0]; simp
 refine Zdc.L3ind _ _ (J:=fun (g:Nat) a4 n4 c4 e4 x10 h'=>x10=(g:Int)∧g≤12∧Zbh h.length h h'∧n4=(Zuf m g).length∧n4≤c4∧Vec Zap h' a4 n4 c4 (Zfi eP (Zuf m g))∧(∀ i,a4=some (i,0)→h.length≤i)∧∀ v∈Zct.take g,∀ t,Zcn m v=some t→t.txt.length≤60) (fun g=>12 - g) ?_ 0 _ _ _ _ _ _
  ⟨rfl,by omega,s0,by simp [Zuf],Nat.le_refl _,Vec.mk1 (by simpa [Zuf] using o0),fun i hi=>by cases hi; omega,fun v hv=>by simp at hv⟩
 rintro g a4 n4 c4 e4 x10 h' ⟨rfl,hg,hSm,rfl,hnc,hv,ha,hsm⟩ R hR
 unfold Zdc.L3t
 have hbl:=Ydj m g
 refine Zan (fun hlt=>?_) (fun hge=>?_)
 ·have hg':g < 12:=by omega
  obtain ⟨x,hx1,hx2,hx3⟩:=(rm.same hSm).get hg'
  have il:=(rm.same hSm).lt
  have hx:∃ (d:Nat) (a:Pt) (n c:Nat) (e:Bool),x=(.int .u8 (d:Int),.slice a n c e)∧(match (Zct[g]?).bind (Zcn m) with | some t=>d=t.hd | none=>d=0):=by
   split at hx3
   ·rename_i t ht
    obtain ⟨ua,uc,ue,hu⟩:=hx3.shape
    simp only [List.cons.injEq,and_true] at hu
    exact ⟨t.hd,ua,t.ps.length,uc,ue,by rw [← hu.1,← hu.2],by first | rfl | rw [ht]⟩
   ·rename_i hn; exact ⟨0,none,0,0,true,hx3,by first | rfl | rw [hn]⟩
  obtain ⟨d,ua,un,uc,ue,rfl,hd⟩:=hx
  simp only [Int.toNat_natCast,hx2,Zaq,Zav,Zaf,Zao,Zad,Zal,Zbc]
  generalize hq:h' ++ [Zcf.cells Zab [.int .u8 0,.slice none 0 0 true] false]=hq'
  have sq:Zbh h'.length h' hq':=by rw [← hq]; exact Zau
  have hrq:Zcr hq' (.ptr (some (i,0 + g * 2))) 2=some [.int .u8 (d:Int),.slice ua un uc ue]:=by
   rw [← hx2]; simp only [Zcr,sq.eq i il]
  rw [hrq,← hq,Zgm]
  generalize hw:h' ++ [Zcf.cells Zab [.int .u8 (d:Int),.slice ua un uc ue] false]=hw'
  have sw:Zbh h'.length h' hw':=by rw [← hw]; exact Zau
  have ow:hw'[h'.length]?=some (.cells Zab [.int .u8 (d:Int),.slice ua un uc ue] false):=by rw [← hw]; simp
  simp only [Zas,Zaj ow,Nat.zero_add,List.getElem?_cons_zero,Zad,true_and]
  have SW:=hSm.cat sw
  have hsuc:=Ybe m g
  have step:(∀ v t,Zct[g]?=some v→Zcn m v=some t→t.txt.length≤60)→∀ v∈Zct.take (g + 1),∀ t,Zcn m v=some t→t.txt.length≤60:=fun hs v hv t ht=>by
   rw [List.take_succ,List.mem_append] at hv
   rcases hv with hv | hv
   ·exact hsm v hv t ht
   ·exact hs v t (by simpa using hv) ht
  have skip:(Zct[g]?).bind (Zcn m)=none→Zdc.J9 (fun v h'=>Yhd m h v h') R (g:Int) (some (i,0)) a4 (Zuf m g).length c4 e4 hw':=by
   intro hn
   have hsame:Zuf m (g + 1)=Zuf m g:=by
    rw [hsuc]
    cases hvg:Zct[g]? with
    | none=>simp
    | some v=>rw [hvg,Option.bind_some] at hn; simp [hn]
   apply Zdc.J9i
   rw [Zch (by omega)]
   exact hR (g + 1) _ _ _ _ _ _ (by omega) ⟨rfl,by omega,SW,by rw [hsame],hnc,by rw [hsame]; exact hv.same sw,ha,step fun v t h1 h2=>by rw [h1,Option.bind_some,h2] at hn; cases hn⟩
  refine ⟨by omega,?_⟩
  cases hb:(Zct[g]?).bind (Zcn m) with
  | none=>
   rw [hb] at hd
   simp only at hd
   subst hd
   simp only [show (((0:Nat):Int) == 0)=true from rfl,Zbd]
   exact skip hb
  | some t=>
   rw [hb] at hd hx3
   simp only at hd hx3
   obtain ⟨v,hvg,hbv⟩:=Option.bind_eq_some_iff.1 hb
   have hu:=bo.var _ (Zhu hbv)
   have hg6:g < 6:=(List.getElem?_eq_some_iff.1 hvg).1
   have hd0:((d:Int) == 0)=false:=by
    have:=Zqa hu.2.1
    have hne:t.hd≠0:=fun e=>by rw [e] at this; simp at this
    simp; omega
   rw [show decide ((g:Int) ≥ 6)=false by simp; omega]
   simp only [hd0,Zax]
   apply Zdc.J6i
   rw [← hw,Zxy,hw]
   simp only [Zav,Zaf,Zao,Zad,Zal]
   refine (Zlh _ (Nat.le_refl _) hu.2.2 (hx3.same sw)).mono ?_
   rintro v' h3 ⟨rfl,s3⟩
   have o3:=s3.get ow (Own.lt ow)
   simp only [Zad]
   refine Zan (fun hbig=>?_) (fun hle60=>?_)
   ·have:Yfb m=false:=by
     unfold Yfb
     rw [List.all_eq_false]
     exact ⟨v,List.mem_of_getElem? hvg,by rw [hbv]; simp; omega⟩
    refine ⟨(SW.cat s3).cat Zau,_,0,0,true,by rw [this],Nat.le_refl _,?_⟩
    rw [this]; exact ⟨rfl,.inl rfl⟩
   have hu2:t.txt.length≤60:=by omega
   simp only [Zfc o3 (show 0 + 2≤_ by simp),List.drop_zero,List.take_succ_cons,List.take_zero,Zav,Zaf,Zao,Zad,Zal]
   rw [Zch (by omega),show (((g + 1:Nat):Int))=(g:Int) + 1 by omega,Ycu hvg]
   refine ⟨⟨by omega,by omega,by simp; omega⟩,(Zop _ (Nat.le_refl _) (Nat.le_trans hu2 (by decide)) hu.2.1 ((hx3.same sw).same s3)).mono ?_⟩
   rintro v' h4 ⟨rfl,s4⟩
   simp only [Zaw,Zbc]
   have S4:=(SW.cat s3).cat s4
   refine (((hv.same sw).same s3).same s4).pushN Zox Zto Ztn Zue (by rw [Zbj Zig]) rfl (by omega) rfl (by omega) (fun h6 hl6 hi6 hk6=>?_)
   simp only [Zal]
   apply Zdc.J9i
   rw [Zch (by omega)]
   have hle:=S4.le
   have hs':Zuf m (g + 1)=Zuf m g ++ [([v],t.txt)]:=by rw [hsuc,hvg]; simp [hbv]
   refine hR (g + 1) _ _ _ _ _ _ (by omega) ⟨rfl,by omega,⟨by omega,fun j hj=>?_⟩,by rw [hs']; simp,Nat.le_refl _,Vec.mk1 ?_,fun i hi=>by cases hi; omega,step fun v' t' h1 h2=>by rw [hvg] at h1; cases h1; rw [hbv] at h2; cases h2; exact hu2⟩
   ·rw [hk6 j (by omega) fun i hi=>by have:=ha i hi; omega]; exact S4.eq j hj
   ·rw [hi6,hs',Zpg]; rfl
 ·apply Zdc.A3x0i
  have:g=12:=by omega
  subst this
  have hb12:Zuf m 12=bdL m:=by unfold Zuf bdL; rw [List.take_of_length_le (by decide)]
  rw [hb12] at hv hnc ⊢
  have hsmall:Yfb m=true:=by
   unfold Yfb
   rw [List.all_eq_true]
   intro v hvv
   cases hbv:Zcn m v with
   | none=>rfl
   | some t=>simpa using hsm v (by rw [List.take_of_length_le (by decide)]; exact hvv) t hbv
  refine ⟨hSm,a4,_,c4,e4,by rw [hsmall],hnc,?_⟩
  rw [hsmall]
  exact hv.fresh (b:=h.length) rfl fun i hi=>ha i hi
theorem Yih {σ:Nat→Option Ty} {F:Nat→Ty} (rs:Rsv V12 σ F) (hσ:∀ c t,σ c=some t→(Ty.k c).ok=true) {S:Nat→Prop} {h:Zaa} {i:Nat} (r:Zkw S h i (tg σ F 12)):Zni S h i (Zhx F):=by
 obtain ⟨rows,h1,h2,h3⟩:=r
 refine ⟨rows,h1,h2,fun k x hx=>?_⟩
 have hk:k < 12:=by rw [← h1]; exact (List.getElem?_eq_some_iff.1 hx).1
 obtain ⟨v,hv⟩:∃ v,Zdp[k]?=some v:=⟨_,List.getElem?_eq_getElem (show k < Zdp.length from hk)⟩
 have hvv:=Ybr hv
 have:=h3 k x v hx hv
 have hrk:Zjx v < 12:=by
  obtain ⟨k',hk',_,hix⟩:=Zhv hvv
  unfold Zjx; rw [hix]; simpa using hk'
 have hfr:=rs.free hvv
 have heq:(Zct[k]?).bind (Zcn (Zhx F))=tg σ F 12 v:=by
  by_cases hk6:k < 6
  ·have hvn:Zct[k]?=some v:=by
    rw [← hv]
    match k,hk6 with
    | 0,_ | 1,_ | 2,_ | 3,_ | 4,_ | 5,_=>rfl
   have hown:Zag v=true:=(Zdj v).1 (List.mem_of_getElem? hvn)
   rw [hvn,Option.bind_some,Zif]
   unfold tg
   by_cases hs:σ v=none
   ·rw [if_neg fun hc=>hc.2 (hfr.2 hs),if_neg fun hc=>hc.2.2 hs]
   ·rw [if_pos ⟨hown,fun e=>hs (hfr.1 e)⟩,if_pos ⟨hvv,hrk,hs⟩]
  ·have hvn:Zct[k]?=none:=List.getElem?_eq_none (by show 6≤k; omega)
   rw [hvn,Option.bind_none]
   unfold tg
   rw [if_neg]
   rintro ⟨_,_,hs⟩
   cases hsv:σ v with
   | none=>exact hs hsv
   | some t=>
    have hok:=hσ v t hsv
    have:Zuz v=true:=by
     match k,hk,hk6 with
     | 6,_,_ | 7,_,_ | 8,_,_ | 9,_,_ | 10,_,_ | 11,_,_=>simp [Zdp] at hv; subst hv; rfl
    rw [Zoz hok] at this; cases this
 rw [heq]
 exact this
theorem Yhm {c:Nat} (h:Zag c=true):Zde c=true:=by
 unfold Zde; simp [h]
theorem Ydd {c d:Nat} (hc:Zag c=true) (hd:Zag d=true) (h:Zjx c < Zjx d):c < d:=by
 have h1:=(Zdj c).2 hc
 have h2:=(Zdj d).2 hd
 simp only [Zct,List.mem_cons,List.not_mem_nil,or_false] at h1 h2
 rcases h1 with rfl | rfl | rfl | rfl | rfl | rfl <;> rcases h2 with rfl | rfl | rfl | rfl | rfl | rfl <;> first | decide | exact absurd h (by decide)
theorem Yax {a b:Ty} (ha:a.ok=true) (hb:b.ok=true) {σ:Nat→Option Ty} {F:Nat→Ty} (rs:Rsv V12 σ F) (hS:∀ θ,Sol V12 σ θ ↔ sb V12 θ a=sb V12 θ b) (hi:Inc Zjx V12 σ) (hσ:∀ c t,σ c=some t→(Ty.k c).ok=true∧t.ok=true∧t.size≤60) :
  Zty a b=some F∧∀ c,Zag c=true→(F c).ok=true∧(F c).txt.length≤4611686018427387904:=by
 have hv:∀ c t,σ c=some t→Zag c=true:=fun c t h=>by
  have h1:=rs.dom c t h
  have h2:=Zoz (hσ c t h).1
  unfold V12 at h1; rw [h2,Bool.or_false] at h1; exact h1
 have r:Rsv Zag σ F:=⟨hv,rs.non,fun c t h=>by rw [rs.som c t h,Zky F (hσ c t h).2.1],rs.wlk⟩
 have hok:∀ c,Zag c=true→(F c).ok=true:=fun c hc=>by
  rw [← Znp]
  exact r.okF (fun d hd=>Yhm hd) (fun d t h=>by rw [Znp]; exact (hσ d t h).2.1) _ c (Nat.le_refl _) hc
 refine ⟨Zqu ⟨MGU.of_res r (fun c d h hd=>?_) fun θ=>?_,hok⟩,fun c hc=>⟨hok c hc,?_⟩⟩
 ·exact Ydd (hv c _ h) hd (hi c d h (by simp [V12,hd]))
 ·rw [← Zky θ ha,← Zky θ hb,← hS θ]
  constructor
  ·intro h c t hc; rw [h c t hc,Zky θ (hσ c t hc).2.1]
  ·intro h c t hc; rw [h c t hc,Zky θ (hσ c t hc).2.1]
 ·have:=Yfu r (fun c t h=>(hσ c t h).2.2) hc
  have h2:=Zoi (F c)
  have:(60:Nat) ^ 7=2799360000000:=by decide
  omega
theorem BOk.unifN {F:Nat→Ty} {n:Nat} (h:∀ c,Zag c=true→(F c).ok=true∧(F c).txt.length≤n):BOk n (Zhx F):=by
 refine ⟨fun p hp=>?_,?_⟩
 ·unfold Zhx at hp
  obtain ⟨v,hv,rfl⟩:=List.mem_map.1 hp
  rw [List.mem_filter] at hv
  have hvv:=(Zdj v).1 hv.1
  exact ⟨hvv,h v hvv⟩
 ·have:(Zhx F).map (·.1)=Zct.filter fun v=>decide (F v≠.k v):=by unfold Zhx; rw [List.map_map]; simp [Function.comp_def]
  rw [this]; exact Zfj.filter _
theorem Zqq (s t:List Nat) (hs0:s.length≤1048576) (ht0:t.length≤1048576) (h:Zaa):Zae pg Zga [.str s,.str t] h (Yis s t h):=by
 apply Zfy.call
 refine (Zju s (by omega) h).mono ?_
 rintro v h1 ⟨s1,vs1,rfl,r1⟩
 obtain ⟨d1,a1,n1,c1,e1,rfl⟩:=Zkj r1
 simp only [Zcx,Zaf,Zdz,Zad,Zal,Zao,Zah,Zbc]
 rw [Zgm]
 generalize hh2:h1 ++ [Zcf.cells Zab [.int .u8 d1,.slice a1 n1 c1 e1] false]=h2
 have s2:Zbh h1.length h1 h2:=by rw [← hh2]; exact Zau
 have o2:h2[h1.length]?=some (.cells Zab [.int .u8 d1,.slice a1 n1 c1 e1] false):=by rw [← hh2]; simp
 simp only [Zas]
 refine (Zju t (by omega) h2).mono ?_
 rintro v h3 ⟨s3,vs3,rfl,r3⟩
 obtain ⟨d3,a3,n3,c3,e3,rfl⟩:=Zkj r3
 simp only [Zcx,Zaf,Zdz,Zad,Zal,Zao,Zah]
 rw [Zgm]
 generalize hh4:h3 ++ [Zcf.cells Zab [.int .u8 d3,.slice a3 n3 c3 e3] false]=h4
 have s4:Zbh h3.length h3 h4:=by rw [← hh4]; exact Zau
 have o4:h4[h3.length]?=some (.cells Zab [.int .u8 d3,.slice a3 n3 c3 e3] false):=by rw [← hh4]; simp
 simp only [Zas]
 have S2:=s1.cat s2
 have S4:=(S2.cat s3).cat s4
 have o24:=s4.get (s3.get o2 (Own.lt o2)) (by have:=Own.lt o2; have:=s3.le; omega)
 have no:∀ hz,Zhj s t=none→Zbh h.length h hz→Yis s t h (.tup [.slice (some (hz.length,0)) 0 0 true,.bool false]) (hz ++ [Zcf.cells Zap [] false]):=fun hz hn S=>
  ⟨S.cat Zau,_,0,0,true,by rw [hn]; rfl,Nat.le_refl _,by rw [hn]; exact ⟨rfl,.inl rfl⟩⟩
 cases hp:Zeh s with
 | none=>
  have:Zmm s=false:=by unfold Zmm; rw [hp]; rfl
  rw [this]
  simp only [Bool.not_false,Zbd]
  exact no _ (Zob (by rw [this]; rfl)) S4
 | some a=>
  rw [Znd hp]
  simp only [Bool.not_true,Zax]
  cases ht:Zeh t with
  | none=>
   have:Zmm t=false:=by unfold Zmm; rw [ht]; rfl
   rw [this]
   simp only [Bool.not_false,Zbd]
   exact no _ (Zob (by rw [this]; simp)) S4
  | some b=>
   rw [Znd ht]
   rw [hp] at r1
   rw [ht] at r3
   simp only at r1 r3
   obtain ⟨ha1,ha2,ha3⟩:=Zcj.1 hp
   obtain ⟨hb1,hb2,hb3⟩:=Zcj.1 ht
   simp only [Bool.not_true,Zax]
   apply Zfy.J5i
   rw [Zds o24,Zds o4]
   simp only [Zav,Zaf,Zao,Zad,Zal,true_and]
   have l1:=s1.le; have l2:=s2.le; have l3:=s3.le; have l4:=s4.le
   have za:a.size≤60:=Nat.le_trans (Zmc a) (by rw [← ha2]; exact ha3)
   have zb:b.size≤60:=Nat.le_trans (Zmc b) (by rw [← hb2]; exact hb3)
   refine (Zxc (P:=fun t=>t.ok=true∧t.size≤60) (fun t h=>Zok (lf:=Zde) (fun c hc=>by unfold Znu; rw [hc]; rfl) (by rw [Znp]; exact h.1)) (fun t h p hp=>⟨by rw [← Znp]; exact Zyw (by rw [Znp]; exact h.1) p hp,by have:=Ty.size_part hp; have:=h.2; omega⟩) (S:=fun j=>j < h4.length) (fun j hj=>hj) ⟨ha1,za⟩ ⟨hb1,zb⟩ ((((r1.same s2).same s3).same s4).below.mono fun j hj=>hj.2) ((r3.same s4).below.mono fun j hj=>hj.2)).mono ?_
   rintro v h6 ⟨s6,q,bl,rfl,hres⟩
   simp only [Zcx,Zaf,Zbx,Zah,Zao]
   have S6:=S4.cat s6
   rcases hres with ⟨rfl,σ,F,rs,hsol,hi,hσ,S',hS',m6⟩ | ⟨rfl,hno⟩
   ·obtain ⟨hu,hF⟩:=Yax ha1 hb1 rs hsol hi fun c t h=>⟨(hσ c t h).1.1,(hσ c t h).2.1,(hσ c t h).2.2⟩
    simp only [Bool.not_true,Zax]
    refine (Zyt (Yih rs (fun c t h=>(hσ c t h).1.1) m6) (BOk.unifN hF)).mono ?_
    rintro v h7 ⟨s7,a7,n7,c7,e7,rfl,hc7,f7⟩
    simp only [Zcx,Zaf,Zal,Zah,Zao]
    have hr:Zhj s t=if Zmg F then some (bdL (Zhx F)) else none:=by
     unfold Zhj; rw [hp,ht]; simp only; rw [hu]
    rw [Ycg] at f7 ⊢
    refine ⟨S6.cat s7,a7,n7,c7,e7,?_,hc7,?_⟩
    ·rw [hr]; cases Zmg F <;> rfl
    ·have:(Zhj s t).getD []=if Zmg F then bdL (Zhx F) else []:=by rw [hr]; cases Zmg F <;> rfl
     rw [this]
     exact ⟨f7.1,f7.2.imp id fun ⟨i,ha,hb,hi⟩=>⟨i,ha,by have:=S6.le; omega,hi⟩⟩
   ·simp only [Bool.not_false,Zbd]
    refine no _ ?_ S6
    unfold Zhj; rw [hp,ht]; simp only
    rw [Zrj]
    rintro ⟨θ,h⟩
    rw [← Zky θ ha1,← Zky θ hb1] at h
    exact hno θ h
theorem Ybn {s t:List Nat} {l:List Nd} (hu:Zhj s t=some l):l.length≤6:=by
 unfold Zhj at hu
 split at hu
 ·split at hu
  ·split at hu
   ·cases hu; exact Ych _
   ·cases hu
  ·cases hu
 ·cases hu
theorem Zxh (s t:List Nat) (hs0:s.length≤1048576) (ht0:t.length≤1048576) (h:Zaa):Zae pg Zip [.str s,.str t] h fun v h'=>v=.tup [.str ((Znv s t).getD []),.bool (Znv s t).isSome]∧Zbh h.length h h':=by
 apply Zlw.call
 refine (Zqq s t hs0 ht0 h).mono ?_
 rintro v h1 ⟨s1,a,n,c,e,rfl,hnc,f⟩
 simp only [Zcx,Zaf,Zal,Zah,Zao]
 cases hu:Zhj s t with
 | none=>
  have:Znv s t=none:=by unfold Znv; rw [hu]; rfl
  simp only [Option.isSome_none,Bool.not_false,Zbd]
  rw [this]
  exact ⟨rfl,s1⟩
 | some l=>
  rw [hu] at f
  simp only [Option.isSome_some,Bool.not_true,Zax,Option.getD_some] at f ⊢
  have hbk:=(Zvw hu).1
  have:Znv s t=Zgp l s:=by unfold Znv; rw [hu]; rfl
  rw [this]
  have hl6:=Ybn hu
  have hn:n≤1048576:=by rw [← f.1]; omega
  refine (Zne (t:=s) (f.row Zig) hn (fun p hp=>by have:=Zwy (Zkm hbk hp).2; omega) (fun p hp x hx=>?_) hs0).mono ?_
  ·obtain ⟨v,t,hv,hvv,_⟩:=Zol hbk hp
   rw [hv] at hx; simp at hx; subst hx
   simp only [Zag,Bool.or_eq_true,beq_iff_eq] at hvv; omega
  rintro v h2 ⟨rfl,s2⟩
  unfold Zie
  cases Zgp l s with
  | none=>
   simp only [Zcx,Zaf,Zaw,Zah,Zao]
   exact ⟨rfl,s1.cat s2⟩
  | some u=>
   simp only [Zcx,Zaf,Zaw,Zah,Zao]
   exact ⟨rfl,s1.cat s2⟩
end Go.Sim

set_option linter.unusedVariables false
set_option linter.unusedSimpArgs false
set_option maxRecDepth 20000
namespace Go.Sim
open Go Go.RowKit
theorem lawMeetOf {h:Zaa} {s t:List Nat} (hs:∀ b∈s,b < 256) (ht:∀ b∈t,b < 256):Zae pg Zgl [.str s,.str t] h fun v _=>v=.bool true:=by
 apply Zfd.call
 refine Zan (fun _=>rfl) (fun hs=>?_)
 refine Zan (fun _=>rfl) (fun ht=>?_)
 refine (Zxh s t (by omega) (by omega) h).mono ?_
 rintro v h1 ⟨rfl,s1⟩
 simp only [Zcx,Zaf,Zaw,Zah,Zao]
 refine (Ybg s t h1).mono ?_
 rintro v h2 ⟨rfl,s2⟩
 simp only [Zcx,Zaf,Zaw,Zah,Zao,beq_self_eq_true,decide_true,Bool.not_true,Zax]
 apply Zfd.J9i
 trivial
end Go.Sim
