/- A part of the proof of a statement of this seat: see the text that holds the theorem. No condition. -/
import Derived.Test.YtdglddliggejdaaGreatPTCDraw
import Derived.Test.YtdglddliggejdaaGreatCUni
import Derived.Test.YtdglddliggejdaaGreatPTCMatch2
import Derived.Test.YtdglddliggejdaaGreatCMost
import Derived.Test.YtdglddliggejdaaGreatPWorld
import Derived.Test.YtdglddliggejdaaGreatPApply
import Derived.Test.YtdglddliggejdaaGreatCSUn2
set_option linter.unusedVariables false
set_option linter.unusedSimpArgs false
set_option linter.all false
set_option linter.unusedVariables false
set_option linter.unusedSimpArgs false
set_option maxRecDepth 20000
namespace Go.Sim
open Go Go.RowKit

theorem Ygp {es:List ME} {seen:List Nat} {e:ME} (he:e∈es) (hn:e.2.2 ∉ seen):es.countP (fun x=>decide (x.2.2 ∉ seen ++ [e.2.2])) < es.countP (fun x=>decide (x.2.2 ∉ seen)):=by
 have key:∀ L:List ME,e∈L→L.countP (fun x=>decide (x.2.2 ∉ seen ++ [e.2.2])) < L.countP (fun x=>decide (x.2.2 ∉ seen)):=by
  intro L hL
  induction L with
  | nil=>cases hL
  | cons n L ih=>
   have hm:L.countP (fun x=>decide (x.2.2 ∉ seen ++ [e.2.2]))≤L.countP (fun x=>decide (x.2.2 ∉ seen)):=List.countP_mono_left fun x _ h=>by
    simp only [decide_eq_true_eq,List.mem_append,not_or] at h ⊢; exact h.1
   rw [List.countP_cons,List.countP_cons]
   rcases List.mem_cons.1 hL with rfl | hL
   ·rw [if_neg (by simp),if_pos (by simpa using hn)]; omega
   ·have:=ih hL
    by_cases h1:n.2.2∈seen ++ [e.2.2]
    ·rw [if_neg (by rw [decide_eq_true_eq]; exact fun h=>h h1)]; split <;> omega
    ·have h2:n.2.2 ∉ seen:=fun h=>h1 (List.mem_append_left _ h)
     rw [if_pos (by rw [decide_eq_true_eq]; exact h1),if_pos (by rw [decide_eq_true_eq]; exact h2)]; omega
 exact key es he
theorem Zqr:∀ {m:Bd} {p:Nat × Ty},p∈m→∃ T,Zcl m p.1=some T
 | (w,u) :: m,p,h=>by
  simp only [Zcl]
  by_cases e:w=p.1
  ·exact ⟨u,by rw [if_pos e]⟩
  ·rw [if_neg e]
   refine Zqr ((List.mem_cons.1 h).resolve_left fun h=>?_)
   subst h; exact e rfl
theorem Yex {Q:QT} {h0:Zaa} {G:Gr} {N:List Nat} {lk:Nat→Option Nat} {Z:Nat→Prop} {sc:List (Nat × Nat)} {mi mo r clk:Nat} {es:List ME} {F:Nat→Ty} (g:GH h0 G N lk Z) (ok:GOk G N lk) (cl:Cls G N lk)
  (hsc:∀ p∈sc,p.2∈N∧G.hd p.2=p.1∧Zam p.1=true∧Zsk sc p.1=some p.2) (hF:∀ p∈sc,VT G lk G.hd p.2 (F p.1)) (hFk:∀ p∈sc,(F p.1=.k p.1 ↔ lk p.2=none)) (hFok:∀ p∈sc,(F p.1).ok=true)
  (hFo:∀ v,Zam v=true→Zsk sc v=none→F v=.k v) (hm:h0[mi]?=some (.map es clk)) (hk:es.map (·.1)=sc.map (fun p=>Zad.str [p.1])) (hv:es.map (·.2.1)=sc.map (fun p=>Zad.ptr (some (p.2,0)))) (hnd:(es.map (·.2.2)).Nodup) (hlt:∀ e∈es,e.2.2 < clk)
  (hmo:∃ es' k',h0[mo]?=some (.map es' k')) (hr0:∃ a b c d,h0[r]?=some (.miter a b c d)) (hne1:mi≠mo) (hne2:mi≠r) (hne3:mo≠r)
  (hyes:∀ m h',Zwp h' mo m→(∀ v,Zcl m v=Zcl (Zjh F) v)→BOk 60 m→Znn F=true→Zhl mo r h0 h'→Zcj.A9x0 Q (some mo) h') (hno:∀ h',Zhl mo r h0 h'→Znn F=false→Q (.tup [.slice none 0 0 true,.bool false]) h') :
  ∀ (h:Zaa) (seen:List Nat),Zhl mo r h0 h→h[r]?=some (.miter (some mi) clk seen clk)→(∃ m,Zwp h mo m∧BOk 60 m∧(∀ (j:Nat) (e:ME) (c x:Nat),es[j]?=some e→sc[j]?=some (c,x)→e.2.2∈seen→lk x≠none→Zcl m c=some (F c))∧∀ v T,Zcl m v=some T→T=F v∧∃ x,(v,x)∈sc∧lk x≠none) →
   Zcj.L9 Q (some mo) r h:=by
 intro h seen hK hr hm0
 refine Zcj.L9ind (J:=fun (seen:List Nat) h=>Zhl mo r h0 h∧h[r]?=some (.miter (some mi) clk seen clk)∧(∃ m,Zwp h mo m∧BOk 60 m∧(∀ (j:Nat) (e:ME) (c x:Nat),es[j]?=some e→sc[j]?=some (c,x)→e.2.2∈seen→lk x≠none→Zcl m c=some (F c))∧∀ v T,Zcl m v=some T→T=F v∧∃ x,(v,x)∈sc∧lk x≠none)) (m:=fun seen=>es.countP (fun x=>decide (x.2.2 ∉ seen))) (hr:=?_) (g:=seen) (hj:=⟨hK,hr,hm0⟩)
 clear hm0 hr hK seen h
 rintro seen h ⟨hK,hr,m,rm,bo,inv1,inv2⟩ R hR
 unfold Zcj.L9t
 have hmi:h[mi]?=some (.map es clk):=by rw [hK.2 mi (Own.lt hm) hne1 hne2]; exact hm
 have hlen:es.length=sc.length:=by have:=congrArg List.length hk; simpa using this
 simp only [Zms,hr,Yjx,Zbv,hmi]
 refine ⟨⟨hlt,Nat.le_refl _⟩,fun hall=>?_,fun e he hns=>?_⟩
 ·refine hyes m h rm (fun v=>?_) bo ?_ hK
  ·rw [Zjl]
   cases hb:Zcl m v with
   | some T=>
    obtain ⟨rfl,x,hx,hlx⟩:=inv2 v T hb
    obtain ⟨_,_,h3,_⟩:=hsc _ hx
    have h4:¬ F v=.k v:=fun e=>hlx ((hFk _ hx).1 e)
    simp only at h3
    rw [if_pos ⟨h3,h4⟩]
   | none=>
    split
    ·rename_i hc
     obtain ⟨h1,h2⟩:=hc
     exfalso
     cases hg:Zsk sc v with
     | none=>exact h2 (hFo v h1 hg)
     | some x=>
      have hx:=Zqn hg
      obtain ⟨j,hj⟩:=List.getElem?_of_mem hx
      have hjl:=(List.getElem?_eq_some_iff.1 hj).1
      have hje:es[j]?=some es[j]:=List.getElem?_eq_getElem (by omega)
      have:=inv1 j _ v x hje hj (hall _ (List.getElem_mem _)) (fun e=>h2 ((hFk _ hx).2 e))
      rw [hb] at this; cases this
    ·rfl
  ·unfold Znn
   rw [List.all_eq_true]
   intro v hv'
   have hvv:=(Zdv v).1 hv'
   by_cases hfv:F v=.k v
   ·simp [hfv]
   ·cases hg:Zsk sc v with
    | none=>exact absurd (hFo v hvv hg) hfv
    | some x=>
     have hx:=Zqn hg
     obtain ⟨j,hj⟩:=List.getElem?_of_mem hx
     have hjl:=(List.getElem?_eq_some_iff.1 hj).1
     have hje:es[j]?=some es[j]:=List.getElem?_eq_getElem (by omega)
     have hb:=inv1 j _ v x hje hj (hall _ (List.getElem_mem _)) (fun e=>hfv ((hFk _ hx).2 e))
     have:=(bo.var _ (Zib hb)).2.2
     simp only at this
     simp [this]
 ·obtain ⟨j,hj⟩:=List.getElem?_of_mem he
  have hjl:=(List.getElem?_eq_some_iff.1 hj).1
  obtain ⟨c,x,hcx⟩:∃ c x,sc[j]?=some (c,x):=⟨_,_,List.getElem?_eq_getElem (by omega)⟩
  obtain ⟨e1,e2,st⟩:=e
  have he1:e1=.str [c]:=by
   have:=congrArg (·[j]?) hk
   simp only [List.getElem?_map,hj,hcx,Option.map_some,Option.some.injEq] at this; exact this
  have he2:e2=.ptr (some (x,0)):=by
   have:=congrArg (·[j]?) hv
   simp only [List.getElem?_map,hj,hcx,Option.map_some,Option.some.injEq] at this; exact this
  subst he1; subst he2
  have hxs:=List.mem_of_getElem? hcx
  obtain ⟨hxN,hxh,hcv,hng⟩:=hsc _ hxs
  simp only at hxN hxh hcv hng hns
  simp only [Zvw,Zba]
  generalize hh1:h.set r (.miter (some mi) clk (seen ++ [st]) clk)=h1
  have hr1:h1[r]?=some (.miter (some mi) clk (seen ++ [st]) clk):=by rw [← hh1]; exact Zch hr
  have k1:∀ q,q≠r→h1[q]?=h[q]?:=fun q hq=>by rw [← hh1]; exact Zbr fun e=>hq e.symm
  have l1:h1.length=h.length:=by rw [← hh1]; simp
  have K1:Zhl mo r h0 h1:=hK.trans ⟨by omega,fun q hq _ h2=>k1 q h2⟩
  have rm1:Zwp h1 mo m:=rm.eq (k1 mo hne3)
  have hm1:h1[mi]?=some (.map es clk):=by rw [k1 mi hne2]; exact hmi
  have g1:GH h1 G N lk Z:=g.agree K1.1 fun q t cs ro hq=>K1.2 q (Own.lt hq) (fun e=>by subst e; obtain ⟨_,_,hx⟩:=hmo; rw [hx] at hq; cases hq) (fun e=>by subst e; obtain ⟨_,_,_,_,hx⟩:=hr0; rw [hx] at hq; cases hq)
  simp only [hr1,xMp,hm1]
  refine ⟨⟨hnd,by trivial⟩,(.str [c],.ptr (some (x,0)),st),he,seen,rfl,?_⟩
  simp only [Zvw]
  obtain ⟨kp,en,hp,hen0,henN⟩:=ok.ends hxN
  refine (Zux g1 ok hxN hp hen0).mono ?_
  rintro v h2 ⟨rfl,rfl⟩
  simp only [Zbu]
  have hdec:=Ygp he hns
  -- only the one more stamp
  have same_ix:∀ (j':Nat) (e':ME) (c' x':Nat),es[j']?=some e'→sc[j']?=some (c',x')→e'.2.2∈seen ++ [st]→e'.2.2∈seen ∨ (c'=c∧x'=x):=by
   intro j' e' c' x' hj' hs' hin
   rcases List.mem_append.1 hin with hin | hin
   ·exact .inl hin
   ·right
    rw [List.mem_singleton] at hin
    have h1:(es.map (·.2.2))[j']?=some st:=by rw [List.getElem?_map,hj',Option.map_some,hin]
    have h2:(es.map (·.2.2))[j]?=some st:=by rw [List.getElem?_map,hj,Option.map_some]
    have hjj:j'=j:=by
     obtain ⟨a1,b1⟩:=List.getElem?_eq_some_iff.1 h1
     obtain ⟨a2,b2⟩:=List.getElem?_eq_some_iff.1 h2
     exact (List.getElem_inj (h₀:=a1) (h₁:=a2) hnd).1 (b1.trans b2.symm)
    subst hjj
    rw [hcx] at hs'
    cases hs'; exact ⟨rfl,rfl⟩
  by_cases hex:en=x
  ·subst hex
   refine .inl ⟨rfl,?_⟩
   simp only [Zaz]
   refine hR (seen ++ [st]) _ hdec ⟨K1,hr1,m,rm1,bo,fun j' e' c' x' hj' hs' hin hlx=>?_,inv2⟩
   rcases same_ix j' e' c' x' hj' hs' hin with h | ⟨rfl,rfl⟩
   ·exact inv1 j' e' c' x' hj' hs' h hlx
   ·exact absurd hen0 hlx
  ·refine .inr ⟨hex,Zgo g1 henN,Zgo g1 hxN,?_⟩
   simp only [Zat]
   have hlx:lk x≠none:=fun h=>hex (hp.at_end h)
   have hvt:=hF _ hxs
   simp only at hvt
   refine (Yjv ok cl _ (Nat.le_refl _) g1 hxN hvt).mono ?_
   rintro v h3 ⟨rfl,s,rfl,hs61,hst⟩
   simp only [Zcb,Zaf,Zap,Zag,Zan]
   have hfne:¬ F c=.k c:=fun e=>hlx ((hFk _ hxs).1 e)
   refine Zdf (fun hb=>?_) (fun hb=>?_)
   ·have hb:=of_decide_eq_false hb
    refine hno _ K1 ?_
    unfold Znn
    rw [List.all_eq_false]
    exact ⟨c,(Zdv c).2 hcv,by simp [hfne,hb]⟩
   ·have hb:=of_decide_eq_true hb
    have hs':=hst hb
    subst hs'
    obtain ⟨es2,clk2,ho2,hk2,hv2,hnd2,hlt2⟩:=id rm1
    simp only [ho2,Zzv]
    have hol:=Own.lt ho2
    have fin:∀ (m':Bd) (es':List ME) (k':Nat),Zwp (h3.set mo (.map es' k')) mo m'→BOk 60 m'→Zcl m' c=some (F c)→(∀ v,v≠c→Zcl m' v=Zcl m v)→R (some mo) r (h3.set mo (.map es' k')):=by
     intro m' es' k' rm' bo' hc hoth
     have bc:∀ c',Zcl m c'=some (F c')→Zcl m' c'=some (F c'):=fun c' hb'=>by
      by_cases e:c'=c
      ·rw [e]; exact hc
      ·rw [hoth c' e]; exact hb'
     refine hR (seen ++ [st]) _ hdec ⟨K1.trans (Zhl.set1 mo r h3 _),by rw [Zbr hne3]; exact hr1,m',rm',bo',fun j' e' c' x' hj' hs' hin hlx'=>?_,fun v T hv'=>?_⟩
     ·rcases same_ix j' e' c' x' hj' hs' hin with h | ⟨rfl,rfl⟩
      ·exact bc c' (inv1 j' e' c' x' hj' hs' h hlx')
      ·exact hc
     ·by_cases e:v=c
      ·subst e
       rw [hc] at hv'
       exact ⟨(Option.some.inj hv').symm,x,hxs,hlx⟩
      ·rw [hoth v e] at hv'; exact inv2 v T hv'
    cases hg:Zcl m c with
    | none=>
     rw [Zjn hk2 hg]
     refine fin (m ++ [(c,F c)]) _ _ ⟨_,_,List.getElem?_set_self hol,by simp [hk2],by simp [hv2],?_,?_⟩ ⟨fun p hp=>?_,?_⟩ (by rw [Ziy,hg]; simp) (fun v hv'=>?_)
     ·rw [List.map_append,List.nodup_append]
      refine ⟨hnd2,by simp,?_⟩
      intro a ha b hb' e
      simp at hb'
      obtain ⟨z,hz,rfl⟩:=List.mem_map.1 ha
      have:=hlt2 z hz; omega
     ·intro e he
      rcases List.mem_append.1 he with he | he
      ·have:=hlt2 e he; omega
      ·simp at he; subst he; simp
     ·rcases List.mem_append.1 hp with hp | hp
      ·exact bo.var p hp
      ·rw [List.mem_singleton.1 hp]; exact ⟨hcv,hFok _ hxs,hb⟩
     ·rw [List.map_append,List.nodup_append]
      refine ⟨bo.nd,by simp,?_⟩
      intro a ha b hb' e
      simp at hb'
      subst hb'; subst e
      obtain ⟨p,hp,rfl⟩:=List.mem_map.1 ha
      obtain ⟨T,hT⟩:=Zqr hp
      rw [hg] at hT; cases hT
     ·rw [Ziy]
      cases Zcl m v with
      | some T=>rfl
      | none=>rw [if_neg fun e=>hv' e.symm]
    | some T=>
     obtain ⟨hT,_⟩:=inv2 c T hg
     subst hT
     obtain ⟨j2,b2,hf2,hj2⟩:=Zjp (k:=0) hk2 hv2 hg
     rw [hf2]
     simp only [Nat.zero_add]
     rw [Zkf hj2 rfl]
     exact fin m es2 clk2 ⟨es2,clk2,List.getElem?_set_self hol,hk2,hv2,hnd2,hlt2⟩ bo hg (fun _ _=>rfl)
def Ylz (s t:List Nat) (h:Zaa) (v:Zad) (h':Zaa):Prop:=Zbi h.length h h'∧∃ a n c e,v=.tup [.slice a n c e,.bool (Zgp s t).isSome]∧n≤c∧Zfa Zaq eP h.length h' a n ((Zgp s t).getD [])
theorem Zqe {s t:List Nat} (h:(Znl s && Znl t)=false):Zgp s t=none:=by
 unfold Zgp
 split
 ·rename_i a b ha hb; rw [Zpi ha,Zpi hb] at h; cases h
 ·rfl
theorem Zqq {s t:List Nat} {h h':Zaa} (hn:Zgp s t=none) (S:Zbi h.length h h'):Ylz s t h (.tup [.slice none 0 0 true,.bool false]) h':=
 ⟨S,none,0,0,true,by rw [hn]; rfl,Nat.le_refl _,by rw [hn]; exact ⟨rfl,.inl rfl⟩⟩
theorem Ycs {m m':Bd} (h:∀ v,Zcl m v=Zcl m' v):bdL m=bdL m':=by
 unfold bdL
 congr 1
 funext v
 rw [h v]
theorem Zjz (s t:List Nat) (h:Zaa):Zac pg Zem [.str s,.str t] h (Ylz s t h):=by
 apply Zcj.call
 refine (Zhi s h).mono ?_
 rintro v h1 ⟨rfl,s1⟩
 simp only [Zag]
 refine Zdf (fun hn=>Zqq (Zqe (by rw [hn]; rfl)) s1) (fun hs=>?_)
 refine (Zhi t h1).mono ?_
 rintro v h2 ⟨rfl,s2⟩
 simp only [Zag]
 have S2:=s1.cat s2
 refine Zdf (fun hn=>Zqq (Zqe (by rw [hn]; simp)) S2) (fun ht=>?_)
 obtain ⟨a,ha⟩:=Zlf hs
 obtain ⟨b,hb⟩:=Zlf ht
 obtain ⟨a1,a2,a3⟩:=Zbw.1 ha
 obtain ⟨b1,b2,b3⟩:=Zbw.1 hb
 apply Zcj.J3i
 simp only [Zba]
 generalize hh3:h2 ++ [Zci.map [] 0]=h3
 have s3:Zbi h2.length h2 h3:=by rw [← hh3]; exact Zav
 have m3:h3[h2.length]?=some (.map [] 0):=by rw [← hh3]; simp
 have l3:h3.length=h2.length + 1:=by rw [← hh3]; simp
 have hl2:=S2.le
 refine (Zzk ha (ShS.nil m3 ⟨fun _=>0,fun _=>[]⟩ fun _=>False) (fun z hz=>hz.elim)).mono ?_
 rintro v h4 ⟨q1,G1,L1,sc1,rfl,R1⟩
 simp only [Zbu]
 have l4:=R1.fr.le
 have st1:=R1.st
 simp only [List.nil_append] at st1
 refine (Zzk hb st1 (fun z hz=>hz.elim)).mono ?_
 rintro v h5 ⟨q2,G,L2,sc,rfl,R2⟩
 simp only [Zbu]
 have l5:=R2.fr.le
 have st:=R2.st
 have q1N1:q1∈L1:=by simpa using R1.qN
 have q1N:q1∈L1 ++ L2:=List.mem_append_left _ q1N1
 have q2N:=R2.qN
 have ok:GOk G (L1 ++ L2) (fun _=>none):=st.gok
 have nv:Yca G (L1 ++ L2) G.hd Zam:=by
  refine ⟨fun n _ h=>h,fun n _ h=>h,fun n hn m hm hv hv' he=>?_⟩
  have key:∀ n∈L1 ++ L2,Zam (G.hd n)=true→Zsk sc (G.hd n)=some n:=fun n hn hv=>by
   rcases List.mem_append.1 hn with hn | hn
   ·have hh:=(R2.ag n hn).1
    rw [hh] at hv ⊢
    obtain ⟨r,hr⟩:=R2.ext
    exact (st.sin (G1.hd n,n) (by rw [hr]; exact List.mem_append_left _ (R1.var n hn hv))).2.2.2
   ·exact (st.sin _ (R2.var n hn hv)).2.2.2
  have e1:=key n hn hv
  have e2:=key m hm hv'
  rw [he,e2] at e1; exact (Option.some.inj e1).symm
 have ra:Raw G G.hd q1 a:=R1.raw.agree R2.ag st1.cl (fun x hx=>(R2.ag x hx).1) q1N1
 have rb:Raw G G.hd q2 b:=R2.raw
 have sb1:∀ x∈L1,Sub G q1 x:=fun x hx=>(R1.new x hx).2.agree R2.ag st1.cl q1N1
 have w:Two G (L1 ++ L2) G.hd Zam q1 q2 a b:=by
  refine ⟨q1N,q2N,nv,ra,rb,fun n hn=>?_,fun x hx=>?_⟩
  ·rcases List.mem_append.1 hn with hn | hn
   ·exact ra.under ok (sb1 n hn) q1N
   ·exact rb.under ok (R2.new n hn).2 q2N
  ·rcases List.mem_append.1 hx with hx | hx
   ·exact .inl (sb1 x hx)
   ·exact .inr (R2.new x hx).2
 have S5:Zbi h.length h h5:=⟨by omega,fun j hj=>by
  rw [R2.fr.eq j (by omega) (by omega),R1.fr.eq j (by omega) (by omega),s3.eq j (by omega)]; exact S2.eq j hj⟩
 have none_of:(¬ ∃ θ:Nat→Ty,sb Zam θ a=sb Zam θ b)→Zgp s t=none:=fun hno=>by
  unfold Zgp; rw [ha,hb]; simp only; rw [Zts hno]
 refine (Ygq _ (Nat.le_refl _) st.gh ok q1N q2N).mono ?_
 rintro v h6 ⟨o6,hr6⟩
 have fresh:∀ n∈L1 ++ L2,h2.length < n:=fun n hn=>by
  rcases List.mem_append.1 hn with hn | hn
  ·have:=(R1.new n hn).1; omega
  ·have:=(R2.new n hn).1; omega
 have S6:Zbi h.length h h6:=⟨by have:=o6.1; omega,fun j hj=>by
  rw [o6.2 j (by omega) fun hj'=>by have:=fresh j hj'; omega]; exact S5.eq j hj⟩
 rcases hr6 with ⟨rfl,lk,y,g6⟩ | ⟨rfl,no⟩
 ·simp only [Zag,Bool.not_true,Zat]
  refine (Yiz y.gok g6 q1N).mono ?_
  rintro v h7 ⟨s7,⟨rfl,hno⟩ | ⟨rfl,hT⟩⟩
  ·simp only [Zag,Bool.not_false,Zaz]
   exact Zqq (none_of (w.endless y hno)) (S6.cat s7)
  ·simp only [Zag,Bool.not_true,Zat]
   obtain ⟨T,hT⟩:=hT G.hd
   have hall:=w.all y hT
   have mg:=w.mgu y hT
   generalize hFd:grF G (L1 ++ L2) lk G.hd=F at mg
   have hu:Zgp s t=if Znn F then some (bdL (Zjh F)) else none:=by
    unfold Zgp; rw [ha,hb]; simp only; rw [Zml mg]
   have g7:=g6.same s7
   have S7:=S6.cat s7
   obtain ⟨es,clk,hm5,hk,hv,hnd,hlt⟩:=id st.map
   have hm6:h6[h2.length]?=some (.map es clk):=by rw [o6.2 _ (Own.lt hm5) fun hj=>by have:=fresh _ hj; omega]; exact hm5
   have hm7:=s7.get hm6 (Own.lt hm6)
   apply Zcj.J7i
   simp only [Zba]
   generalize hh8:h7 ++ [Zci.map [] 0]=h8
   have s8:Zbi h7.length h7 h8:=by rw [← hh8]; exact Zav
   have o8:h8[h7.length]?=some (.map [] 0):=by rw [← hh8]; simp
   have l8:h8.length=h7.length + 1:=by rw [← hh8]; simp
   have hm8:=s8.get hm7 (Own.lt hm7)
   simp only [Zbv,hm8,Yle]
   generalize hh9:h8 ++ [Zci.miter (some h2.length) clk [] clk]=h9
   have s9:Zbi h8.length h8 h9:=by rw [← hh9]; exact Zav
   have r9:h9[h8.length]?=some (.miter (some h2.length) clk [] clk):=by rw [← hh9]; simp
   have hm9:=s9.get hm8 (Own.lt hm8)
   have o9:=s9.get o8 (Own.lt o8)
   have S9:=(S7.cat s8).cat s9
   have hml:=Own.lt hm7
   have hvt:∀ p∈sc,∃ x,VT G lk G.hd p.2 x:=fun p hp=>hall _ (st.sin p hp).1
   have hbnd:∀ p∈sc,VT G lk G.hd p.2 (F p.1)∧(F p.1=.k p.1 ↔ lk p.2=none):=fun p hp=>by
    obtain ⟨i1,i2,i3,_⟩:=st.sin p hp
    obtain ⟨x,hx⟩:=hvt p hp
    have:=w.bound y i1 (by rw [i2]; exact i3) hx
    rw [hFd,i2] at this
    rw [this.1]
    exact ⟨hx,this.2⟩
   have hl7:=S7.le
   refine Yex (Z:=fun _=>False) ((g7.same s8).same s9) y.gok y.cls (fun p hp=>st.sin p hp) (fun p hp=>(hbnd p hp).1) (fun p hp=>(hbnd p hp).2) (fun p hp=>mg.2 p.1 (st.sin p hp).2.2.1) (fun v hv' hg=>?_) hm9 hk hv hnd hlt ⟨_,_,o9⟩ ⟨_,_,_,_,r9⟩ (by omega) (by omega) (by omega)
    (fun m h' rm hb' bo hS K=>?_) (fun h' K hS=>?_) h9 [] (Zhl.refl _ _ _) r9 ⟨[],⟨[],0,o9,rfl,rfl,by simp,by simp⟩,BOk.nil,fun j e c x _ _ hin=>(by cases hin),fun v T hv'=>(by cases hv')⟩
   ·-- a variable of neither type
    rw [← hFd]
    unfold grF
    rw [dif_neg]
    rintro ⟨s',x,hx,hxv,rfl,_⟩
    have key:Zsk sc (G.hd x)=some x:=by
     rcases List.mem_append.1 hx with hx | hx
     ·have hh:=(R2.ag x hx).1
      rw [hh] at hxv ⊢
      obtain ⟨r,hr⟩:=R2.ext
      exact (st.sin (G1.hd x,x) (by rw [hr]; exact List.mem_append_left _ (R1.var x hx hxv))).2.2.2
     ·exact (st.sin _ (R2.var x hx hxv)).2.2.2
    rw [hg] at key; cases key
   ·apply Zcj.A9x0i
    refine (Zrf rm bo).mono ?_
    rintro v h10 ⟨s10,ra,rn,rc,re,rfl,hrc,fr⟩
    simp only [Zak]
    have SK:Zbi h.length h h':=⟨by have:=K.1; have:=S9.le; omega,fun j hj=>by
     rw [K.2 j (by have:=S9.le; omega) (by omega) (by omega)]; exact S9.eq j hj⟩
    rw [hS,if_pos rfl] at hu
    rw [Ycs hb'] at fr
    refine ⟨SK.cat s10,ra,rn,rc,re,by rw [hu]; rfl,hrc,?_⟩
    rw [hu]
    exact ⟨fr.1,fr.2.imp id fun ⟨i,hi1,hi2,hi3⟩=>⟨i,hi1,by have:=SK.le; omega,hi3⟩⟩
   ·rw [hS,if_neg (by simp)] at hu
    exact Zqq hu ⟨by have:=K.1; have:=S9.le; omega,fun j hj=>by
     rw [K.2 j (by have:=S9.le; omega) (by omega) (by omega)]; exact S9.eq j hj⟩
 ·simp only [Zag,Bool.not_false,Zaz]
  exact Zqq (none_of (w.no no)) S6
theorem Ycw (s t:List Nat) (h:Zaa):Zac pg Zjw [.str s,.str t] h fun v h'=>v=.tup [.str ((Zhw s t).getD []),.bool (Zhw s t).isSome]∧Zbi h.length h h':=by
 apply Znv.call
 refine (Zjz s t h).mono ?_
 rintro v h1 ⟨s1,a,n,c,e,rfl,hnc,f⟩
 simp only [Zcb,Zaf,Zak,Zag,Zan]
 cases hu:Zgp s t with
 | none=>
  have:Zhw s t=none:=by unfold Zhw; rw [hu]; rfl
  simp only [Option.isSome_none,Bool.not_false,Zaz]
  rw [this]
  exact ⟨rfl,s1⟩
 | some l=>
  rw [hu] at f
  simp only [Option.isSome_some,Bool.not_true,Zat,Option.getD_some] at f ⊢
  have hbk:=(Ztz hu).1
  have:Zhw s t=Zfu l s:=by unfold Zhw; rw [hu]; rfl
  rw [this]
  have hn:n≤1048576:=by
   rw [← f.1]
   unfold Zgp at hu
   split at hu
   ·split at hu
    ·split at hu
     ·cases hu; exact Nat.le_trans (Yfd _) (by decide)
     ·cases hu
    ·cases hu
   ·cases hu
  refine (Zhm (t:=s) (f.row Zgl) hn).mono ?_
  rintro v h2 ⟨rfl,s2⟩
  unfold Zhh
  cases Zfu l s with
  | none=>
   simp only [Zcb,Zaf,Zap,Zag,Zan]
   exact ⟨rfl,s1.cat s2⟩
  | some u=>
   simp only [Zcb,Zaf,Zap,Zag,Zan]
   exact ⟨rfl,s1.cat s2⟩
end Go.Sim

set_option linter.unusedVariables false
set_option linter.unusedSimpArgs false
set_option maxRecDepth 20000
namespace Go.Sim
open Go Go.RowKit

def Yib (m:Bd):Bool:=Zcf.all fun v=>match Zcl m v with | some t=>decide (t.txt.length≤60) | none=>true
theorem Ydj (F:Nat→Ty):Yib (Zjh F)=Znn F:=by
 unfold Yib Znn
 rw [Bool.eq_iff_iff,List.all_eq_true,List.all_eq_true]
 refine forall_congr' fun v=>forall_congr' fun hv=>?_
 rw [Zjl]
 have hvv:=(Zdv v).1 hv
 by_cases e:F v=.k v
 ·simp [e]
 ·simp [e,hvv]
def Yll (m:Bd) (h:Zaa) (v:Zad) (h':Zaa):Prop:=Zbi h.length h h'∧∃ a n c e,v=.tup [.slice a n c e,.bool (Yib m)]∧n≤c∧Zfa Zaq eP h.length h' a n (if Yib m then bdL m else [])
theorem Ybl {S:Nat→Prop} {h:Zaa} {i:Nat} {m:Bd} (rm:Zpf S h i m) (bo:BOk 4611686018427387904 m) :
  Zac pg Zko [.ptr (some (i,0))] h fun v h'=>Yll m h v h':=by
 apply Zdr.call
 simp only [Zba,Zao]
 generalize hh0:h ++ [Zci.cells Zaq [] false]=h0
 have s0:Zbi h.length h h0:=by rw [← hh0]; exact Zav
 have l0:h0.length=h.length + 1:=by rw [← hh0]; simp
 have o0:h0[h.length]?=some (.cells Zaq [] false):=by rw [← hh0]; simp
 refine Zdr.L3ind _ _ (J:=fun (g:Nat) a4 n4 c4 e4 x10 h'=>x10=(g:Int)∧g≤12∧Zbi h.length h h'∧n4=(Zwq m g).length∧n4≤c4∧Vec Zaq h' a4 n4 c4 (Zec eP (Zwq m g))∧(∀ i,a4=some (i,0)→h.length≤i)∧∀ v∈Zcf.take g,∀ t,Zcl m v=some t→t.txt.length≤60) (fun g=>12 - g) ?_ 0 _ _ _ _ _ _
  ⟨rfl,by omega,s0,by simp [Zwq],Nat.le_refl _,Vec.mk1 (by simpa [Zwq] using o0),fun i hi=>by cases hi; omega,fun v hv=>by simp at hv⟩
 rintro g a4 n4 c4 e4 x10 h' ⟨rfl,hg,hSm,rfl,hnc,hv,ha,hsm⟩ R hR
 unfold Zdr.L3t
 have hbl:=Ygi m g
 refine Zar (fun hlt=>?_) (fun hge=>?_)
 ·have hg':g < 12:=by omega
  obtain ⟨x,hx1,hx2,hx3⟩:=(rm.same hSm).get hg'
  have il:=(rm.same hSm).lt
  have hx:∃ (d:Nat) (a:Pt) (n c:Nat) (e:Bool),x=(.int .u8 (d:Int),.slice a n c e)∧(match (Zcf[g]?).bind (Zcl m) with | some t=>d=t.hd | none=>d=0):=by
   split at hx3
   ·rename_i t ht
    obtain ⟨ua,uc,ue,hu⟩:=hx3.shape
    simp only [List.cons.injEq,and_true] at hu
    exact ⟨t.hd,ua,t.ps.length,uc,ue,by rw [← hu.1,← hu.2],by first | rfl | rw [ht]⟩
   ·rename_i hn; exact ⟨0,none,0,0,true,hx3,by first | rfl | rw [hn]⟩
  obtain ⟨d,ua,un,uc,ue,rfl,hd⟩:=hx
  simp only [Int.toNat_natCast,hx2,Zao,Zaw,Zaf,Zan,Zae,Zak,Zba]
  generalize hq:h' ++ [Zci.cells Zab [.int .u8 0,.slice none 0 0 true] false]=hq'
  have sq:Zbi h'.length h' hq':=by rw [← hq]; exact Zav
  have hrq:Zcv hq' (.ptr (some (i,0 + g * 2))) 2=some [.int .u8 (d:Int),.slice ua un uc ue]:=by
   rw [← hx2]; simp only [Zcv,sq.eq i il]
  rw [hrq,← hq,Zgg]
  generalize hw:h' ++ [Zci.cells Zab [.int .u8 (d:Int),.slice ua un uc ue] false]=hw'
  have sw:Zbi h'.length h' hw':=by rw [← hw]; exact Zav
  have ow:hw'[h'.length]?=some (.cells Zab [.int .u8 (d:Int),.slice ua un uc ue] false):=by rw [← hw]; simp
  simp only [Zas,Zal ow,Nat.zero_add,List.getElem?_cons_zero,Zae,true_and]
  have SW:=hSm.cat sw
  have hsuc:=Ybr m g
  have step:(∀ v t,Zcf[g]?=some v→Zcl m v=some t→t.txt.length≤60)→∀ v∈Zcf.take (g + 1),∀ t,Zcl m v=some t→t.txt.length≤60:=fun hs v hv t ht=>by
   rw [List.take_succ,List.mem_append] at hv
   rcases hv with hv | hv
   ·exact hsm v hv t ht
   ·exact hs v t (by simpa using hv) ht
  have skip:(Zcf[g]?).bind (Zcl m)=none→Zdr.J9 (fun v h'=>Yll m h v h') R (g:Int) (some (i,0)) a4 (Zwq m g).length c4 e4 hw':=by
   intro hn
   have hsame:Zwq m (g + 1)=Zwq m g:=by
    rw [hsuc]
    cases hvg:Zcf[g]? with
    | none=>simp
    | some v=>rw [hvg,Option.bind_some] at hn; simp [hn]
   apply Zdr.J9i
   rw [Zby (by omega)]
   exact hR (g + 1) _ _ _ _ _ _ (by omega) ⟨rfl,by omega,SW,by rw [hsame],hnc,by rw [hsame]; exact hv.same sw,ha,step fun v t h1 h2=>by rw [h1,Option.bind_some,h2] at hn; cases hn⟩
  refine ⟨by omega,?_⟩
  cases hb:(Zcf[g]?).bind (Zcl m) with
  | none=>
   rw [hb] at hd
   simp only at hd
   subst hd
   simp only [show (((0:Nat):Int) == 0)=true from rfl,Zaz]
   exact skip hb
  | some t=>
   rw [hb] at hd hx3
   simp only at hd hx3
   obtain ⟨v,hvg,hbv⟩:=Option.bind_eq_some_iff.1 hb
   have hu:=bo.var _ (Zib hbv)
   have hg6:g < 6:=(List.getElem?_eq_some_iff.1 hvg).1
   have hd0:((d:Int) == 0)=false:=by
    have:=Zsl hu.2.1
    have hne:t.hd≠0:=fun e=>by rw [e] at this; simp at this
    simp; omega
   rw [show decide ((g:Int) ≥ 6)=false by simp; omega]
   simp only [hd0,Zat]
   apply Zdr.J6i
   rw [← hw,Ybp,hw]
   simp only [Zaw,Zaf,Zan,Zae,Zak]
   refine (Zjx _ (Nat.le_refl _) hu.2.2 (hx3.same sw)).mono ?_
   rintro v' h3 ⟨rfl,s3⟩
   have o3:=s3.get ow (Own.lt ow)
   simp only [Zae]
   refine Zar (fun hbig=>?_) (fun hle60=>?_)
   ·have:Yib m=false:=by
     unfold Yib
     rw [List.all_eq_false]
     exact ⟨v,List.mem_of_getElem? hvg,by rw [hbv]; simp; omega⟩
    refine ⟨(SW.cat s3).cat Zav,_,0,0,true,by rw [this],Nat.le_refl _,?_⟩
    rw [this]; exact ⟨rfl,.inl rfl⟩
   have hu2:t.txt.length≤60:=by omega
   simp only [Zfv o3 (show 0 + 2≤_ by simp),List.drop_zero,List.take_succ_cons,List.take_zero,Zaw,Zaf,Zan,Zae,Zak]
   rw [Zby (by omega),show (((g + 1:Nat):Int))=(g:Int) + 1 by omega,Yhg hvg]
   refine ⟨⟨by omega,by omega,by simp; omega⟩,(Znu _ (Nat.le_refl _) (Nat.le_trans hu2 (by decide)) hu.2.1 ((hx3.same sw).same s3)).mono ?_⟩
   rintro v' h4 ⟨rfl,s4⟩
   simp only [Zap,Zba]
   have S4:=(SW.cat s3).cat s4
   refine (((hv.same sw).same s3).same s4).pushN Zrk Zvo Zvn Zvv (by rw [Zbc Zgl]) rfl (by omega) rfl (by omega) (fun h6 hl6 hi6 hk6=>?_)
   simp only [Zak]
   apply Zdr.J9i
   rw [Zby (by omega)]
   have hle:=S4.le
   have hs':Zwq m (g + 1)=Zwq m g ++ [([v],t.txt)]:=by rw [hsuc,hvg]; simp [hbv]
   refine hR (g + 1) _ _ _ _ _ _ (by omega) ⟨rfl,by omega,⟨by omega,fun j hj=>?_⟩,by rw [hs']; simp,Nat.le_refl _,Vec.mk1 ?_,fun i hi=>by cases hi; omega,step fun v' t' h1 h2=>by rw [hvg] at h1; cases h1; rw [hbv] at h2; cases h2; exact hu2⟩
   ·rw [hk6 j (by omega) fun i hi=>by have:=ha i hi; omega]; exact S4.eq j hj
   ·rw [hi6,hs',Zrx]; rfl
 ·apply Zdr.A3x0i
  have:g=12:=by omega
  subst this
  have hb12:Zwq m 12=bdL m:=by unfold Zwq bdL; rw [List.take_of_length_le (by decide)]
  rw [hb12] at hv hnc ⊢
  have hsmall:Yib m=true:=by
   unfold Yib
   rw [List.all_eq_true]
   intro v hvv
   cases hbv:Zcl m v with
   | none=>rfl
   | some t=>simpa using hsm v (by rw [List.take_of_length_le (by decide)]; exact hvv) t hbv
  refine ⟨hSm,a4,_,c4,e4,by rw [hsmall],hnc,?_⟩
  rw [hsmall]
  exact hv.fresh (b:=h.length) rfl fun i hi=>ha i hi
theorem Yli {σ:Nat→Option Ty} {F:Nat→Ty} (rs:Rsv V12 σ F) (hσ:∀ c t,σ c=some t→(Ty.k c).ok=true) {S:Nat→Prop} {h:Zaa} {i:Nat} (r:Zna S h i (tg σ F 12)):Zpf S h i (Zjh F):=by
 obtain ⟨rows,h1,h2,h3⟩:=r
 refine ⟨rows,h1,h2,fun k x hx=>?_⟩
 have hk:k < 12:=by rw [← h1]; exact (List.getElem?_eq_some_iff.1 hx).1
 obtain ⟨v,hv⟩:∃ v,Zee[k]?=some v:=⟨_,List.getElem?_eq_getElem (show k < Zee.length from hk)⟩
 have hvv:=Ydq hv
 have:=h3 k x v hx hv
 have hrk:Zlq v < 12:=by
  obtain ⟨k',hk',_,hix⟩:=Zji hvv
  unfold Zlq; rw [hix]; simpa using hk'
 have hfr:=rs.free hvv
 have heq:(Zcf[k]?).bind (Zcl (Zjh F))=tg σ F 12 v:=by
  by_cases hk6:k < 6
  ·have hvn:Zcf[k]?=some v:=by
    rw [← hv]
    match k,hk6 with
    | 0,_ | 1,_ | 2,_ | 3,_ | 4,_ | 5,_=>rfl
   have hown:Zam v=true:=(Zdv v).1 (List.mem_of_getElem? hvn)
   rw [hvn,Option.bind_some,Zjl]
   unfold tg
   by_cases hs:σ v=none
   ·rw [if_neg fun hc=>hc.2 (hfr.2 hs),if_neg fun hc=>hc.2.2 hs]
   ·rw [if_pos ⟨hown,fun e=>hs (hfr.1 e)⟩,if_pos ⟨hvv,hrk,hs⟩]
  ·have hvn:Zcf[k]?=none:=List.getElem?_eq_none (by show 6≤k; omega)
   rw [hvn,Option.bind_none]
   unfold tg
   rw [if_neg]
   rintro ⟨_,_,hs⟩
   cases hsv:σ v with
   | none=>exact hs hsv
   | some t=>
    have hok:=hσ v t hsv
    have:Zwr v=true:=by
     match k,hk,hk6 with
     | 6,_,_ | 7,_,_ | 8,_,_ | 9,_,_ | 10,_,_ | 11,_,_=>simp [Zee] at hv; subst hv; rfl
    rw [Zrw hok] at this; cases this
 rw [heq]
 exact this
theorem Ylo {c:Nat} (h:Zam c=true):Zdm c=true:=by
 unfold Zdm; simp [h]
theorem Yhb {c d:Nat} (hc:Zam c=true) (hd:Zam d=true) (h:Zlq c < Zlq d):c < d:=by
 have h1:=(Zdv c).2 hc
 have h2:=(Zdv d).2 hd
 simp only [Zcf,List.mem_cons,List.not_mem_nil,or_false] at h1 h2
 rcases h1 with rfl | rfl | rfl | rfl | rfl | rfl <;> rcases h2 with rfl | rfl | rfl | rfl | rfl | rfl <;> first | decide | exact absurd h (by decide)
theorem Ybv {a b:Ty} (ha:a.ok=true) (hb:b.ok=true) {σ:Nat→Option Ty} {F:Nat→Ty} (rs:Rsv V12 σ F) (hS:∀ θ,Sol V12 σ θ ↔ sb V12 θ a=sb V12 θ b) (hi:Inc Zlq V12 σ) (hσ:∀ c t,σ c=some t→(Ty.k c).ok=true∧t.ok=true∧t.size≤60) :
  Zpv a b=some F∧∀ c,Zam c=true→(F c).ok=true∧(F c).txt.length≤4611686018427387904:=by
 have hv:∀ c t,σ c=some t→Zam c=true:=fun c t h=>by
  have h1:=rs.dom c t h
  have h2:=Zrw (hσ c t h).1
  unfold V12 at h1; rw [h2,Bool.or_false] at h1; exact h1
 have r:Rsv Zam σ F:=⟨hv,rs.non,fun c t h=>by rw [rs.som c t h,Znb F (hσ c t h).2.1],rs.wlk⟩
 have hok:∀ c,Zam c=true→(F c).ok=true:=fun c hc=>by
  rw [← Zpl]
  exact r.okF (fun d hd=>Ylo hd) (fun d t h=>by rw [Zpl]; exact (hσ d t h).2.1) _ c (Nat.le_refl _) hc
 refine ⟨Zml ⟨MGU.of_res r (fun c d h hd=>?_) fun θ=>?_,hok⟩,fun c hc=>⟨hok c hc,?_⟩⟩
 ·exact Yhb (hv c _ h) hd (hi c d h (by simp [V12,hd]))
 ·rw [← Znb θ ha,← Znb θ hb,← hS θ]
  constructor
  ·intro h c t hc; rw [h c t hc,Znb θ (hσ c t hc).2.1]
  ·intro h c t hc; rw [h c t hc,Znb θ (hσ c t hc).2.1]
 ·have:=Yir r (fun c t h=>(hσ c t h).2.2) hc
  have h2:=Zqc (F c)
  have:(60:Nat) ^ 7=2799360000000:=by decide
  omega
theorem BOk.unifN {F:Nat→Ty} {n:Nat} (h:∀ c,Zam c=true→(F c).ok=true∧(F c).txt.length≤n):BOk n (Zjh F):=by
 refine ⟨fun p hp=>?_,?_⟩
 ·unfold Zjh at hp
  obtain ⟨v,hv,rfl⟩:=List.mem_map.1 hp
  rw [List.mem_filter] at hv
  have hvv:=(Zdv v).1 hv.1
  exact ⟨hvv,h v hvv⟩
 ·have:(Zjh F).map (·.1)=Zcf.filter fun v=>decide (F v≠.k v):=by unfold Zjh; rw [List.map_map]; simp [Function.comp_def]
  rw [this]; exact Zfc.filter _
theorem Zmt (s t:List Nat) (hs0:s.length≤1048576) (ht0:t.length≤1048576) (h:Zaa):Zac pg Zfs [.str s,.str t] h (Ylz s t h):=by
 apply Zhb.call
 refine (Zij s (by omega) h).mono ?_
 rintro v h1 ⟨s1,vs1,rfl,r1⟩
 obtain ⟨d1,a1,n1,c1,e1,rfl⟩:=Zmj r1
 simp only [Zcb,Zaf,Zdz,Zae,Zak,Zan,Zag,Zba]
 rw [Zgg]
 generalize hh2:h1 ++ [Zci.cells Zab [.int .u8 d1,.slice a1 n1 c1 e1] false]=h2
 have s2:Zbi h1.length h1 h2:=by rw [← hh2]; exact Zav
 have o2:h2[h1.length]?=some (.cells Zab [.int .u8 d1,.slice a1 n1 c1 e1] false):=by rw [← hh2]; simp
 simp only [Zas]
 refine (Zij t (by omega) h2).mono ?_
 rintro v h3 ⟨s3,vs3,rfl,r3⟩
 obtain ⟨d3,a3,n3,c3,e3,rfl⟩:=Zmj r3
 simp only [Zcb,Zaf,Zdz,Zae,Zak,Zan,Zag]
 rw [Zgg]
 generalize hh4:h3 ++ [Zci.cells Zab [.int .u8 d3,.slice a3 n3 c3 e3] false]=h4
 have s4:Zbi h3.length h3 h4:=by rw [← hh4]; exact Zav
 have o4:h4[h3.length]?=some (.cells Zab [.int .u8 d3,.slice a3 n3 c3 e3] false):=by rw [← hh4]; simp
 simp only [Zas]
 have S2:=s1.cat s2
 have S4:=(S2.cat s3).cat s4
 have o24:=s4.get (s3.get o2 (Own.lt o2)) (by have:=Own.lt o2; have:=s3.le; omega)
 have no:∀ hz,Zgp s t=none→Zbi h.length h hz→Ylz s t h (.tup [.slice (some (hz.length,0)) 0 0 true,.bool false]) (hz ++ [Zci.cells Zaq [] false]):=fun hz hn S=>
  ⟨S.cat Zav,_,0,0,true,by rw [hn]; rfl,Nat.le_refl _,by rw [hn]; exact ⟨rfl,.inl rfl⟩⟩
 cases hp:Zeh s with
 | none=>
  have:Znl s=false:=by unfold Znl; rw [hp]; rfl
  rw [this]
  simp only [Bool.not_false,Zaz]
  exact no _ (Zqe (by rw [this]; rfl)) S4
 | some a=>
  rw [Zpi hp]
  simp only [Bool.not_true,Zat]
  cases ht:Zeh t with
  | none=>
   have:Znl t=false:=by unfold Znl; rw [ht]; rfl
   rw [this]
   simp only [Bool.not_false,Zaz]
   exact no _ (Zqe (by rw [this]; simp)) S4
  | some b=>
   rw [Zpi ht]
   rw [hp] at r1
   rw [ht] at r3
   simp only at r1 r3
   obtain ⟨ha1,ha2,ha3⟩:=Zbw.1 hp
   obtain ⟨hb1,hb2,hb3⟩:=Zbw.1 ht
   simp only [Bool.not_true,Zat]
   apply Zhb.J5i
   rw [Zdp o24,Zdp o4]
   simp only [Zaw,Zaf,Zan,Zae,Zak,true_and]
   have l1:=s1.le; have l2:=s2.le; have l3:=s3.le; have l4:=s4.le
   have za:a.size≤60:=Nat.le_trans (Zoj a) (by rw [← ha2]; exact ha3)
   have zb:b.size≤60:=Nat.le_trans (Zoj b) (by rw [← hb2]; exact hb3)
   refine (Yax (P:=fun t=>t.ok=true∧t.size≤60) (fun t h=>Zqf (lf:=Zdm) (fun c hc=>by unfold Zpk; rw [hc]; rfl) (by rw [Zpl]; exact h.1)) (fun t h p hp=>⟨by rw [← Zpl]; exact Ydo (by rw [Zpl]; exact h.1) p hp,by have:=Ty.size_part hp; have:=h.2; omega⟩) (S:=fun j=>j < h4.length) (fun j hj=>hj) ⟨ha1,za⟩ ⟨hb1,zb⟩ ((((r1.same s2).same s3).same s4).below.mono fun j hj=>hj.2) ((r3.same s4).below.mono fun j hj=>hj.2)).mono ?_
   rintro v h6 ⟨s6,q,bl,rfl,hres⟩
   simp only [Zcb,Zaf,Zbu,Zag,Zan]
   have S6:=S4.cat s6
   rcases hres with ⟨rfl,σ,F,rs,hsol,hi,hσ,S',hS',m6⟩ | ⟨rfl,hno⟩
   ·obtain ⟨hu,hF⟩:=Ybv ha1 hb1 rs hsol hi fun c t h=>⟨(hσ c t h).1.1,(hσ c t h).2.1,(hσ c t h).2.2⟩
    simp only [Bool.not_true,Zat]
    refine (Ybl (Yli rs (fun c t h=>(hσ c t h).1.1) m6) (BOk.unifN hF)).mono ?_
    rintro v h7 ⟨s7,a7,n7,c7,e7,rfl,hc7,f7⟩
    simp only [Zcb,Zaf,Zak,Zag,Zan]
    have hr:Zgp s t=if Znn F then some (bdL (Zjh F)) else none:=by
     unfold Zgp; rw [hp,ht]; simp only; rw [hu]
    rw [Ydj] at f7 ⊢
    refine ⟨S6.cat s7,a7,n7,c7,e7,?_,hc7,?_⟩
    ·rw [hr]; cases Znn F <;> rfl
    ·have:(Zgp s t).getD []=if Znn F then bdL (Zjh F) else []:=by rw [hr]; cases Znn F <;> rfl
     rw [this]
     exact ⟨f7.1,f7.2.imp id fun ⟨i,ha,hb,hi⟩=>⟨i,ha,by have:=S6.le; omega,hi⟩⟩
   ·simp only [Bool.not_false,Zaz]
    refine no _ ?_ S6
    unfold Zgp; rw [hp,ht]; simp only
    rw [Zts]
    rintro ⟨θ,h⟩
    rw [← Znb θ ha1,← Znb θ hb1] at h
    exact hno θ h
theorem Zrg {s t:List Nat} {l:List Nd} (hu:Zgp s t=some l):l.length≤6:=by
 unfold Zgp at hu
 split at hu
 ·split at hu
  ·split at hu
   ·cases hu; exact Yfd _
   ·cases hu
  ·cases hu
 ·cases hu
theorem Yat (s t:List Nat) (hs0:s.length≤1048576) (ht0:t.length≤1048576) (h:Zaa):Zac pg Zkm [.str s,.str t] h fun v h'=>v=.tup [.str ((Zhw s t).getD []),.bool (Zhw s t).isSome]∧Zbi h.length h h':=by
 apply Znz.call
 refine (Zmt s t hs0 ht0 h).mono ?_
 rintro v h1 ⟨s1,a,n,c,e,rfl,hnc,f⟩
 simp only [Zcb,Zaf,Zak,Zag,Zan]
 cases hu:Zgp s t with
 | none=>
  have:Zhw s t=none:=by unfold Zhw; rw [hu]; rfl
  simp only [Option.isSome_none,Bool.not_false,Zaz]
  rw [this]
  exact ⟨rfl,s1⟩
 | some l=>
  rw [hu] at f
  simp only [Option.isSome_some,Bool.not_true,Zat,Option.getD_some] at f ⊢
  have hbk:=(Ztz hu).1
  have:Zhw s t=Zfu l s:=by unfold Zhw; rw [hu]; rfl
  rw [this]
  have hl6:=Zrg hu
  have hn:n≤1048576:=by rw [← f.1]; omega
  refine (Zpa (t:=s) (f.row Zgl) hn (fun p hp=>by have:=Zzi (Zid hbk hp).2; omega) (fun p hp x hx=>?_) hs0).mono ?_
  ·obtain ⟨v,t,hv,hvv,_⟩:=Zqg hbk hp
   rw [hv] at hx; simp at hx; subst hx
   simp only [Zam,Bool.or_eq_true,beq_iff_eq] at hvv; omega
  rintro v h2 ⟨rfl,s2⟩
  unfold Zhh
  cases Zfu l s with
  | none=>
   simp only [Zcb,Zaf,Zap,Zag,Zan]
   exact ⟨rfl,s1.cat s2⟩
  | some u=>
   simp only [Zcb,Zaf,Zap,Zag,Zan]
   exact ⟨rfl,s1.cat s2⟩
end Go.Sim

set_option linter.unusedVariables false
set_option linter.unusedSimpArgs false
set_option maxRecDepth 20000
namespace Go.Sim
open Go Go.RowKit

def eB (b:Nat):List Zad:=[.int .u8 (b:Int)]
theorem Zuy (x:Nat):(eB x).length=1:=rfl
def Rdr (h:Zaa) (i p:Nat):Prop:=∃ a n c e,∃ l:List Nat,h[i]?=some (.cells Ziz [.slice a n c e,.int .i64 (p:Int)] false)∧Row i h a n (Zec eB l)∧(∀ b∈l,b < 256)∧n≤2000
theorem Rdr.agree {h h':Zaa} {i p:Nat} (r:Rdr h i p) (hh:∀ j,j≤i→h'[j]?=h[j]?) (hl:h.length≤h'.length):Rdr h' i p:=by
 obtain ⟨a,n,c,e,l,hi,hr,hb,hn⟩:=r
 exact ⟨a,n,c,e,l,by rw [hh i (Nat.le_refl _)]; exact hi,hr.same ⟨hl,fun j hj=>hh j (by omega)⟩,hb,hn⟩
theorem Rdr.lt {h:Zaa} {i p:Nat} (r:Rdr h i p):i < h.length:=by obtain ⟨a,n,c,e,l,hi,_⟩:=r; exact Own.lt hi
theorem Rdr.same {h h':Zaa} {i p:Nat} (r:Rdr h i p) (s:Zbi h.length h h'):Rdr h' i p:=r.agree (fun j hj=>s.eq j (by have:=r.lt; omega)) s.le
theorem Rdr.app {h:Zaa} {i p:Nat} (r:Rdr h i p) (l:Zaa):Rdr (h ++ l) i p:=r.same (Zbi.app (Nat.le_refl _) _)
theorem Ybq {h:Zaa} {a:Pt} {n c:Nat} {e:Bool} {l:List Nat} (r:Row h.length h a n (Zec eB l)) (hb:∀ b∈l,b < 256) (hnc:n≤c):Zac pg Zjf [.slice a n c e] h fun v h'=>v=.ptr (some (h.length,0))∧Zbi h.length h h'∧Rdr h' h.length 0∧h'.length=h.length + 1:=by
 have hl:l.length=n:=by have:=r.1; rw [Zbc Zuy] at this; omega
 apply Zhf.call
 have fin:∀ (a:Pt) (n c:Nat) (e:Bool) (l:List Nat),Row h.length h a n (Zec eB l)→(∀ b∈l,b < 256)→n≤2000→Zhf.J3 (fun v h'=>v=.ptr (some (h.length,0))∧Zbi h.length h h'∧Rdr h' h.length 0∧h'.length=h.length + 1) a n c e h:=by
  intro a n c e l r hb hn
  apply Zhf.J3i
  simp only [Zba]
  exact ⟨by trivial,Zbi.app (Nat.le_refl _) _,⟨a,n,c,e,l,by simp,r.same (Zbi.app (Nat.le_refl _) _),hb,hn⟩,by simp⟩
 refine Zar (fun hgt=>?_) (fun hle=>fin a n c e l r hb (by omega))
 have hcut:Row h.length h a 2000 (Zec eB (l.take 2000)):=by
  obtain ⟨h1,h2⟩:=r
  have hlen:(Zec eB (l.take 2000)).length=2000:=by rw [Zbc Zuy,List.length_take]; omega
  refine ⟨hlen,.inr ?_⟩
  rcases h2 with h0 | ⟨i,o,t,all,ro,ha,hi,hg,hle,hcs⟩
  ·omega
  ·refine ⟨i,o,t,all,ro,ha,hi,hg,by omega,?_⟩
   have:=Zxa (enc:=eB) Zuy l 2000
   rw [Nat.mul_one] at this
   rw [← this,hcs,List.take_take,Nat.min_eq_left (by omega)]
 obtain ⟨_,h2⟩:=r
 rcases h2 with h0 | ⟨i,o,t,all,ro,ha,hi,hg,hle,hcs⟩
 ·omega
 ·subst ha
  simp only [Znk,Zhs]
  refine ⟨by omega,fun hlt=>?_,fun hno=>by omega⟩
  simp only [Zak]
  have e1:o + Int.toNat 0 * 1=o:=by simp
  have e2:((2000:Int) - 0).toNat=2000:=by omega
  rw [e1,e2]
  exact fin _ _ _ _ _ hcut (fun b hb'=>hb b (List.mem_of_mem_take hb')) (by omega)
theorem Ykq {x:Int} (h0:0≤x) (h1:x < 4611686018427387904):0≤IntKind.wrap .i64 ((BitVec.ofInt (IntKind.bits .i64) x ^^^ BitVec.ofInt (IntKind.bits .i64) (IntKind.wrap .i64 (Int.tdiv x 64))).toNat):=by
 obtain ⟨n,rfl⟩:∃ n:Nat,x=n:=⟨x.toNat,by omega⟩
 have hd:Int.tdiv (n:Int) 64=((n / 64:Nat):Int):=by rw [Int.tdiv_eq_ediv_of_nonneg (by omega)]; omega
 rw [hd,IntWalk.i64_in ((n / 64:Nat):Int) (by omega)]
 have hx:((BitVec.ofInt (IntKind.bits .i64) (n:Int)) ^^^ (BitVec.ofInt (IntKind.bits .i64) ((n / 64:Nat):Int))).toNat=n ^^^ (n / 64):=by
  rw [BitVec.toNat_xor,BitVec.toNat_ofInt,BitVec.toNat_ofInt]
  have e1:((n:Int) % ((2 ^ (IntKind.bits .i64):Nat):Int)).toNat=n:=by simp only [IntKind.bits]; omega
  have e2:(((n / 64:Nat):Int) % ((2 ^ (IntKind.bits .i64):Nat):Int)).toNat=n / 64:=by simp only [IntKind.bits]; omega
  rw [e1,e2]
 rw [hx]
 have hlt:n ^^^ (n / 64) < 2 ^ 62:=Nat.xor_lt_two_pow (by omega) (by omega)
 rw [IntWalk.i64_in _ (by omega)]; omega
theorem Zpc {x n:Int} (h0:0≤x) (hn:1≤n):0≤Int.tmod x n∧Int.tmod x n < n:=by
 rw [Int.tmod_eq_emod_of_nonneg h0]; exact ⟨Int.emod_nonneg _ (by omega),Int.emod_lt_of_pos _ (by omega)⟩
theorem Zfb {h:Zaa} {i p:Nat} (r:Rdr h i p) (hp:p≤1000000000000) (n:Int):Zac pg Zbn [.ptr (some (i,0)),.int .i64 n] h fun v h'=>
  ∃ x,v=.int .i64 x∧0≤x∧(1≤n→x < n)∧(n < 1→x=0)∧Zeo i h h'∧Rdr h' i (p + 1)∧h'.length=h.length:=by
 obtain ⟨a,m,c,e,l,hi,hr,hb,hm⟩:=r
 have hl:l.length=m:=by have:=hr.1; rw [Zbc Zuy] at this; omega
 apply Zhd.call
 simp only [Zao,Zal hi,Nat.zero_add,List.getElem?_cons_zero,List.getElem?_cons_succ,Zae]
 rw [IntWalk.i64_in _ (by omega),Zbj hi (by simp)]
 simp only [Zas]
 generalize hge:h.set i (Zci.cells Ziz (putRow [.slice a m c e,.int .i64 (p:Int)] 1 [.int .i64 ((p:Int) + 1)]) false)=h2
 have h2i:h2[i]?=some (.cells Ziz [.slice a m c e,.int .i64 ((p:Int) + 1)] false):=by rw [← hge,Zch hi]; simp [putRow]
 have hK:Zeo i h h2:=by rw [← hge]; exact Zeo.set _ _ _
 have h2l:h2.length=h.length:=by rw [← hge]; simp
 have hr2:Row i h2 a m (Zec eB l):=hr.same ⟨by omega,fun j hj=>by rw [← hge,Zbr (by omega)]⟩
 have hR2:Rdr h2 i (p + 1):=⟨a,m,c,e,l,by rw [h2i]; simp,hr2,hb,hm⟩
 refine Zar (fun hlt=>⟨0,rfl,by omega,by omega,fun _=>rfl,hK,hR2,h2l⟩) (fun hge1=>?_)
 simp only [Zal h2i,Nat.zero_add,List.getElem?_cons_zero,Zak]
 refine Zcq (fun h0=>⟨0,rfl,by omega,by omega,fun _=>rfl,hK,hR2,h2l⟩) (fun hne=>?_)
 have hm0:0 < m:=by omega
 have cell:∀ k,k < m→∃ ii o,∃ hk:k < l.length,a=some (ii,o)∧Zah h2 (.ptr (some (ii,o + k * 1)))=some (.int .u8 (l[k]:Int)):=by
  intro k hk
  obtain ⟨ii,o,hk',ha,_,hc⟩:=Row.el1 Zuy hr2 hk
  exact ⟨ii,o,hk',ha,hc⟩
 apply Zhd.J4i
 simp only [Zao,Zal h2i,Nat.zero_add,List.getElem?_cons_zero,List.getElem?_cons_succ,Zae,Zak]
 rw [show (p:Int) + 1 - 1=p by omega,IntWalk.i64_in (p:Int) (by omega)]
 refine Zar (fun hlt=>?_) (fun hge2=>?_)
 ·obtain ⟨ii,o,hk,rfl,hc⟩:=cell p (by omega)
  simp only [Zao,Int.toNat_natCast,hc,Zae]
  have hbb:=hb _ (List.getElem_mem hk)
  rw [IntWalk.i64_in _ (by omega)]
  have:=Zpc (x:=(l[p]:Int)) (n:=n) (by omega) (by omega)
  exact ⟨by omega,by omega,_,rfl,this.1,fun _=>this.2,by omega,hK,hR2,h2l⟩
 ·have t1:=Zpc (x:=(p:Int)) (n:=(m:Int)) (by omega) (by omega)
  have e1:Int.tmod (p:Int) (m:Int)=((p % m:Nat):Int):=by rw [Int.tmod_eq_emod_of_nonneg (by omega)]; omega
  have e2:IntKind.wrap .i64 ((p:Int) * 7)=((p * 7:Nat):Int):=by rw [IntWalk.i64_in _ (by omega)]; omega
  have e3:IntKind.wrap .i64 (((p * 7:Nat):Int) + 3)=((p * 7 + 3:Nat):Int):=by rw [IntWalk.i64_in _ (by omega)]; omega
  have e4:Int.tmod ((p * 7 + 3:Nat):Int) (m:Int)=(((p * 7 + 3) % m:Nat):Int):=by rw [Int.tmod_eq_emod_of_nonneg (by omega)]; omega
  rw [e1,e2,e3,e4]
  obtain ⟨ii,o,hk,rfl,hc⟩:=cell (p % m) (Nat.mod_lt _ hm0)
  obtain ⟨ii',o',hk',ha',hc'⟩:=cell ((p * 7 + 3) % m) (Nat.mod_lt _ hm0)
  obtain ⟨rfl,rfl⟩:ii=ii'∧o=o':=by simpa using ha'
  have b1:=hb _ (List.getElem_mem hk)
  have b2:=hb _ (List.getElem_mem hk')
  have m1:=Nat.mod_lt p hm0
  have m2:=Nat.mod_lt (p * 7 + 3) hm0
  simp only [Zao,Int.toNat_natCast,hc,hc',Zae]
  refine ⟨by omega,by omega,by omega,by omega,by trivial,by trivial,by trivial,by trivial,by trivial,by trivial,by omega,by omega,by omega,?_⟩
  have e5:Int.tdiv (p:Int) (m:Int)=((p / m:Nat):Int):=by rw [Int.tdiv_eq_ediv_of_nonneg (by omega)]; omega
  have m3:p / m≤p:=Nat.div_le_self _ _
  generalize hA:((l[p % m]:Nat):Int)=A
  generalize hB:((l[(p * 7 + 3) % m]:Nat):Int)=B
  have hD1:0≤((p / m:Nat):Int)∧((p / m:Nat):Int)≤(p:Int):=⟨Int.natCast_nonneg _,Int.ofNat_le.2 m3⟩
  generalize ((p / m:Nat):Int)=D at e5 hD1
  have hA1:0≤A∧A < 256:=by omega
  have hB1:0≤B∧B < 256:=by omega
  rw [e5,IntWalk.i64_in A (by omega),IntWalk.i64_in B (by omega),IntWalk.i64_in (A * 131) (by omega),IntWalk.i64_in (B * 1117) (by omega),IntWalk.i64_in (A * 131 + B * 1117) (by omega),IntWalk.i64_in ((p:Int) * 29) (by omega),
   IntWalk.i64_in (A * 131 + B * 1117 + (p:Int) * 29) (by omega),IntWalk.i64_in D (by omega),IntWalk.i64_in (D * 53) (by omega),IntWalk.i64_in (A * 131 + B * 1117 + (p:Int) * 29 + D * 53) (by omega)]
  have hx:=Ykq (x:=A * 131 + B * 1117 + (p:Int) * 29 + D * 53) (by omega) (by omega)
  have:=Zpc hx (by omega:1≤n)
  exact ⟨_,rfl,this.1,fun _=>this.2,by omega,hK,hR2,h2l⟩
theorem Yci {h:Zaa} {i p j n c:Nat} {e:Bool} {t:TypeId} {l:List (List Nat)} (r:Rdr h i p) (hp:p≤1000000000000) (hj:h[j]?=some (.cells t (Zec eS l) false)) (hji:j≠i) (hn:l.length=n) (h0:1≤n) :
  Zac pg Zcs [.ptr (some (i,0)),.slice (some (j,0)) n c e] h fun v h'=>∃ x∈l,v=.str x∧Zeo i h h'∧Rdr h' i (p + 1)∧h'.length=h.length:=by
 apply Zlj.call
 refine (Zfb r hp n).mono ?_
 rintro v h2 ⟨x,rfl,h0x,hlt,_,hK,hR,hl⟩
 simp only [Zae,Zao]
 have hlt:=hlt (by omega)
 obtain ⟨k,rfl⟩:∃ k:Nat,x=k:=⟨x.toNat,by omega⟩
 have hj2:h2[j]?=some (.cells t (Zec eS l) false):=by rw [hK.eq j (Own.lt hj) hji]; exact hj
 have hrow:Row h2.length h2 (some (j,0)) n (Zec eS l):=⟨by rw [Zbc Zzq]; omega,.inr ⟨j,0,t,_,false,rfl,Own.lt hj2,hj2,by rw [Zbc Zzq]; omega,by rw [List.drop_zero,List.take_of_length_le (by rw [Zbc Zzq]; omega)]⟩⟩
 obtain ⟨ii,o,hk,ha,_,hc⟩:=Row.el1 Zzq hrow (k:=k) (by omega)
 cases ha
 rw [Int.toNat_natCast,hc]
 simp only [eS,List.getElem?_cons_zero,Zap]
 exact ⟨by omega,l[k],List.getElem_mem hk,rfl,hK,hR,hl⟩
theorem Rdr.keep {h h':Zaa} {i p:Nat} (r:Rdr h i p) (hh:∀ j,j≤i→h'[j]?=h[j]?) (hl:h.length≤h'.length):Rdr h' i p:=r.agree hh hl
end Go.Sim

set_option linter.unusedVariables false
set_option linter.unusedSimpArgs false
set_option maxRecDepth 20000
namespace Go.Sim
open Go Go.RowKit

theorem Zyq {h:Zaa} {i p:Nat} (r:Rdr h i p) (hp:p≤1000000000000) (g:Bool) (Q:QT) (hQ:∀ c h',Zdm c=true→Zeo i h h'→Rdr h' i (p + 1)→Q (.str [c]) h') :
  bcase g (Zeg (h ++ [.cells Zdb [.str [105],.str [98],.str [105],.str [117]] false]) fun h_0=>Zac pg Zcs [.ptr (some (i,0)),.slice (some (List.length h,0)) 4 4 true] h_0 fun v_1 h_2=>
 Zck (some v_1) fun s_3=>Q (.str s_3) h_2) (Zeg (h ++ [.cells Zdb [.str [120],.str [105],.str [121],.str [98],.str [120],.str [122],.str [117]] false]) fun h_4=>Zac pg Zcs [.ptr (some (i,0)),.slice (some (List.length h,0)) 7 7 true] h_4 fun v_5 h_6=>
 Zck (some v_5) fun s_7=>Q (.str s_7) h_6):=by
 have hil:=r.lt
 have go:∀ (l:List (List Nat)) (n:Nat),l.length=n→1≤n→(∀ x∈l,∃ c,x=[c]∧Zdm c=true)→Zeg (h ++ [.cells Zdb (Zec eS l) false]) fun h_0=>Zac pg Zcs [.ptr (some (i,0)),.slice (some (List.length h,0)) n n true] h_0 fun v_1 h_2=>Zck (some v_1) fun s_3=>Q (.str s_3) h_2:=by
  intro l n hn h1 hl
  simp only [Zba]
  refine (Yci (r.app _) hp (j:=h.length) (t:=Zdb) (l:=l) (by simp) (by omega) hn h1).mono ?_
  rintro v h2 ⟨x,hx,rfl,hK,hR,_⟩
  obtain ⟨c,rfl,hc⟩:=hl x hx
  simp only [Zap]
  exact hQ c h2 hc ((Zeo.app i h _).trans hK) hR
 cases g with
 | true=>exact go [[105],[98],[105],[117]] 4 rfl (by omega) (by intro x hx; simp at hx; rcases hx with rfl | rfl | rfl | rfl <;> exact ⟨_,rfl,rfl⟩)
 | false=>exact go [[120],[105],[121],[98],[120],[122],[117]] 7 rfl (by omega) (by intro x hx; simp at hx; rcases hx with rfl | rfl | rfl | rfl | rfl | rfl | rfl <;> exact ⟨_,rfl,rfl⟩)
def DrQ (i p d:Nat) (h:Zaa) (v:Zad) (h':Zaa):Prop:=∃ t:Ty,v=.str t.txt∧t.ok=true∧t.txt.length≤4 ^ (d + 1)∧Zeo i h h'∧∃ p',p≤p'∧p'≤p + 4 ^ (d + 1)∧Rdr h' i p'
theorem Zwj:∀ (d:Nat),d≤8→∀ {h:Zaa} {i p:Nat},Rdr h i p→p + 4 ^ (d + 1)≤1000000000000→∀ (g:Bool),Zac pg Zdq [.ptr (some (i,0)),.int .i64 (d:Int),.bool g] h (DrQ i p d h):=by
 intro d
 induction d with
 | zero=>
  intro _ h i p r hp g
  apply Zhv.call
  refine Zcq (fun _=>?_) (fun hne=>absurd rfl hne)
  exact Zyq r (by omega) g (DrQ i p 0 h) fun c h' hc hK hR=>⟨.k c,rfl,by simpa [Ty.ok] using hc,by simp [Ty.txt],hK,p + 1,by omega,by omega,hR⟩
 | succ d ih=>
  intro hd h i p r hp g
  have hB:4 ^ (d + 1 + 1)=4 * 4 ^ (d + 1):=by rw [Nat.pow_succ]; omega
  have hB1:4≤4 ^ (d + 1):=by rw [Nat.pow_succ]; have:=Nat.one_le_two_pow (n:=0); have:1≤4 ^ d:=Nat.one_le_pow _ _ (by omega); omega
  have hB2:4 ^ (d + 1)≤1000000000000:=by omega
  generalize hBB:4 ^ (d + 1)=B at *
  apply Zhv.call
  refine Zcq (fun he=>by omega) (fun _=>?_)
  refine (Zfb r (by omega) 3).mono ?_
  rintro v h1 ⟨x,rfl,hx0,hx1,_,K1,R1,_⟩
  simp only [Zae]
  refine Zcq (fun _=>?_) (fun _=>?_)
  ·exact Zyq R1 (by omega) g (DrQ i p (d + 1) h) fun c h' hc hK hR=>⟨.k c,rfl,by simpa [Ty.ok] using hc,by rw [hB]; simp [Ty.txt]; omega,K1.trans hK,p + 1 + 1,by omega,by omega,hR⟩
  ·apply Zhv.J5i
   refine (Zfb R1 (by omega) 4).mono ?_
   rintro v h2 ⟨x,rfl,hx0,hx1,_,K2,R2,_⟩
   have hw:IntKind.wrap .i64 (((d + 1:Nat):Int) - 1)=(d:Int):=by rw [IntWalk.i64_in _ (by omega)]; omega
   have K12:=K1.trans K2
   simp only [Zae]
   rw [hw]
   have one:∀ (c:Nat),(c=109 ∨ c=108)→Zac pg Zdq [.ptr (some (i,0)),.int .i64 (d:Int),.bool g] h2 fun v_28 h_29=>
     Zck (some v_28) fun s_30=>List.length ([c,40]) + List.length s_30≤9223372036854775807∧(List.length (([c,40]) ++ s_30) + List.length [41]≤9223372036854775807∧(DrQ i p (d + 1) h (.str ((([c,40]) ++ s_30) ++ [41])) h_29)):=by
    intro c hc
    refine (ih (by omega) R2 (by omega) g).mono ?_
    rintro v h3 ⟨t,rfl,hok,hlen,K3,p3,hp1,hp2,R3⟩
    rw [hBB] at hlen hp2
    simp only [Zap]
    refine ⟨by simp; omega,by simp; omega,.u c t,by simp [Ty.txt],?_,?_,K12.trans K3,p3,by omega,by omega,R3⟩
    ·simp only [Ty.ok,hok,Bool.and_true]; rcases hc with rfl | rfl <;> rfl
    ·rw [hB]; simp [Ty.txt]; omega
   refine Zcq (fun _=>?_) (fun _=>Zcq (fun _=>one 109 (.inl rfl)) (fun _=>one 108 (.inr rfl)))
   refine (ih (by omega) R2 (by omega) g).mono ?_
   rintro v h3 ⟨t,rfl,hok,hlen,K3,p3,hp1,hp2,R3⟩
   rw [hBB] at hlen hp2
   simp only [Zap]
   refine ⟨by simp; omega,by simp; omega,?_⟩
   refine (ih (by omega) R3 (by omega) g).mono ?_
   rintro v h4 ⟨t2,rfl,hok2,hlen2,K4,p4,hp3,hp4,R4⟩
   rw [hBB] at hlen2 hp4
   simp only [Zap]
   refine ⟨by simp; omega,by simp; omega,.w 112 t t2,by simp [Ty.txt],by simp [Ty.ok,hok,hok2],?_,(K12.trans K3).trans K4,p4,by omega,by omega,R4⟩
   rw [hB]; simp [Ty.txt]; omega
def TxQ (i p:Nat) (h:Zaa) (v:Zad) (h':Zaa):Prop:=∃ s:List Nat,v=.str s∧s.length≤1000∧Zeo i h h'∧∃ p',p≤p'∧p'≤p + 1000∧Rdr h' i p'
theorem Yfb (s:List Nat) (a b:Int):(sub s a b).length≤s.length:=by unfold sub; simp; omega
theorem Zym {h:Zaa} {i p:Nat} (r:Rdr h i p) (hp:p≤900000000000):Zac pg Ziv [.ptr (some (i,0))] h (TxQ i p h):=by
 apply Zpo.call
 refine (Zfb r (by omega) 4).mono ?_
 rintro v h1 ⟨x,rfl,hx0,hx1,_,K1,R1,_⟩
 have hx1:=hx1 (by omega)
 simp only [Zae]
 refine (Zfb R1 (by omega) 2).mono ?_
 rintro v h2 ⟨y,rfl,hy0,hy1,_,K2,R2,_⟩
 simp only [Zae]
 obtain ⟨d,rfl⟩:∃ d:Nat,x=d:=⟨x.toNat,by omega⟩
 have hd:d≤3:=by omega
 have hB:4 ^ (d + 1)≤256:=by
  have:d=0 ∨ d=1 ∨ d=2 ∨ d=3:=by omega
  rcases this with rfl | rfl | rfl | rfl <;> decide
 refine (Zwj d (by omega) R2 (by omega) _).mono ?_
 rintro v h3 ⟨t,rfl,hok,hlen,K3,p3,hp1,hp2,R3⟩
 generalize ht:t.txt=s at hlen
 have K13:=(K1.trans K2).trans K3
 simp only [Zap]
 refine (Zfb R3 (by omega) 16).mono ?_
 rintro v h4 ⟨z,rfl,hz0,hz1,_,K4,R4,_⟩
 have K14:=K13.trans K4
 simp only [Zae]
 refine Zar (fun _=>⟨s,rfl,by omega,K14,p3 + 1,by omega,by omega,R4⟩) (fun _=>?_)
 have hs1:1≤s.length:=by rw [← ht]; obtain ⟨y,hy⟩:=t.txt_cons; rw [hy]; simp
 refine (Zfb R4 (by omega) (s.length:Nat)).mono ?_
 rintro v h5 ⟨k,rfl,hk0,hk1,_,K5,R5,_⟩
 have hk1:=hk1 (by omega)
 simp only [Zae]
 refine ⟨by omega,?_⟩
 simp only [Zba]
 have hil:=R5.lt
 refine (Yci (R5.app _) (by omega) (j:=h5.length) (t:=Zdb) (n:=7) (l:=[[],[40],[41],[44],[105],[113],[88]]) (by simp [Zec,eS]) (by omega) rfl (by omega)).mono ?_
 rintro v h6 ⟨w,hw,rfl,K6,R6,_⟩
 have K16:=((K14.trans K5).trans (Zeo.app i h5 _)).trans K6
 have hwl:w.length≤1:=by simp at hw; rcases hw with rfl | rfl | rfl | rfl | rfl | rfl | rfl <;> simp
 simp only [Zap]
 have hs1:=Yfb s 0 k
 refine ⟨by omega,?_⟩
 refine (Zfb R6 (by omega) 2).mono ?_
 rintro v h7 ⟨u,rfl,hu0,hu1,_,K7,R7,_⟩
 have hu1:=hu1 (by omega)
 simp only [Zae]
 rw [IntWalk.i64_in (k + u) (by omega)]
 have hs2:=Yfb s (k + u) s.length
 refine ⟨by omega,by simp; omega,_,rfl,by simp; omega,K16.trans K7,_,?_,?_,R7⟩ <;> omega
theorem Zyh:∀ (vs:List Nat) (ts:List Ty),vs.Nodup→∀ k (hk:k < vs.length),k < ts.length→Zcl (vs.zip ts) vs[k]=ts[k]?
 | [],_,_,k,hk,_=>by simp at hk
 | v :: vs,[],_,k,_,h=>by simp at h
 | v :: vs,t :: ts,hn,0,_,_=>by simp [Zcl]
 | v :: vs,t :: ts,hn,k + 1,hk,h=>by
  have h1:=List.nodup_cons.1 hn
  have hk':k < vs.length:=by simpa using hk
  have hne:v≠vs[k]:=fun e=>h1.1 (e ▸ List.getElem_mem hk')
  simp only [List.zip_cons_cons,Zcl,List.getElem_cons_succ,if_neg hne,List.getElem?_cons_succ]
  exact Zyh vs ts h1.2 k hk' (by simpa using h)
theorem Ybz:∀ {m:Bd} {v:Nat} {u:Ty},Zcl m v=some u→(v,u)∈m
 | [],_,_,h=>by cases h
 | (a,b) :: m,v,u,h=>by
  simp only [Zcl] at h
  split at h
  ·rename_i e; cases h; subst e; exact List.mem_cons_self ..
  ·exact List.mem_cons_of_mem _ (Ybz h)
theorem Zny {f:Nat→Option Ty} (hf:∀ c u,f c=some u→u.txt.length≤16):∀ t:Ty,(subst f t).txt.length≤16 * t.txt.length
 | .k c=>by
  simp only [subst]
  cases h:f c with
  | none=>simp [Ty.txt]
  | some u=>have:=hf c u h; simp [Ty.txt]; omega
 | .u c a=>by have:=Zny hf a; simp [subst,Ty.txt]; omega
 | .w c a b=>by have:=Zny hf a; have:=Zny hf b; simp [subst,Ty.txt]; omega
theorem Zut {h:Zaa} {i p:Nat} {s:List Nat} (r:Rdr h i p) (hp:p≤900000000000) (hs:s.length≤1048576):Zac pg Zhy [.ptr (some (i,0)),.str s] h (TxQ i p h):=by
 apply Zgq.call
 refine (Zij s (by omega) h).mono ?_
 rintro v h1 ⟨s1,vs,rfl,hm⟩
 have hil:=r.lt
 have leaf:∀ h',Zeo i h h'→∀ p',p≤p'→p'≤p + 1000→Rdr h' i p'→TxQ i p h (.str [105]) h':=fun h' K p' h1 h2 R=>⟨[105],rfl,by simp,K,p',h1,h2,R⟩
 have hvs:∃ (d:Nat) (a:Pt) (n c:Nat) (e:Bool),vs=[.int .u8 (d:Int),.slice a n c e]:=by
  split at hm
  ·obtain ⟨a,c,e,rfl⟩:=hm.shape; exact ⟨_,_,_,_,_,rfl⟩
  ·exact ⟨0,_,_,_,_,hm⟩
 obtain ⟨d,a,n,c,e,rfl⟩:=hvs
 simp only [Zcb,Zaf,Zdz,Zae,Zak,Zan,Zag,Zba]
 rw [Zgg]
 simp only [Zas]
 generalize hh2:h1 ++ [Zci.cells Zab [.int .u8 (d:Int),.slice a n c e] false]=h2
 have s2:Zbi h1.length h1 h2:=by rw [← hh2]; exact Zav
 have l2:h2.length=h1.length + 1:=by rw [← hh2]; simp
 have n2:h2[h1.length]?=some (.cells Zab [.int .u8 (d:Int),.slice a n c e] false):=by rw [← hh2]; simp
 have S2:=s1.cat s2
 refine Zdf (fun hno=>leaf _ (Zeo.of_same S2) p (by omega) (by omega) (r.same S2)) (fun hyes=>?_)
 have hof:∃ t,Zeh s=some t:=by
  unfold Znl at hyes
  cases hx:Zeh s with
  | none=>rw [hx] at hyes; cases hyes
  | some t=>exact ⟨t,rfl⟩
 obtain ⟨t,ht⟩:=hof
 obtain ⟨hok,hst,hsl⟩:=Zbw.1 ht
 rw [ht] at hm
 simp only at hm
 generalize hh3:h2 ++ [Zci.cells Zbe [.int .u8 0,.slice none 0 0 true,.int .u8 0,.slice none 0 0 true,.int .u8 0,.slice none 0 0 true,.int .u8 0,.slice none 0 0 true,.int .u8 0,.slice none 0 0 true,.int .u8 0,.slice none 0 0 true,.int .u8 0,.slice none 0 0 true,.int .u8 0,.slice none 0 0 true,.int .u8 0,.slice none 0 0 true,.int .u8 0,.slice none 0 0 true,.int .u8 0,.slice none 0 0 true,.int .u8 0,.slice none 0 0 true] false]=h3
 have s3:Zbi h2.length h2 h3:=by rw [← hh3]; exact Zav
 have l3:h3.length=h2.length + 1:=by rw [← hh3]; simp
 have m3:h3[h2.length]?=some (.cells Zbe (Zec eR (List.replicate 12 (.int .u8 0,.slice none 0 0 true))) false):=by rw [← hh3]; simp; rfl
 have S3:=S2.cat s3
 have n3:=s3.get n2 (Own.lt n2)
 have r3:=r.same S3
 refine Zgq.L6ind (J:=fun (g:Nat) x19 h'=>x19=(g:Int)∧g≤12∧Zeo i h h'∧(∃ p',p≤p'∧p'≤p + g * 80∧Rdr h' i p')∧h3.length≤h'.length∧h'[h1.length]?=some (.cells Zab [.int .u8 (d:Int),.slice a n c e] false) ∧
   Zdk (fun j=>j≠h2.length∧j≠i∧j < h'.length) h' t [.int .u8 (d:Int),.slice a n c e] ∧
   ∃ (rows:List (Zad × Zad)) (ts:List Ty),rows.length=12∧ts.length=g∧(∀ u∈ts,u.ok=true∧u.txt.length≤16)∧h'[h2.length]?=some (.cells Zbe (Zec eR rows) false) ∧
    ∀ (k:Nat) (x:Zad × Zad) (u:Ty),rows[k]?=some x→ts[k]?=some u→Zdk (fun j=>j≠h2.length∧j≠i∧j < h'.length) h' u (eR x))
  (m:=fun g=>12 - g) (hr:=?_) (g:=0) (hj:=⟨rfl,by omega,Zeo.of_same S3,⟨p,by omega,by omega,r3⟩,Nat.le_refl _,n3,?_,_,[],by simp,rfl,by simp,m3,by simp⟩) ..
 ·rintro g x19 h4 ⟨rfl,hg,K4,⟨p4,hp1,hp2,R4⟩,l4,n4,rt,rows,ts,hrl,htl,hts,m4,hrep⟩ R hR
  unfold Zgq.L6t
  refine Zar (fun hlt=>?_) (fun hge=>?_)
  ·refine (Zfb R4 (by omega) 2).mono ?_
   rintro v h5 ⟨x,rfl,hx0,hx1,_,K5,R5,_⟩
   have hx1:=hx1 (by omega)
   simp only [Zae]
   refine (Zfb R5 (by omega) 2).mono ?_
   rintro v h6 ⟨y,rfl,hy0,hy1,_,K6,R6,_⟩
   simp only [Zae]
   obtain ⟨q,rfl⟩:∃ q:Nat,x=q:=⟨x.toNat,by omega⟩
   have hB:4 ^ (q + 1)≤16:=by
    have:q=0 ∨ q=1:=by omega
    rcases this with rfl | rfl <;> decide
   refine (Zwj q (by omega) R6 (by omega) _).mono ?_
   rintro v h7 ⟨u,rfl,huok,hulen,K7,p7,hp3,hp4,R7⟩
   have K47:=(K5.trans K6).trans K7
   simp only [Zap]
   refine (Zij u.txt (by omega) h7).mono ?_
   rintro v h8 ⟨s8,vu,rfl,hmu⟩
   rw [Zbw.2 ⟨huok,rfl,by omega⟩] at hmu
   simp only at hmu
   obtain ⟨au,cu,eu,hsh⟩:=hmu.shape
   subst hsh
   have K48:=K47.trans (Zeo.of_same s8)
   simp only [Zcb,Zaf,Zdz,Zae,Zak,Zan,Zag]
   have l8:=K48.le
   have hm2i:h2.length≠i:=by have:=S2.le; omega
   have m8:h8[h2.length]?=some (.cells Zbe (Zec eR rows) false):=by rw [K48.eq _ (Own.lt m4) hm2i]; exact m4
   have hfl:(Zec eR rows).length=24:=by rw [Zbc Zgv,hrl]
   rw [Nat.zero_add,Int.toNat_natCast,Zbj m8 (by rw [hfl]; simp; omega)]
   simp only [Zas]
   rw [show ([Zad.int .u8 (u.hd:Int),Zad.slice au u.ps.length cu eu]:List Zad)=eR (Zad.int .u8 (u.hd:Int),Zad.slice au u.ps.length cu eu) from rfl,Zqd Zgv (by omega),Zby (by omega)]
   have hset:∀ j,j≠h2.length→(h8.set h2.length (Zci.cells Zbe (Zec eR (rows.set g (Zad.int .u8 (u.hd:Int),Zad.slice au u.ps.length cu eu))) false))[j]?=h8[j]?:=fun j hj=>Zbr (fun e=>hj e.symm)
   have old:∀ j,(j≠h2.length∧j≠i∧j < h4.length)→(h8.set h2.length (Zci.cells Zbe (Zec eR (rows.set g (Zad.int .u8 (u.hd:Int),Zad.slice au u.ps.length cu eu))) false))[j]?=h4[j]?:=fun j hj=>by rw [hset j hj.1,K48.eq j hj.2.2 hj.2.1]
   have hup:∀ j,(j≠h2.length∧j≠i∧j < h4.length)→(j≠h2.length∧j≠i∧j < (h8.set h2.length (Zci.cells Zbe (Zec eR (rows.set g (Zad.int .u8 (u.hd:Int),Zad.slice au u.ps.length cu eu))) false)).length):=fun j hj=>⟨hj.1,hj.2.1,by simp; omega⟩
   have i8:Rdr h8 i p7:=R7.same s8
   refine ⟨⟨by omega,by omega⟩,hR (g + 1) _ _ (by omega) ⟨by omega,by omega,(K4.trans K48).trans' (fun j hj=>Zbr (by have:=S2.le; omega)),⟨p7,by omega,by omega,?_⟩,by simp; omega,?_,(rt.agree old).mono hup,_,ts ++ [u],by simp [hrl],by simp [htl],?_,Zch m8,?_⟩⟩
   ·refine i8.agree (fun j hj=>hset j (by have:=S2.le; omega)) (by simp)
   ·rw [hset _ (by omega),K48.eq _ (Own.lt n4) (by have:=s1.le; omega)]; exact n4
   ·intro w hw
    rcases List.mem_append.1 hw with hw | hw
    ·exact hts w hw
    ·simp at hw; subst hw; exact ⟨huok,by omega⟩
   ·intro k x w hx hw
    by_cases hk:k=g
    ·subst hk
     rw [List.getElem?_set_self (by omega)] at hx
     rw [List.getElem?_append_right (by omega)] at hw
     simp [htl] at hw
     cases hx; subst hw
     refine (hmu.agree (h':=h8.set h2.length (Zci.cells Zbe (Zec eR (rows.set k (Zad.int .u8 (u.hd:Int),Zad.slice au u.ps.length cu eu))) false)) fun j hj=>hset j (by have:=hj.1; have:=K47.le; omega)).mono fun j hj=>⟨by have:=hj.1; have:=K47.le; omega,by have:=hj.1; have:=K47.le; have:=S2.le; omega,by simp; exact hj.2⟩
    ·rw [List.getElem?_set_ne (fun e=>hk e.symm)] at hx
     have hkg:k < g:=by
      have:=(List.getElem?_eq_some_iff.1 hw).1
      simp [htl] at this; omega
     rw [List.getElem?_append_left (by omega)] at hw
     exact ((hrep k x w hx hw).agree old).mono hup
  ·have hg12:g=12:=by omega
   subst hg12
   apply Zgq.A6x0i
   rw [Zdp n4]
   simp only [Zaw,Zaf,Zan,Zae,Zak]
   have hget:∀ k,k < 6→(Zcf[k]?).bind (Zcl (Zcf.zip ts))=ts[k]?:=fun k hk=>by
    have hk6:k < Zcf.length:=hk
    rw [List.getElem?_eq_getElem hk6,Option.bind_some]
    exact Zyh Zcf ts Zfc k hk6 (by omega)
   have hin:∀ v u,Zcl (Zcf.zip ts) v=some u→v∈Zcf∧u∈ts:=fun v u hu=>by
    have:=Ybz hu
    exact ⟨(List.of_mem_zip this).1,(List.of_mem_zip this).2⟩
   have hW:Yfq (fun j=>j≠h2.length∧j≠i∧j < h4.length) h4 h2.length (Zcf.zip ts):=by
    refine ⟨rows,hrl,m4,fun k x hk hx=>?_⟩
    rw [hget k hk]
    have hkt:k < ts.length:=by omega
    rw [List.getElem?_eq_getElem hkt]
    exact hrep k x _ hx (List.getElem?_eq_getElem hkt)
   have hnv:∀ v,Zam v=false→Zcl (Zcf.zip ts) v=none:=fun v hv=>by
    cases hb:Zcl (Zcf.zip ts) v with
    | none=>rfl
    | some u=>
     have h1:=(hin v u hb).1
     have:∀ x∈Zcf,Zam x=true:=by decide
     rw [this v h1] at hv; cases hv
   refine (Zuj _ (Nat.le_refl _) hok (fun j hj=>⟨hj.2.2,hj.1⟩) rt hW (fun v u hu=>(hts u (hin v u hu).2).1) hnv).mono ?_
   rintro x h5 ⟨s5,vs5,rfl,rt5⟩
   have hl5:(subst (Zcl (Zcf.zip ts)) t).txt.length≤1048576:=by
    have:=Zny (f:=Zcl (Zcf.zip ts)) (fun c u hu=>(hts u (hin c u hu).2).2) t
    rw [← hst] at this; omega
   have hok5:(subst (Zcl (Zcf.zip ts)) t).ok=true:=Zqj ⟨hnv,fun v u hu=>(hts u (hin v u hu).2).1⟩ hok
   obtain ⟨a5,c5,e5,hsh5⟩:=rt5.shape
   subst hsh5
   simp only [Zdz,Zaf,Zae,Zak,Zan,Zba]
   rw [Zgg]
   simp only [Zas]
   generalize hh6:h5 ++ [Zci.cells Zab [.int .u8 ((subst (Zcl (Zcf.zip ts)) t).hd:Int),.slice a5 (subst (Zcl (Zcf.zip ts)) t).ps.length c5 e5] false]=h6
   have s6:Zbi h5.length h5 h6:=by rw [← hh6]; exact Zav
   have n6:h6[h5.length]?=some (.cells Zab [.int .u8 ((subst (Zcl (Zcf.zip ts)) t).hd:Int),.slice a5 (subst (Zcl (Zcf.zip ts)) t).ps.length c5 e5] false):=by rw [← hh6]; simp
   rw [Zdp n6]
   simp only [Zaw,Zaf,Zan,Zae,Zak]
   have rt6:=rt5.same s6
   refine (Zjx _ (Nat.le_refl _) (Nat.le_trans hl5 (by decide)) rt6).mono ?_
   rintro v h7 ⟨rfl,s7⟩
   simp only [Zae]
   have K7:=((K4.trans (Zeo.of_same s5)).trans (Zeo.of_same s6)).trans (Zeo.of_same s7)
   have R7:=((R4.same s5).same s6).same s7
   refine Zar (fun _=>leaf _ K7 p4 hp1 (by omega) R7) (fun hsm=>?_)
   rw [Zdp (s7.get n6 (Own.lt n6))]
   simp only [Zaw,Zaf,Zan,Zae,Zak]
   refine (Znu _ (Nat.le_refl _) hl5 hok5 (rt6.same s7)).mono ?_
   rintro v h8 ⟨rfl,s8⟩
   simp only [Zap]
   exact ⟨_,rfl,by omega,K7.trans (Zeo.of_same s8),p4,hp1,by omega,R7.same s8⟩
 ·exact (hm.agree (h':=h3) fun j hj=>by rw [s3.eq j (by have:=hj.2; omega),s2.eq j hj.2]).mono fun j hj=>⟨by have:=hj.2; omega,by have:=hj.1; omega,by have:=hj.2; omega⟩
theorem Yfs {h:Zaa} {i p:Nat} (r:Rdr h i p) (hp:p≤800000000000):Zac pg Zlp [.ptr (some (i,0))] h fun v h'=>∃ s t:List Nat,v=.tup [.str s,.str t]∧s.length≤1000∧t.length≤1000∧Zeo i h h'∧∃ p',Rdr h' i p':=by
 apply Zpp.call
 refine (Zym r (by omega)).mono ?_
 rintro v h1 ⟨s,rfl,hs,K1,p1,hp1,hp2,R1⟩
 simp only [Zap]
 refine (Zfb R1 (by omega) 3).mono ?_
 rintro v h2 ⟨x,rfl,hx0,hx1,_,K2,R2,_⟩
 simp only [Zae]
 have K12:=K1.trans K2
 refine Zcq (fun _=>?_) (fun _=>Zcq (fun _=>?_) (fun _=>?_))
 ·refine (Zut R2 (by omega) (by omega)).mono ?_
  rintro v h3 ⟨t,rfl,ht,K3,p3,hp3,hp4,R3⟩
  simp only [Zap]
  exact ⟨_,_,rfl,hs,ht,K12.trans K3,p3,R3⟩
 ·refine (Zut R2 (by omega) (by omega)).mono ?_
  rintro v h3 ⟨t,rfl,ht,K3,p3,hp3,hp4,R3⟩
  simp only [Zap]
  exact ⟨_,_,rfl,ht,hs,K12.trans K3,p3,R3⟩
 ·refine (Zym R2 (by omega)).mono ?_
  rintro v h3 ⟨t,rfl,ht,K3,p3,hp3,hp4,R3⟩
  simp only [Zap]
  exact ⟨_,_,rfl,hs,ht,K12.trans K3,p3,R3⟩
end Go.Sim

set_option linter.unusedVariables false
set_option linter.unusedSimpArgs false
set_option maxRecDepth 20000
namespace Go.Sim
open Go Go.RowKit
theorem Zkh {h:Zaa} {a0 a1:Pt} {n c0 c1:Nat} {e0 e1:Bool} {l:List Nd} (r0:Row h.length h a0 (n * 2) (Zec eP l)) (r1:Row h.length h a1 (n * 2) (Zec eP l)) (hn:n≤1048576) :
  Zac pg Zbs [.slice a0 n c0 e0,.slice a1 n c1 e1] h fun v h'=>v=.bool true∧h'=h:=by
 have hl:l.length=n:=by have:=r0.1; rw [Zbc Zgl] at this; omega
 apply Zen.call
 rw [show (if ((n:Nat):Int) < ((n:Nat):Int) then ((n:Nat):Int) else ((n:Nat):Int))=(n:Int) by split <;> rfl]
 refine Zen.L2ind (J:=fun (g:Nat) x11 h'=>x11=(g:Int)∧g≤n∧h'=h) (m:=fun g=>n - g) (hr:=?_) (g:=0) (hj:=⟨rfl,by omega,rfl⟩) ..
 rintro g x11 h' ⟨rfl,hg,rfl⟩ R hR
 unfold Zen.L2t
 refine Zar (fun hlt=>?_) (fun hge=>?_)
 ·obtain ⟨i0,o0,hk0,ha0,_,hr0,_⟩:=r0.pr (k:=g) (by omega)
  obtain ⟨i1,o1,hk1,ha1,_,hr1,_⟩:=r1.pr (k:=g) (by omega)
  simp only [ha0,ha1,Zao,Int.toNat_natCast,hr0,hr1,Zaw,Zaf,Zan,Zap,true_and,decide_true,Bool.and_self,Bool.not_true,Zat]
  rw [← ha0,← ha1,Zby (by omega)]
  exact ⟨by omega,by omega,hR (g + 1) _ _ (by omega) ⟨rfl,by omega,rfl⟩⟩
 ·apply Zen.A2x0i
  simp
end Go.Sim

set_option linter.unusedVariables false
set_option linter.unusedSimpArgs false
set_option maxRecDepth 20000
namespace Go.Sim
open Go Go.RowKit
theorem Zvc {h:Zaa} {a:Pt} {n c:Nat} {e:Bool} {l:List Nat} (r:Row h.length h a n (Zec eB l)) (hb:∀ b∈l,b < 256) (hnc:n≤c):Zac pg Zff [.slice a n c e] h fun v h'=>∃ s t:List Nat,v=.tup [.str s,.str t]∧s.length≤1000∧t.length≤1000∧Zbi h.length h h':=by
 apply Zhj.call
 refine (Ybq r hb hnc).mono ?_
 rintro v h1 ⟨rfl,s1,R1,l1⟩
 simp only [Zbu]
 refine (Yfs R1 (by omega)).mono ?_
 rintro v h2 ⟨s,t,rfl,hs,ht,K2,_⟩
 simp only [Zcb,Zaf,Zap,Zan]
 exact ⟨_,_,rfl,hs,ht,⟨by have:=K2.le; omega,fun j hj=>by rw [K2.eq j (by omega) (by omega)]; exact s1.eq j hj⟩⟩
theorem Ycu {h:Zaa} {a0 a1:Pt} {n c0 c1:Nat} {e0 e1:Bool} {l:List Nd} (r0:Row h.length h a0 (n * 2) (Zec eP l)) (r1:Row h.length h a1 (n * 2) (Zec eP l)) (hn:n≤1048576) :
  Zac pg Zbs [.slice a0 n c0 e0,.slice a1 n c1 e1] h fun v_132 h_133=>Zbh (some v_132) fun b_134=>(fun v _=>v=Zad.bool true) (.bool b_134) h_133:=by
 refine (Zkh r0 r1 hn).mono ?_
 rintro v h4 ⟨rfl,rfl⟩
 simp only [Zag]
theorem Ydu {h:Zaa} {a:Pt} {n c:Nat} {e:Bool} {s t:List Nat} {l:List Nd} (hu:Zgp s t=some l) (r:Row h.length h a (n * 2) (Zec eP l)):Zcx.J10 (fun v _=>v=.bool true) a n c e s t ((Zhw s t).getD []) (Zhw s t).isSome h:=by
 obtain ⟨hbk,hs,ht,hap,hcnt,hinst⟩:=Ztz hu
 have hl6:=Zrg hu
 have hln:l.length=n:=by have:=r.1; rw [Zbc Zgl] at this; omega
 apply Zcx.J10i
 refine Zcx.L11ind (J:=fun (g:Nat) x99 h'=>x99=(g:Int)∧g≤n∧Zbi h.length h h') (m:=fun g=>n - g) (hr:=?_) (g:=0) (hj:=⟨rfl,by omega,Zbi.refl _ _⟩) ..
 rintro g x99 h1 ⟨rfl,hg,s1⟩ R hR
 have r1:=r.same' s1
 unfold Zcx.L11t
 refine Zar (fun hlt=>?_) (fun hge=>?_)
 ·obtain ⟨jm,om,hul,hma,_,hrm,_⟩:=r1.pr (k:=g) (by omega)
  simp only [hma,Zao,Int.toNat_natCast,hrm,Zaw,Zaf,Zan,Zap,Zba]
  rw [← hma,Zgg]
  refine ⟨by omega,?_⟩
  simp only [Zas]
  generalize hh2:h1 ++ [Zci.cells Zaq [.str l[g].1,.str l[g].2] false]=h2
  have o2:h2[h1.length]?=some (.cells Zaq [.str l[g].1,.str l[g].2] false):=by rw [← hh2]; simp
  have s2:Zbi h1.length h1 h2:=by rw [← hh2]; exact Zav
  refine Zcx.L14ind (J:=fun (k:Nat) x105 h'=>x105=(k:Int)∧k≤n∧Zbi h2.length h2 h') (m:=fun k=>n - k) (hr:=?_) (g:=0) (hj:=⟨rfl,by omega,Zbi.refl _ _⟩) ..
  rintro k x105 h3 ⟨rfl,hk,s3⟩ R' hR'
  have r3:=(r1.same' s2).same' s3
  have o3:=s3.get o2 (Own.lt o2)
  unfold Zcx.L14t
  refine Zar (fun hlt'=>?_) (fun hge'=>?_)
  ·obtain ⟨jk,ok,hul',hma',_,hrm',_⟩:=r3.pr (k:=k) (by omega)
   simp only [hma',Zao,Int.toNat_natCast,hrm',Zaw,Zaf,Zan,Zap,Zba]
   rw [← hma',Zgg]
   refine ⟨by omega,?_⟩
   simp only [Zas]
   generalize hh4:h3 ++ [Zci.cells Zaq [.str l[k].1,.str l[k].2] false]=h4
   have o4:h4[h3.length]?=some (.cells Zaq [.str l[k].1,.str l[k].2] false):=by rw [← hh4]; simp
   have s4:Zbi h3.length h3 h4:=by rw [← hh4]; exact Zav
   have o34:=s4.get o3 (Own.lt o3)
   simp only [Zal o4,Zal o34,Nat.zero_add,List.getElem?_cons_succ,List.getElem?_cons_zero,Zap]
   refine (Zyd l[k].2 l[g].1).mono ?_
   rintro v h5 ⟨rfl,s5⟩
   have hc:Yke l[k].2 l[g].1=0:=by
    unfold Yke
    rw [hcnt _ (List.getElem_mem hul) _ (List.getElem_mem hul'),if_pos (by rw [(Zid hbk (List.getElem_mem hul')).2,(Zid hbk (List.getElem_mem hul)).1]; rfl)]
    rfl
   rw [hc]
   simp only [Zae,beq_self_eq_true,Bool.not_true,Zat]
   rw [Zby (by omega)]
   exact hR' (k + 1) _ _ (by omega) ⟨rfl,by omega,(s3.cat s4).cat s5⟩
  ·apply Zcx.A14x2i
   rw [Zby (by omega)]
   exact hR (g + 1) _ _ (by omega) ⟨rfl,by omega,(s1.cat s2).cat s3⟩
 ·apply Zcx.A11x0i
  have hap2:Zhh l s=.tup [.str ((Zhw s t).getD []),.bool (Zhw s t).isSome]∧Zhh l t=Zhh l s:=by
   have e1:Zhw s t=Zfu l s:=by unfold Zhw; rw [hu]; rfl
   have e2:Zfu l t=Zfu l s:=by unfold Zfu; rw [hs,ht,hap]
   unfold Zhh
   rw [e1,e2]
   cases Zfu l s with
   | none=>exact ⟨rfl,rfl⟩
   | some u=>exact ⟨rfl,rfl⟩
  refine (Zhm (l:=l) (t:=s) r1 (by omega)).mono ?_
  rintro v h2 ⟨rfl,s2⟩
  rw [hap2.1]
  simp only [Zcb,Zaf,Zap,Zag,Zan]
  refine (Zhm (l:=l) (t:=t) (r1.same' s2) (by omega)).mono ?_
  rintro v h3 ⟨rfl,s3⟩
  rw [hap2.2,hap2.1]
  simp only [Zcb,Zaf,Zap,Zag,Zan]
  refine (Zjz t s h3).mono ?_
  rintro v h4 ⟨s4,a4,n4,c4,e4,rfl,hc4,f4⟩
  rw [Yaf,hu,Option.getD_some] at f4
  simp only [Zcb,Zaf,Zak,Zag,Zan]
  have m4:=f4.1
  obtain rfl:n4=n:=by omega
  have r4:=((r1.same' s2).same' s3).same' s4
  refine (Zkr r4 (by omega)).mono ?_
  rintro v h5 ⟨rfl,s5⟩
  simp only [Zag,hbk,Zaz,beq_self_eq_true,decide_true]
  have r5:=r4.same' s5
  have q5:=(f4.row Zgl).same' s5
  cases hm:Zhw s t with
  | none=>
   simp only [Option.isSome_none,Bool.not_false,Zaz]
   exact Ycu q5 r5 (by omega)
  | some u=>
   have hi := hinst u (by have e1 : Zhw s t = Zfu l s := by unfold Zhw; rw [hu]; rfl
                          rw [← e1]; exact hm)
   simp only [Option.isSome_some,Option.getD_some,Bool.not_true,Zat]
   refine (Zob s u h5).mono ?_
   rintro v h6 ⟨rfl,s6⟩
   simp only [Zag,hi.1,Zaz]
   refine (Zob t u h6).mono ?_
   rintro v h7 ⟨rfl,s7⟩
   simp only [Zag,hi.2,Zaz]
   exact Ycu ((q5.same' s6).same' s7) ((r5.same' s6).same' s7) (by omega)
theorem lawFUnify {h:Zaa} {a:Pt} {n c:Nat} {e:Bool} {l:List Nat} (r:Row h.length h a n (Zec eB l)) (hb:∀ b∈l,b < 256) (hnc:n≤c) :
  Zac pg Zmw [.slice a n c e] h fun v _=>v=.bool true:=by
 apply Zcx.call
 refine Zar (fun _=>rfl) (fun _=>?_)
 refine (Zvc r hb hnc).mono ?_
 rintro v h1 ⟨s,t,rfl,hs,ht,s1⟩
 simp only [Zcb,Zaf,Zap,Zan]
 generalize hL:(Zgp s t).getD []=L
 have hn:L.length≤6:=by
  rw [← hL]
  cases hu:Zgp s t with
  | none=>simp
  | some l=>exact Zrg hu
 refine (Zjz s t h1).mono ?_
 rintro v h2 ⟨s2,a2,n2,c2,e2,rfl,hc2,f2⟩
 simp only [Zcb,Zaf,Zak,Zag,Zan]
 refine (Zmt s t (by omega) (by omega) h2).mono ?_
 rintro v h3 ⟨s3,a3,n3,c3,e3,rfl,hc3,f3⟩
 simp only [Zcb,Zaf,Zak,Zag,Zan]
 rw [hL] at f2 f3
 have m2:=f2.1
 have m3:=f3.1
 obtain rfl:n3=n2:=by omega
 refine (Ycw s t h3).mono ?_
 rintro v h4 ⟨rfl,s4⟩
 simp only [Zcb,Zaf,Zap,Zag,Zan]
 refine (Yat s t (by omega) (by omega) h4).mono ?_
 rintro v h5 ⟨rfl,s5⟩
 simp only [Zcb,Zaf,Zap,Zag,Zan]
 have r2:=(((f2.row Zgl).same' s3).same' s4).same' s5
 have r3:=((f3.row Zgl).same' s4).same' s5
 refine (Zkh r2 r3 (by omega)).mono ?_
 rintro v h6 ⟨rfl,rfl⟩
 simp only [Zag,Bool.not_true,Zat,beq_self_eq_true,decide_true]
 cases hu:Zgp s t with
 | none=>
  have hm:Zhw s t=none:=by unfold Zhw; rw [hu]; rfl
  rw [hm]
  simp only [Option.isSome_none,Bool.not_false,Zaz,Zat]
  refine (Zkh r2 r3 (by omega)).mono ?_
  rintro v h7 ⟨rfl,rfl⟩
  simp only [Zag,Zaz]
 | some l=>
  have J:=Ydu (a:=a2) (n:=n3) (c:=c2) (e:=e2) hu (by rw [hu,Option.getD_some] at hL; rw [hL]; exact r2)
  cases hm:Zhw s t with
  | none=>
   rw [hm] at J
   simp only [Option.isSome_none,Option.isSome_some,Bool.not_true,Zat]
   exact J
  | some u=>
   rw [hm] at J
   simp only [Option.isSome_some,Bool.not_true,Zat,Zaz]
   exact J
end Go.Sim

set_option linter.unusedVariables false
set_option linter.unusedSimpArgs false
set_option maxRecDepth 20000
namespace Go.Sim
open Go Go.RowKit
theorem Zzp {P:Program} {h:Zaa} {f:Nat} {e:TypeId} (he:P.underlying e=some (.int .u8)):∀ (vs:List (List Zad)) (ds:List Dt),ds.length=vs.length→(∀ (i:Nat) (v:List Zad) (x:Dt),vs[i]?=some v→ds[i]?=some x→v.length=P.cellsOf e∧rd P h (f + 1) e v x) →
  ∃ l:List Nat,vs.flatten=Zec eB l∧∀ z∈l,z < 256
 | [],_,_,_=>⟨[],rfl,by simp⟩
 | v :: vs,[],h,_=>by simp at h
 | v :: vs,d :: ds,hl,hall=>by
  obtain ⟨l,hfl,hs⟩:=Zzp he vs ds (by simpa using hl) fun i v x hv hx=>hall (i + 1) v x (by simpa using hv) (by simpa using hx)
  have h0:=(hall 0 v d rfl rfl).2
  simp only [rd,he] at h0
  obtain ⟨z,rfl,_,hw⟩:=h0
  simp [Lit.wf,IntKind.min,IntKind.max,IntKind.signed,IntKind.bits] at hw
  refine ⟨z.toNat :: l,?_,fun x hx=>?_⟩
  ·simp [hfl,eB]; omega
  ·rcases List.mem_cons.1 hx with rfl | hx
   ·omega
   ·exact hs x hx
theorem rd_bytes {P:Program} {h:Zaa} {f:Nat} {t e:TypeId} {cs:List Zad} {d:Dt} (ht:P.underlying t=some (.slice e)) (he:P.underlying e=some (.int .u8)) (hc:P.cellsOf e=1) (hr:rd P h (f + 2) t cs d) :
  ∃ a n c ex,∃ l:List Nat,cs=[.slice a n c ex]∧Row h.length h a n (Zec eB l)∧∀ z∈l,z < 256:=by
 unfold rd at hr
 rw [ht] at hr
 obtain ⟨a,n,c,ex,ds,vs,rfl,rfl,hdl,hn,hvl,hrow,hall⟩:=hr
 obtain ⟨l,hfl,hs⟩:=Zzp (f:=f) he vs ds (by omega) hall
 rw [hc,Nat.mul_one,hfl] at hrow
 exact ⟨a,n,c,ex,l,rfl,hrow,hs⟩
end Go.Sim
