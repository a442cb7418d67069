/- A part of the proof of a statement of this seat: see the text that holds the theorem. No condition. -/
import Derived.Test.YtdglddliggejdaaPTCUni
import Derived.Test.YtdglddliggejdaaCGrS
import Derived.Test.YtdglddliggejdaaCSUn5
import Derived.Test.YtdglddliggejdaaCSUn2
import Derived.Test.YtdglddliggejdaaPTCMatch
import Derived.Test.YtdglddliggejdaaPTCDraw
import Derived.Test.YtdglddliggejdaaCParse
import Derived.Test.YtdglddliggejdaaPApply
set_option linter.unusedVariables false
set_option linter.unusedSimpArgs false
set_option linter.all false
set_option linter.unusedVariables false
set_option linter.unusedSimpArgs false
set_option maxRecDepth 20000
namespace Go.Sim
open Go Go.RowKit

section
variable {h h':Zaa} {mi:Nat} {G G':Gr} {N L:List Nat} {sc sc':List (Nat × Nat)} {Z Z':Nat→Prop} {lk:Nat→Option Nat}
theorem ShS.same (st:ShS h mi G N sc Z) (s:Zbh h.length h h'):ShS h' mi G N sc Z:=by
 obtain ⟨es,k,hm,_⟩:=id st.map
 exact ⟨st.gh.same s,st.cl,st.ar,st.map.eq (s.eq mi (Own.lt hm)),st.sin⟩
theorem Zpp {s:List Nat} {T:Ty} (hs:Zea s=some T) (st:ShS h mi G N sc Z) (hZ:∀ z,Z z→z < h.length) :
  Zac pg Zfy [.str s,.map (some mi)] h fun v h'=>∃ q G' L sc',v=.ptr (some (q,0))∧ShR h mi G N sc Z T q h' G' L sc':=by
 obtain ⟨h1,h2,h3⟩:=Zbv.1 hs
 obtain ⟨es,k,hm,_⟩:=id st.map
 have hml:=Own.lt hm
 apply Zos.call
 refine (Zpv s.length s (Nat.le_refl _) h).mono ?_
 rintro v g1 ⟨s1,p,r,rfl,hres⟩
 have ho:Zex s T []:=⟨h1,by rw [h2]; simp⟩
 rcases hres with ⟨t,ho',hn⟩ | ⟨_,hno⟩
 ·obtain ⟨rfl,rfl⟩:=ho'.unique ho
  simp only [Zdx,Zak,Zbo,Zap,Zaq]
  have l1:=s1.le
  refine (Yfp _ (Nat.le_refl _) h1 hn (fun j hj=>by have:=hj.1; omega) (st.same s1) (fun z hz=>by have:=hZ z hz; omega)).mono ?_
  rintro v g2 ⟨q,G',L,sc',rfl,R⟩
  simp only [Zbo]
  exact ⟨q,G',L,sc',rfl,⟨(Zzj s1).trans R.fr,R.st,R.ag,fun x hx=>⟨by have:=(R.new x hx).1; omega,(R.new x hx).2⟩,R.var,R.ext,R.qN,R.raw⟩⟩
 ·exact absurd ho (hno T [])
theorem ShS.gok (st:ShS h mi G N sc Z):GOk G N (fun _=>none):=⟨st.cl,st.ar,fun n m _ h=>(by cases h),fun n _=>⟨0,n,.refl,rfl⟩⟩
theorem Raw.under (g:GOk G N lk) {nu:Nat→Nat} {q x:Nat} (s:Sub G q x):q∈N→∀ {t:Ty},Raw G nu q t→∃ t',Raw G nu x t':=by
 induction s with
 | refl=>exact fun _ t r=>⟨_,r⟩
 | @part n p x hp _ ih=>
  intro hn t r
  have hpN:=g.par n hn p hp
  cases r with
  | var hv=>rw [g.var_ps hn hv] at hp; cases hp
  | cst h1 h2=>rw [h2] at hp; cases hp
  | one h1 h2 h3=>rw [h2] at hp; simp at hp; subst hp; exact ih hpN h3
  | two h1 h2 h3 h4=>
   rw [h2] at hp; simp at hp
   rcases hp with rfl | rfl
   ·exact ih hpN h3
   ·exact ih hpN h4
theorem ShS.nil (hm:h[mi]?=some (.map [] 0)) (G:Gr) (Z:Nat→Prop):ShS h mi G [] [] Z:=
 ⟨⟨fun n hn=>(by cases hn)⟩,fun n hn=>(by cases hn),fun n hn=>(by cases hn),⟨[],0,hm,rfl,rfl,by simp,by simp⟩,fun p hp=>(by cases hp)⟩
end
theorem Zmi (s t:List Nat) (h:Zaa):Zac pg Zcy [.str s,.str t] h fun v h'=>v=.bool (Zee s t)∧Zbh h.length h h':=by
 apply Zii.call
 refine (Zdp s h).mono ?_
 rintro v h1 ⟨rfl,s1⟩
 simp only [Zaf]
 refine Zcx (fun hn=>⟨by rw [Znt (by rw [hn]; rfl)],s1⟩) (fun hs=>?_)
 refine (Zdp t h1).mono ?_
 rintro v h2 ⟨rfl,s2⟩
 simp only [Zaf]
 have S2:=s1.cat s2
 refine Zcx (fun hn=>⟨by rw [Znt (by rw [hn]; simp)],S2⟩) (fun ht=>?_)
 obtain ⟨a,ha⟩:=Zgm hs
 obtain ⟨b,hb⟩:=Zgm ht
 obtain ⟨a1,a2,a3⟩:=Zbv.1 ha
 obtain ⟨b1,b2,b3⟩:=Zbv.1 hb
 apply Zii.J3i
 simp only [Zbb]
 generalize hh3:h2 ++ [Zcf.map [] 0]=h3
 have s3:Zbh h2.length h2 h3:=by rw [← hh3]; exact Zau
 have m3:h3[h2.length]?=some (.map [] 0):=by rw [← hh3]; simp
 have l3:h3.length=h2.length + 1:=by rw [← hh3]; simp
 have hl2:=S2.le
 refine (Zpp ha (ShS.nil m3 ⟨fun _=>0,fun _=>[]⟩ fun _=>False) (fun z hz=>hz.elim)).mono ?_
 rintro v h4 ⟨q1,G1,L1,sc1,rfl,R1⟩
 simp only [Zbo]
 have l4:=R1.fr.le
 generalize hh5:h4 ++ [Zcf.map [] 0]=h5
 have s5:Zbh h4.length h4 h5:=by rw [← hh5]; exact Zau
 have m5:h5[h4.length]?=some (.map [] 0):=by rw [← hh5]; simp
 have l5:h5.length=h4.length + 1:=by rw [← hh5]; simp
 refine (Zpp hb (ShS.nil m5 ⟨fun _=>0,fun _=>[]⟩ fun z=>z < h5.length) (fun z hz=>hz)).mono ?_
 rintro v h6 ⟨q2,G2,L2,sc2,rfl,R2⟩
 simp only [Zbo]
 have l6:=R2.fr.le
 have st1:=R1.st
 have st2:=R2.st
 simp only [List.nil_append] at st1 st2
 have S6:Zbh h.length h h6:=⟨by omega,fun j hj=>by
  rw [R2.fr.eq j (by omega) (by omega),s5.eq j (by omega),R1.fr.eq j (by omega) (by omega),s3.eq j (by omega)]; exact S2.eq j hj⟩
 have q1N:q1∈L1:=by simpa using R1.qN
 have q2N:q2∈L2:=by simpa using R2.qN
 have lo1:∀ x∈L1,x < h4.length:=fun x hx=>st1.gh.lt hx
 have lo2:∀ x∈L2,h5.length≤x:=fun x hx=>(R2.new x hx).1
 have dis:∀ x∈L1,x ∉ L2:=fun x hx hx2=>by have:=lo1 x hx; have:=lo2 x hx2; omega
 -- both graphs as one
 let G:Gr:=⟨fun n=>if n∈L1 then G1.hd n else G2.hd n,fun n=>if n∈L1 then G1.ps n else G2.ps n⟩
 have ag1:GAg L1 G1 G:=fun n hn=>by simp [G,hn]
 have ag2:GAg L2 G2 G:=fun n hn=>by
  have:n ∉ L1:=fun h=>dis n h hn
  simp [G,this]
 have k56:∀ j,j < h4.length→h6[j]?=h4[j]?:=fun j hj=>by rw [R2.fr.eq j (by omega) (by omega)]; exact s5.eq j hj
 have g1:GH h6 G L1 (fun _=>none) (fun z=>h4.length≤z):=(st1.gh.re (by omega) (fun n hn=>k56 n (lo1 n hn)) (fun j t cs ro hj _ _=>k56 j (Own.lt hj)) (fun j hj _=>by omega)).ag ag1
 have g2:GH h6 G L2 (fun _=>none) (fun z=>z < h5.length):=st2.gh.ag ag2
 have g:GH h6 G (L1 ++ L2) (fun _=>none) (fun _=>False):=by
  refine ⟨fun n hn=>?_⟩
  rcases List.mem_append.1 hn with hn | hn
  ·obtain ⟨pa,c,e,hi,hr,hd⟩:=g1.node n hn
   refine ⟨pa,c,e,hi,hr,fun j o h0 hj=>⟨fun hjm=>?_,fun h=>h.elim⟩⟩
   obtain ⟨d1,d2⟩:=hd j o h0 hj
   rcases List.mem_append.1 hjm with hjm | hjm
   ·exact d1 hjm
   ·have:=lo2 j hjm; omega
  ·obtain ⟨pa,c,e,hi,hr,hd⟩:=g2.node n hn
   refine ⟨pa,c,e,hi,hr,fun j o h0 hj=>⟨fun hjm=>?_,fun h=>h.elim⟩⟩
   obtain ⟨d1,d2⟩:=hd j o h0 hj
   rcases List.mem_append.1 hjm with hjm | hjm
   ·have:=lo1 j hjm; omega
   ·exact d1 hjm
 have cl1:GCl G L1:=fun n hn p hp=>by rw [(ag1 n hn).2] at hp; exact st1.cl n hn p hp
 have cl2:GCl G L2:=fun n hn p hp=>by rw [(ag2 n hn).2] at hp; exact st2.cl n hn p hp
 have ok:GOk G (L1 ++ L2) (fun _=>none):=by
  refine ⟨fun n hn p hp=>?_,fun n hn=>?_,fun n m _ h=>(by cases h),fun n _=>⟨0,n,.refl,rfl⟩⟩
  ·rcases List.mem_append.1 hn with hn | hn
   ·exact List.mem_append_left _ (cl1 n hn p hp)
   ·exact List.mem_append_right _ (cl2 n hn p hp)
  ·rcases List.mem_append.1 hn with hn | hn
   ·rw [(ag1 n hn).1,(ag1 n hn).2]; exact st1.ar n hn
   ·rw [(ag2 n hn).1,(ag2 n hn).2]; exact st2.ar n hn
 let nu:Nat→Nat:=fun n=>if n∈L1 then G.hd n else Zzr (G.hd n)
 have nu1:∀ n∈L1,nu n=G.hd n:=fun n hn=>by simp [nu,hn]
 have nu2:∀ n∈L2,nu n=Zzr (G.hd n):=fun n hn=>by
  have:n ∉ L1:=fun h=>dis n h hn
  simp [nu,this]
 have letter:∀ n∈L1 ++ L2,Zoy (G.hd n)=false:=fun n hn=>by
  have h0:=ok.ar n hn
  cases ho:Zoy (G.hd n) with
  | false=>rfl
  | true=>
   exfalso
   generalize G.hd n=c at h0 ho
   simp only [Zoy,decide_eq_true_eq] at ho
   unfold arN Zdo Zag at h0
   simp only [Bool.or_eq_true,beq_iff_eq] at h0
   split at h0
   ·omega
   ·split at h0
    ·omega
    ·split at h0 <;> omega
 have nv:Ybl G (L1 ++ L2) nu V12:=by
  refine ⟨fun n hn hv=>?_,fun n hn hv=>by simp [V12,hv,letter n hn],fun n hn m hm hv hv' he=>?_⟩
  ·rcases List.mem_append.1 hn with hn | hn
   ·rw [nu1 n hn]; simp [V12,hv]
   ·rw [nu2 n hn]; simp [V12,(Zjp hv).2.1]
  ·rcases List.mem_append.1 hn with hn | hn <;> rcases List.mem_append.1 hm with hm | hm
   ·rw [nu1 n hn,nu1 m hm] at he
    rw [(ag1 n hn).1] at hv he
    rw [(ag1 m hm).1] at hv' he
    have e1:=(st1.sin _ (R1.var n hn hv)).2.2.2
    have e2:=(st1.sin _ (R1.var m hm hv')).2.2.2
    simp only at e1 e2
    rw [he,e2] at e1; exact (Option.some.inj e1).symm
   ·rw [nu1 n hn,nu2 m hm] at he
    have:=(Zjp hv').2.2
    rw [← he,hv] at this; cases this
   ·rw [nu2 n hn,nu1 m hm] at he
    have:=(Zjp hv).2.2
    rw [he,hv'] at this; cases this
   ·rw [nu2 n hn,nu2 m hm] at he
    have he:=Yje hv hv' he
    rw [(ag2 n hn).1] at hv he
    rw [(ag2 m hm).1] at hv' he
    have e1:=(st2.sin _ (R2.var n hn hv)).2.2.2
    have e2:=(st2.sin _ (R2.var m hm hv')).2.2.2
    simp only at e1 e2
    rw [he,e2] at e1; exact (Option.some.inj e1).symm
 have ra:Raw G nu q1 a:=R1.raw.agree ag1 st1.cl (fun x hx=>by rw [nu1 x hx,(ag1 x hx).1]) q1N
 have rb:Raw G nu q2 (Zmp b):=by
  have r0:Raw G G.hd q2 b:=R2.raw.agree ag2 st2.cl (fun x hx=>(ag2 x hx).1) q2N
  exact r0.oth cl2 (fun x hx _=>nu2 x hx) q2N
 have sb1:∀ x∈L1,Sub G q1 x:=fun x hx=>(R1.new x hx).2.agree ag1 st1.cl q1N
 have sb2:∀ x∈L2,Sub G q2 x:=fun x hx=>(R2.new x hx).2.agree ag2 st2.cl q2N
 have w:Two G (L1 ++ L2) nu V12 q1 q2 a (Zmp b):=by
  refine ⟨by simp [q1N],by simp [q2N],nv,ra,rb,fun n hn=>?_,fun x hx=>?_⟩
  ·rcases List.mem_append.1 hn with hn | hn
   ·exact ra.under ok (sb1 n hn) (by simp [q1N])
   ·exact rb.under ok (sb2 n hn) (by simp [q2N])
  ·rcases List.mem_append.1 hx with hx | hx
   ·exact .inl (sb1 x hx)
   ·exact .inr (sb2 x hx)
 have hap:Zee s t=true ↔ ¬ ∃ θ:Nat→Ty,sb V12 θ a=sb V12 θ (Zmp b):=by
  rw [Zzp a1 b1]
  unfold Zee; rw [ha,hb]; simp
 refine (Zzq _ (Nat.le_refl _) g ok (by simp [q1N]) (by simp [q2N])).mono ?_
 rintro v h7 ⟨o7,hr7⟩
 have S7:Zbh h.length h h7:=⟨by have:=o7.1; omega,fun j hj=>by
  rw [o7.2 j (by omega) fun hj'=>by
   rcases List.mem_append.1 hj' with hj' | hj'
   ·have:=(R1.new j hj').1; omega
   ·have:=lo2 j hj'; omega]
  exact S6.eq j hj⟩
 rcases hr7 with ⟨rfl,lk',y,g7⟩ | ⟨rfl,no⟩
 ·simp only [Zaf,Bool.not_true,Zat]
  refine (Ycv y.gok g7 (show q1∈L1 ++ L2 by simp [q1N])).mono ?_
  rintro v h8 ⟨s8,⟨rfl,hno⟩ | ⟨rfl,hT⟩⟩
  ·simp only [Zaf,Bool.not_false]
   refine ⟨?_,S7.cat s8⟩
   rw [hap.2 (w.endless y hno)]
  ·simp only [Zaf,Bool.not_true]
   refine ⟨?_,S7.cat s8⟩
   obtain ⟨T,hT⟩:=hT nu
   have hs:=w.sol y hT
   have:Zee s t=false:=by
    cases hq:Zee s t with
    | false=>rfl
    | true=>exact absurd ⟨_,hs.1.trans hs.2.symm⟩ (hap.1 hq)
   rw [this]
 ·simp only [Zaf,Bool.not_false,Zay]
  exact ⟨by rw [hap.2 (w.no no)],S7⟩
end Go.Sim

set_option linter.unusedVariables false
set_option linter.unusedSimpArgs false
set_option maxRecDepth 20000
namespace Go.Sim
open Go Go.RowKit

theorem Yfn {es:List ME} {seen:List Nat} {e:ME} (he:e∈es) (hn:e.2.2 ∉ seen):es.countP (fun x=>decide (x.2.2 ∉ seen ++ [e.2.2])) < es.countP (fun x=>decide (x.2.2 ∉ seen)):=by
 have key:∀ L:List ME,e∈L→L.countP (fun x=>decide (x.2.2 ∉ seen ++ [e.2.2])) < L.countP (fun x=>decide (x.2.2 ∉ seen)):=by
  intro L hL
  induction L with
  | nil=>cases hL
  | cons n L ih=>
   have hm:L.countP (fun x=>decide (x.2.2 ∉ seen ++ [e.2.2]))≤L.countP (fun x=>decide (x.2.2 ∉ seen)):=List.countP_mono_left fun x _ h=>by
    simp only [decide_eq_true_eq,List.mem_append,not_or] at h ⊢; exact h.1
   rw [List.countP_cons,List.countP_cons]
   rcases List.mem_cons.1 hL with rfl | hL
   ·rw [if_neg (by simp),if_pos (by simpa using hn)]; omega
   ·have:=ih hL
    by_cases h1:n.2.2∈seen ++ [e.2.2]
    ·rw [if_neg (by rw [decide_eq_true_eq]; exact fun h=>h h1)]; split <;> omega
    ·have h2:n.2.2 ∉ seen:=fun h=>h1 (List.mem_append_left _ h)
     rw [if_pos (by rw [decide_eq_true_eq]; exact h1),if_pos (by rw [decide_eq_true_eq]; exact h2)]; omega
 exact key es he
theorem Zre:∀ {m:Bd} {p:Nat × Ty},p∈m→∃ T,Zct m p.1=some T
 | (w,u) :: m,p,h=>by
  simp only [Zct]
  by_cases e:w=p.1
  ·exact ⟨u,by rw [if_pos e]⟩
  ·rw [if_neg e]
   refine Zre ((List.mem_cons.1 h).resolve_left fun h=>?_)
   subst h; exact e rfl
theorem Ybt {Q:QT} {h0:Zaa} {G:Gr} {N:List Nat} {lk:Nat→Option Nat} {Z:Nat→Prop} {sc:List (Nat × Nat)} {mi mo r clk:Nat} {es:List ME} {F:Nat→Ty} (g:GH h0 G N lk Z) (ok:GOk G N lk) (cl:Cls G N lk)
  (hsc:∀ p∈sc,p.2∈N∧G.hd p.2=p.1∧Zag p.1=true∧Zqo sc p.1=some p.2) (hF:∀ p∈sc,VT G lk G.hd p.2 (F p.1)) (hFk:∀ p∈sc,(F p.1=.k p.1 ↔ lk p.2=none)) (hFok:∀ p∈sc,(F p.1).ok=true)
  (hFo:∀ v,Zag v=true→Zqo sc v=none→F v=.k v) (hm:h0[mi]?=some (.map es clk)) (hk:es.map (·.1)=sc.map (fun p=>Zad.str [p.1])) (hv:es.map (·.2.1)=sc.map (fun p=>Zad.ptr (some (p.2,0)))) (hnd:(es.map (·.2.2)).Nodup) (hlt:∀ e∈es,e.2.2 < clk)
  (hmo:∃ es' k',h0[mo]?=some (.map es' k')) (hr0:∃ a b c d,h0[r]?=some (.miter a b c d)) (hne1:mi≠mo) (hne2:mi≠r) (hne3:mo≠r)
  (hyes:∀ m h',Zwf h' mo m→(∀ v,Zct m v=Zct (Zow F) v)→BOk 60 m→Zum F=true→Zhb mo r h0 h'→Zcg.A9x0 Q (some mo) h') (hno:∀ h',Zhb mo r h0 h'→Zum F=false→Q (.tup [.slice none 0 0 true,.bool false]) h') :
  ∀ (h:Zaa) (seen:List Nat),Zhb mo r h0 h→h[r]?=some (.miter (some mi) clk seen clk)→(∃ m,Zwf h mo m∧BOk 60 m∧(∀ (j:Nat) (e:ME) (c x:Nat),es[j]?=some e→sc[j]?=some (c,x)→e.2.2∈seen→lk x≠none→Zct m c=some (F c))∧∀ v T,Zct m v=some T→T=F v∧∃ x,(v,x)∈sc∧lk x≠none) →
   Zcg.L9 Q (some mo) r h:=by
 intro h seen hK hr hm0
 refine Zcg.L9ind (J:=fun (seen:List Nat) h=>Zhb mo r h0 h∧h[r]?=some (.miter (some mi) clk seen clk)∧(∃ m,Zwf h mo m∧BOk 60 m∧(∀ (j:Nat) (e:ME) (c x:Nat),es[j]?=some e→sc[j]?=some (c,x)→e.2.2∈seen→lk x≠none→Zct m c=some (F c))∧∀ v T,Zct m v=some T→T=F v∧∃ x,(v,x)∈sc∧lk x≠none)) (m:=fun seen=>es.countP (fun x=>decide (x.2.2 ∉ seen))) (hr:=?_) (g:=seen) (hj:=⟨hK,hr,hm0⟩)
 clear hm0 hr hK seen h
 rintro seen h ⟨hK,hr,m,rm,bo,inv1,inv2⟩ R hR
 unfold Zcg.L9t
 have hmi:h[mi]?=some (.map es clk):=by rw [hK.2 mi (Own.lt hm) hne1 hne2]; exact hm
 have hlen:es.length=sc.length:=by have:=congrArg List.length hk; simpa using this
 simp only [Zly,hr,Yjm,Zbt,hmi]
 refine ⟨⟨hlt,Nat.le_refl _⟩,fun hall=>?_,fun e he hns=>?_⟩
 ·refine hyes m h rm (fun v=>?_) bo ?_ hK
  ·rw [Zob]
   cases hb:Zct m v with
   | some T=>
    obtain ⟨rfl,x,hx,hlx⟩:=inv2 v T hb
    obtain ⟨_,_,h3,_⟩:=hsc _ hx
    have h4:¬ F v=.k v:=fun e=>hlx ((hFk _ hx).1 e)
    simp only at h3
    rw [if_pos ⟨h3,h4⟩]
   | none=>
    split
    ·rename_i hc
     obtain ⟨h1,h2⟩:=hc
     exfalso
     cases hg:Zqo sc v with
     | none=>exact h2 (hFo v h1 hg)
     | some x=>
      have hx:=Zpe hg
      obtain ⟨j,hj⟩:=List.getElem?_of_mem hx
      have hjl:=(List.getElem?_eq_some_iff.1 hj).1
      have hje:es[j]?=some es[j]:=List.getElem?_eq_getElem (by omega)
      have:=inv1 j _ v x hje hj (hall _ (List.getElem_mem _)) (fun e=>h2 ((hFk _ hx).2 e))
      rw [hb] at this; cases this
    ·rfl
  ·unfold Zum
   rw [List.all_eq_true]
   intro v hv'
   have hvv:=(Zgd v).1 hv'
   by_cases hfv:F v=.k v
   ·simp [hfv]
   ·cases hg:Zqo sc v with
    | none=>exact absurd (hFo v hvv hg) hfv
    | some x=>
     have hx:=Zpe hg
     obtain ⟨j,hj⟩:=List.getElem?_of_mem hx
     have hjl:=(List.getElem?_eq_some_iff.1 hj).1
     have hje:es[j]?=some es[j]:=List.getElem?_eq_getElem (by omega)
     have hb:=inv1 j _ v x hje hj (hall _ (List.getElem_mem _)) (fun e=>hfv ((hFk _ hx).2 e))
     have:=(bo.var _ (Zin hb)).2.2
     simp only at this
     simp [this]
 ·obtain ⟨j,hj⟩:=List.getElem?_of_mem he
  have hjl:=(List.getElem?_eq_some_iff.1 hj).1
  obtain ⟨c,x,hcx⟩:∃ c x,sc[j]?=some (c,x):=⟨_,_,List.getElem?_eq_getElem (by omega)⟩
  obtain ⟨e1,e2,st⟩:=e
  have he1:e1=.str [c]:=by
   have:=congrArg (·[j]?) hk
   simp only [List.getElem?_map,hj,hcx,Option.map_some,Option.some.injEq] at this; exact this
  have he2:e2=.ptr (some (x,0)):=by
   have:=congrArg (·[j]?) hv
   simp only [List.getElem?_map,hj,hcx,Option.map_some,Option.some.injEq] at this; exact this
  subst he1; subst he2
  have hxs:=List.mem_of_getElem? hcx
  obtain ⟨hxN,hxh,hcv,hng⟩:=hsc _ hxs
  simp only at hxN hxh hcv hng hns
  simp only [Zuv,Zbb]
  generalize hh1:h.set r (.miter (some mi) clk (seen ++ [st]) clk)=h1
  have hr1:h1[r]?=some (.miter (some mi) clk (seen ++ [st]) clk):=by rw [← hh1]; exact Zby hr
  have k1:∀ q,q≠r→h1[q]?=h[q]?:=fun q hq=>by rw [← hh1]; exact Zbm fun e=>hq e.symm
  have l1:h1.length=h.length:=by rw [← hh1]; simp
  have K1:Zhb mo r h0 h1:=hK.trans ⟨by omega,fun q hq _ h2=>k1 q h2⟩
  have rm1:Zwf h1 mo m:=rm.eq (k1 mo hne3)
  have hm1:h1[mi]?=some (.map es clk):=by rw [k1 mi hne2]; exact hmi
  have g1:GH h1 G N lk Z:=g.agree K1.1 fun q t cs ro hq=>K1.2 q (Own.lt hq) (fun e=>by subst e; obtain ⟨_,_,hx⟩:=hmo; rw [hx] at hq; cases hq) (fun e=>by subst e; obtain ⟨_,_,_,_,hx⟩:=hr0; rw [hx] at hq; cases hq)
  simp only [hr1,xMp,hm1]
  refine ⟨⟨hnd,by trivial⟩,(.str [c],.ptr (some (x,0)),st),he,seen,rfl,?_⟩
  simp only [Zuv]
  obtain ⟨kp,en,hp,hen0,henN⟩:=ok.ends hxN
  refine (Zvk g1 ok hxN hp hen0).mono ?_
  rintro v h2 ⟨rfl,rfl⟩
  simp only [Zbo]
  have hdec:=Yfn he hns
  -- only the one more stamp
  have same_ix:∀ (j':Nat) (e':ME) (c' x':Nat),es[j']?=some e'→sc[j']?=some (c',x')→e'.2.2∈seen ++ [st]→e'.2.2∈seen ∨ (c'=c∧x'=x):=by
   intro j' e' c' x' hj' hs' hin
   rcases List.mem_append.1 hin with hin | hin
   ·exact .inl hin
   ·right
    rw [List.mem_singleton] at hin
    have h1:(es.map (·.2.2))[j']?=some st:=by rw [List.getElem?_map,hj',Option.map_some,hin]
    have h2:(es.map (·.2.2))[j]?=some st:=by rw [List.getElem?_map,hj,Option.map_some]
    have hjj:j'=j:=by
     obtain ⟨a1,b1⟩:=List.getElem?_eq_some_iff.1 h1
     obtain ⟨a2,b2⟩:=List.getElem?_eq_some_iff.1 h2
     exact (List.getElem_inj (h₀:=a1) (h₁:=a2) hnd).1 (b1.trans b2.symm)
    subst hjj
    rw [hcx] at hs'
    cases hs'; exact ⟨rfl,rfl⟩
  by_cases hex:en=x
  ·subst hex
   refine .inl ⟨rfl,?_⟩
   simp only [Zay]
   refine hR (seen ++ [st]) _ hdec ⟨K1,hr1,m,rm1,bo,fun j' e' c' x' hj' hs' hin hlx=>?_,inv2⟩
   rcases same_ix j' e' c' x' hj' hs' hin with h | ⟨rfl,rfl⟩
   ·exact inv1 j' e' c' x' hj' hs' h hlx
   ·exact absurd hen0 hlx
  ·refine .inr ⟨hex,Zgb g1 henN,Zgb g1 hxN,?_⟩
   simp only [Zat]
   have hlx:lk x≠none:=fun h=>hex (hp.at_end h)
   have hvt:=hF _ hxs
   simp only at hvt
   refine (Yja ok cl _ (Nat.le_refl _) g1 hxN hvt).mono ?_
   rintro v h3 ⟨rfl,s,rfl,hs61,hst⟩
   simp only [Zdx,Zak,Zap,Zaf,Zaq]
   have hfne:¬ F c=.k c:=fun e=>hlx ((hFk _ hxs).1 e)
   refine Zcx (fun hb=>?_) (fun hb=>?_)
   ·have hb:=of_decide_eq_false hb
    refine hno _ K1 ?_
    unfold Zum
    rw [List.all_eq_false]
    exact ⟨c,(Zgd c).2 hcv,by simp [hfne,hb]⟩
   ·have hb:=of_decide_eq_true hb
    have hs':=hst hb
    subst hs'
    obtain ⟨es2,clk2,ho2,hk2,hv2,hnd2,hlt2⟩:=id rm1
    simp only [ho2,Zzc]
    have hol:=Own.lt ho2
    have fin:∀ (m':Bd) (es':List ME) (k':Nat),Zwf (h3.set mo (.map es' k')) mo m'→BOk 60 m'→Zct m' c=some (F c)→(∀ v,v≠c→Zct m' v=Zct m v)→R (some mo) r (h3.set mo (.map es' k')):=by
     intro m' es' k' rm' bo' hc hoth
     have bc:∀ c',Zct m c'=some (F c')→Zct m' c'=some (F c'):=fun c' hb'=>by
      by_cases e:c'=c
      ·rw [e]; exact hc
      ·rw [hoth c' e]; exact hb'
     refine hR (seen ++ [st]) _ hdec ⟨K1.trans (Zhb.set1 mo r h3 _),by rw [Zbm hne3]; exact hr1,m',rm',bo',fun j' e' c' x' hj' hs' hin hlx'=>?_,fun v T hv'=>?_⟩
     ·rcases same_ix j' e' c' x' hj' hs' hin with h | ⟨rfl,rfl⟩
      ·exact bc c' (inv1 j' e' c' x' hj' hs' h hlx')
      ·exact hc
     ·by_cases e:v=c
      ·subst e
       rw [hc] at hv'
       exact ⟨(Option.some.inj hv').symm,x,hxs,hlx⟩
      ·rw [hoth v e] at hv'; exact inv2 v T hv'
    cases hg:Zct m c with
    | none=>
     rw [Zjh hk2 hg]
     refine fin (m ++ [(c,F c)]) _ _ ⟨_,_,List.getElem?_set_self hol,by simp [hk2],by simp [hv2],?_,?_⟩ ⟨fun p hp=>?_,?_⟩ (by rw [Ziq,hg]; simp) (fun v hv'=>?_)
     ·rw [List.map_append,List.nodup_append]
      refine ⟨hnd2,by simp,?_⟩
      intro a ha b hb' e
      simp at hb'
      obtain ⟨z,hz,rfl⟩:=List.mem_map.1 ha
      have:=hlt2 z hz; omega
     ·intro e he
      rcases List.mem_append.1 he with he | he
      ·have:=hlt2 e he; omega
      ·simp at he; subst he; simp
     ·rcases List.mem_append.1 hp with hp | hp
      ·exact bo.var p hp
      ·rw [List.mem_singleton.1 hp]; exact ⟨hcv,hFok _ hxs,hb⟩
     ·rw [List.map_append,List.nodup_append]
      refine ⟨bo.nd,by simp,?_⟩
      intro a ha b hb' e
      simp at hb'
      subst hb'; subst e
      obtain ⟨p,hp,rfl⟩:=List.mem_map.1 ha
      obtain ⟨T,hT⟩:=Zre hp
      rw [hg] at hT; cases hT
     ·rw [Ziq]
      cases Zct m v with
      | some T=>rfl
      | none=>rw [if_neg fun e=>hv' e.symm]
    | some T=>
     obtain ⟨hT,_⟩:=inv2 c T hg
     subst hT
     obtain ⟨j2,b2,hf2,hj2⟩:=Zja (k:=0) hk2 hv2 hg
     rw [hf2]
     simp only [Nat.zero_add]
     rw [Zjz hj2 rfl]
     exact fin m es2 clk2 ⟨es2,clk2,List.getElem?_set_self hol,hk2,hv2,hnd2,hlt2⟩ bo hg (fun _ _=>rfl)
def Ymd (s t:List Nat) (h:Zaa) (v:Zad) (h':Zaa):Prop:=Zbh h.length h h'∧∃ a n c e,v=.tup [.slice a n c e,.bool (Zkm s t).isSome]∧n≤c∧Zfd Zbk eP h.length h' a n ((Zkm s t).getD [])
theorem Zzn {s t:List Nat} (h:(Zlb s && Zlb t)=false):Zkm s t=none:=by
 unfold Zkm
 split
 ·rename_i a b ha hb; rw [Ziw ha,Ziw hb] at h; cases h
 ·rfl
theorem Zrm {s t:List Nat} {h h':Zaa} (hn:Zkm s t=none) (S:Zbh h.length h h'):Ymd s t h (.tup [.slice none 0 0 true,.bool false]) h':=
 ⟨S,none,0,0,true,by rw [hn]; rfl,Nat.le_refl _,by rw [hn]; exact ⟨rfl,.inl rfl⟩⟩
theorem Ybp {m m':Bd} (h:∀ v,Zct m v=Zct m' v):bdL m=bdL m':=by
 unfold bdL
 congr 1
 funext v
 rw [h v]
theorem Ztr (s t:List Nat) (h:Zaa):Zac pg Zgv [.str s,.str t] h (Ymd s t h):=by
 apply Zcg.call
 refine (Zdp s h).mono ?_
 rintro v h1 ⟨rfl,s1⟩
 simp only [Zaf]
 refine Zcx (fun hn=>Zrm (Zzn (by rw [hn]; rfl)) s1) (fun hs=>?_)
 refine (Zdp t h1).mono ?_
 rintro v h2 ⟨rfl,s2⟩
 simp only [Zaf]
 have S2:=s1.cat s2
 refine Zcx (fun hn=>Zrm (Zzn (by rw [hn]; simp)) S2) (fun ht=>?_)
 obtain ⟨a,ha⟩:=Zgm hs
 obtain ⟨b,hb⟩:=Zgm ht
 obtain ⟨a1,a2,a3⟩:=Zbv.1 ha
 obtain ⟨b1,b2,b3⟩:=Zbv.1 hb
 apply Zcg.J3i
 simp only [Zbb]
 generalize hh3:h2 ++ [Zcf.map [] 0]=h3
 have s3:Zbh h2.length h2 h3:=by rw [← hh3]; exact Zau
 have m3:h3[h2.length]?=some (.map [] 0):=by rw [← hh3]; simp
 have l3:h3.length=h2.length + 1:=by rw [← hh3]; simp
 have hl2:=S2.le
 refine (Zpp ha (ShS.nil m3 ⟨fun _=>0,fun _=>[]⟩ fun _=>False) (fun z hz=>hz.elim)).mono ?_
 rintro v h4 ⟨q1,G1,L1,sc1,rfl,R1⟩
 simp only [Zbo]
 have l4:=R1.fr.le
 have st1:=R1.st
 simp only [List.nil_append] at st1
 refine (Zpp hb st1 (fun z hz=>hz.elim)).mono ?_
 rintro v h5 ⟨q2,G,L2,sc,rfl,R2⟩
 simp only [Zbo]
 have l5:=R2.fr.le
 have st:=R2.st
 have q1N1:q1∈L1:=by simpa using R1.qN
 have q1N:q1∈L1 ++ L2:=List.mem_append_left _ q1N1
 have q2N:=R2.qN
 have ok:GOk G (L1 ++ L2) (fun _=>none):=st.gok
 have nv:Ybl G (L1 ++ L2) G.hd Zag:=by
  refine ⟨fun n _ h=>h,fun n _ h=>h,fun n hn m hm hv hv' he=>?_⟩
  have key:∀ n∈L1 ++ L2,Zag (G.hd n)=true→Zqo sc (G.hd n)=some n:=fun n hn hv=>by
   rcases List.mem_append.1 hn with hn | hn
   ·have hh:=(R2.ag n hn).1
    rw [hh] at hv ⊢
    obtain ⟨r,hr⟩:=R2.ext
    exact (st.sin (G1.hd n,n) (by rw [hr]; exact List.mem_append_left _ (R1.var n hn hv))).2.2.2
   ·exact (st.sin _ (R2.var n hn hv)).2.2.2
  have e1:=key n hn hv
  have e2:=key m hm hv'
  rw [he,e2] at e1; exact (Option.some.inj e1).symm
 have ra:Raw G G.hd q1 a:=R1.raw.agree R2.ag st1.cl (fun x hx=>(R2.ag x hx).1) q1N1
 have rb:Raw G G.hd q2 b:=R2.raw
 have sb1:∀ x∈L1,Sub G q1 x:=fun x hx=>(R1.new x hx).2.agree R2.ag st1.cl q1N1
 have w:Two G (L1 ++ L2) G.hd Zag q1 q2 a b:=by
  refine ⟨q1N,q2N,nv,ra,rb,fun n hn=>?_,fun x hx=>?_⟩
  ·rcases List.mem_append.1 hn with hn | hn
   ·exact ra.under ok (sb1 n hn) q1N
   ·exact rb.under ok (R2.new n hn).2 q2N
  ·rcases List.mem_append.1 hx with hx | hx
   ·exact .inl (sb1 x hx)
   ·exact .inr (R2.new x hx).2
 have S5:Zbh h.length h h5:=⟨by omega,fun j hj=>by
  rw [R2.fr.eq j (by omega) (by omega),R1.fr.eq j (by omega) (by omega),s3.eq j (by omega)]; exact S2.eq j hj⟩
 have none_of:(¬ ∃ θ:Nat→Ty,sb Zag θ a=sb Zag θ b)→Zkm s t=none:=fun hno=>by
  unfold Zkm; rw [ha,hb]; simp only; rw [Yaz hno]
 refine (Zzq _ (Nat.le_refl _) st.gh ok q1N q2N).mono ?_
 rintro v h6 ⟨o6,hr6⟩
 have fresh:∀ n∈L1 ++ L2,h2.length < n:=fun n hn=>by
  rcases List.mem_append.1 hn with hn | hn
  ·have:=(R1.new n hn).1; omega
  ·have:=(R2.new n hn).1; omega
 have S6:Zbh h.length h h6:=⟨by have:=o6.1; omega,fun j hj=>by
  rw [o6.2 j (by omega) fun hj'=>by have:=fresh j hj'; omega]; exact S5.eq j hj⟩
 rcases hr6 with ⟨rfl,lk,y,g6⟩ | ⟨rfl,no⟩
 ·simp only [Zaf,Bool.not_true,Zat]
  refine (Ycv y.gok g6 q1N).mono ?_
  rintro v h7 ⟨s7,⟨rfl,hno⟩ | ⟨rfl,hT⟩⟩
  ·simp only [Zaf,Bool.not_false,Zay]
   exact Zrm (none_of (w.endless y hno)) (S6.cat s7)
  ·simp only [Zaf,Bool.not_true,Zat]
   obtain ⟨T,hT⟩:=hT G.hd
   have hall:=w.all y hT
   have mg:=w.mgu y hT
   generalize hFd:grF G (L1 ++ L2) lk G.hd=F at mg
   have hu:Zkm s t=if Zum F then some (bdL (Zow F)) else none:=by
    unfold Zkm; rw [ha,hb]; simp only; rw [Yar mg]
   have g7:=g6.same s7
   have S7:=S6.cat s7
   obtain ⟨es,clk,hm5,hk,hv,hnd,hlt⟩:=id st.map
   have hm6:h6[h2.length]?=some (.map es clk):=by rw [o6.2 _ (Own.lt hm5) fun hj=>by have:=fresh _ hj; omega]; exact hm5
   have hm7:=s7.get hm6 (Own.lt hm6)
   apply Zcg.J7i
   simp only [Zbb]
   generalize hh8:h7 ++ [Zcf.map [] 0]=h8
   have s8:Zbh h7.length h7 h8:=by rw [← hh8]; exact Zau
   have o8:h8[h7.length]?=some (.map [] 0):=by rw [← hh8]; simp
   have l8:h8.length=h7.length + 1:=by rw [← hh8]; simp
   have hm8:=s8.get hm7 (Own.lt hm7)
   simp only [Zbt,hm8,Yjv]
   generalize hh9:h8 ++ [Zcf.miter (some h2.length) clk [] clk]=h9
   have s9:Zbh h8.length h8 h9:=by rw [← hh9]; exact Zau
   have r9:h9[h8.length]?=some (.miter (some h2.length) clk [] clk):=by rw [← hh9]; simp
   have hm9:=s9.get hm8 (Own.lt hm8)
   have o9:=s9.get o8 (Own.lt o8)
   have S9:=(S7.cat s8).cat s9
   have hml:=Own.lt hm7
   have hvt:∀ p∈sc,∃ x,VT G lk G.hd p.2 x:=fun p hp=>hall _ (st.sin p hp).1
   have hbnd:∀ p∈sc,VT G lk G.hd p.2 (F p.1)∧(F p.1=.k p.1 ↔ lk p.2=none):=fun p hp=>by
    obtain ⟨i1,i2,i3,_⟩:=st.sin p hp
    obtain ⟨x,hx⟩:=hvt p hp
    have:=w.bound y i1 (by rw [i2]; exact i3) hx
    rw [hFd,i2] at this
    rw [this.1]
    exact ⟨hx,this.2⟩
   have hl7:=S7.le
   refine Ybt (Z:=fun _=>False) ((g7.same s8).same s9) y.gok y.cls (fun p hp=>st.sin p hp) (fun p hp=>(hbnd p hp).1) (fun p hp=>(hbnd p hp).2) (fun p hp=>mg.2 p.1 (st.sin p hp).2.2.1) (fun v hv' hg=>?_) hm9 hk hv hnd hlt ⟨_,_,o9⟩ ⟨_,_,_,_,r9⟩ (by omega) (by omega) (by omega)
    (fun m h' rm hb' bo hS K=>?_) (fun h' K hS=>?_) h9 [] (Zhb.refl _ _ _) r9 ⟨[],⟨[],0,o9,rfl,rfl,by simp,by simp⟩,BOk.nil,fun j e c x _ _ hin=>(by cases hin),fun v T hv'=>(by cases hv')⟩
   ·-- a variable of neither type
    rw [← hFd]
    unfold grF
    rw [dif_neg]
    rintro ⟨s',x,hx,hxv,rfl,_⟩
    have key:Zqo sc (G.hd x)=some x:=by
     rcases List.mem_append.1 hx with hx | hx
     ·have hh:=(R2.ag x hx).1
      rw [hh] at hxv ⊢
      obtain ⟨r,hr⟩:=R2.ext
      exact (st.sin (G1.hd x,x) (by rw [hr]; exact List.mem_append_left _ (R1.var x hx hxv))).2.2.2
     ·exact (st.sin _ (R2.var x hx hxv)).2.2.2
    rw [hg] at key; cases key
   ·apply Zcg.A9x0i
    refine (Zqp rm bo).mono ?_
    rintro v h10 ⟨s10,ra,rn,rc,re,rfl,hrc,fr⟩
    simp only [Zai]
    have SK:Zbh h.length h h':=⟨by have:=K.1; have:=S9.le; omega,fun j hj=>by
     rw [K.2 j (by have:=S9.le; omega) (by omega) (by omega)]; exact S9.eq j hj⟩
    rw [hS,if_pos rfl] at hu
    rw [Ybp hb'] at fr
    refine ⟨SK.cat s10,ra,rn,rc,re,by rw [hu]; rfl,hrc,?_⟩
    rw [hu]
    exact ⟨fr.1,fr.2.imp id fun ⟨i,hi1,hi2,hi3⟩=>⟨i,hi1,by have:=SK.le; omega,hi3⟩⟩
   ·rw [hS,if_neg (by simp)] at hu
    exact Zrm hu ⟨by have:=K.1; have:=S9.le; omega,fun j hj=>by
     rw [K.2 j (by have:=S9.le; omega) (by omega) (by omega)]; exact S9.eq j hj⟩
 ·simp only [Zaf,Bool.not_false,Zay]
  exact Zrm (none_of (w.no no)) S6
theorem Yeo (s t:List Nat) (h:Zaa):Zac pg Zjt [.str s,.str t] h fun v h'=>v=.tup [.str ((Zqs s t).getD []),.bool (Zqs s t).isSome]∧Zbh h.length h h':=by
 apply Znq.call
 refine (Ztr s t h).mono ?_
 rintro v h1 ⟨s1,a,n,c,e,rfl,hnc,f⟩
 simp only [Zdx,Zak,Zai,Zaf,Zaq]
 cases hu:Zkm s t with
 | none=>
  have:Zqs s t=none:=by unfold Zqs; rw [hu]; rfl
  simp only [Option.isSome_none,Bool.not_false,Zay]
  rw [this]
  exact ⟨rfl,s1⟩
 | some l=>
  rw [hu] at f
  simp only [Option.isSome_some,Bool.not_true,Zat,Option.getD_some] at f ⊢
  have hbk:=(Zyd hu).1
  have:Zqs s t=Zmd l s:=by unfold Zqs; rw [hu]; rfl
  rw [this]
  have hn:n≤1048576:=by
   rw [← f.1]
   unfold Zkm at hu
   split at hu
   ·split at hu
    ·split at hu
     ·cases hu; exact Nat.le_trans (Yiq _) (by decide)
     ·cases hu
    ·cases hu
   ·cases hu
  refine (Zoz (t:=s) (f.row Zmb) hn).mono ?_
  rintro v h2 ⟨rfl,s2⟩
  unfold Zqg
  cases Zmd l s with
  | none=>
   simp only [Zdx,Zak,Zap,Zaf,Zaq]
   exact ⟨rfl,s1.cat s2⟩
  | some u=>
   simp only [Zdx,Zak,Zap,Zaf,Zaq]
   exact ⟨rfl,s1.cat s2⟩
end Go.Sim

set_option linter.unusedVariables false
set_option linter.unusedSimpArgs false
set_option maxRecDepth 20000
namespace Go.Sim
open Go Go.RowKit

end Go.Sim

set_option linter.unusedVariables false
set_option linter.unusedSimpArgs false
set_option maxRecDepth 20000
namespace Go.Sim
open Go Go.RowKit

def eB (b:Nat):List Zad:=[.int .u8 (b:Int)]
theorem Zvp (x:Nat):(eB x).length=1:=rfl
def Rdr (h:Zaa) (i p:Nat):Prop:=∃ a n c e,∃ l:List Nat,h[i]?=some (.cells Zit [.slice a n c e,.int .i64 (p:Int)] false)∧Row i h a n (Zeh eB l)∧(∀ b∈l,b < 256)∧n≤2000
theorem Rdr.agree {h h':Zaa} {i p:Nat} (r:Rdr h i p) (hh:∀ j,j≤i→h'[j]?=h[j]?) (hl:h.length≤h'.length):Rdr h' i p:=by
 obtain ⟨a,n,c,e,l,hi,hr,hb,hn⟩:=r
 exact ⟨a,n,c,e,l,by rw [hh i (Nat.le_refl _)]; exact hi,hr.same ⟨hl,fun j hj=>hh j (by omega)⟩,hb,hn⟩
theorem Rdr.lt {h:Zaa} {i p:Nat} (r:Rdr h i p):i < h.length:=by obtain ⟨a,n,c,e,l,hi,_⟩:=r; exact Own.lt hi
theorem Rdr.same {h h':Zaa} {i p:Nat} (r:Rdr h i p) (s:Zbh h.length h h'):Rdr h' i p:=r.agree (fun j hj=>s.eq j (by have:=r.lt; omega)) s.le
theorem Rdr.app {h:Zaa} {i p:Nat} (r:Rdr h i p) (l:Zaa):Rdr (h ++ l) i p:=r.same (Zbh.app (Nat.le_refl _) _)
theorem Zsg {h:Zaa} {a:Pt} {n c:Nat} {e:Bool} {l:List Nat} (r:Row h.length h a n (Zeh eB l)) (hb:∀ b∈l,b < 256) (hnc:n≤c):Zac pg Zgy [.slice a n c e] h fun v h'=>v=.ptr (some (h.length,0))∧Zbh h.length h h'∧Rdr h' h.length 0∧h'.length=h.length + 1:=by
 have hl:l.length=n:=by have:=r.1; rw [Zbd Zvp] at this; omega
 apply Zha.call
 have fin:∀ (a:Pt) (n c:Nat) (e:Bool) (l:List Nat),Row h.length h a n (Zeh eB l)→(∀ b∈l,b < 256)→n≤2000→Zha.J3 (fun v h'=>v=.ptr (some (h.length,0))∧Zbh h.length h h'∧Rdr h' h.length 0∧h'.length=h.length + 1) a n c e h:=by
  intro a n c e l r hb hn
  apply Zha.J3i
  simp only [Zbb]
  exact ⟨by trivial,Zbh.app (Nat.le_refl _) _,⟨a,n,c,e,l,by simp,r.same (Zbh.app (Nat.le_refl _) _),hb,hn⟩,by simp⟩
 refine Zan (fun hgt=>?_) (fun hle=>fin a n c e l r hb (by omega))
 have hcut:Row h.length h a 2000 (Zeh eB (l.take 2000)):=by
  obtain ⟨h1,h2⟩:=r
  have hlen:(Zeh eB (l.take 2000)).length=2000:=by rw [Zbd Zvp,List.length_take]; omega
  refine ⟨hlen,.inr ?_⟩
  rcases h2 with h0 | ⟨i,o,t,all,ro,ha,hi,hg,hle,hcs⟩
  ·omega
  ·refine ⟨i,o,t,all,ro,ha,hi,hg,by omega,?_⟩
   have:=Zxg (enc:=eB) Zvp l 2000
   rw [Nat.mul_one] at this
   rw [← this,hcs,List.take_take,Nat.min_eq_left (by omega)]
 obtain ⟨_,h2⟩:=r
 rcases h2 with h0 | ⟨i,o,t,all,ro,ha,hi,hg,hle,hcs⟩
 ·omega
 ·subst ha
  simp only [Zmu,Zhl]
  refine ⟨by omega,fun hlt=>?_,fun hno=>by omega⟩
  simp only [Zai]
  have e1:o + Int.toNat 0 * 1=o:=by simp
  have e2:((2000:Int) - 0).toNat=2000:=by omega
  rw [e1,e2]
  exact fin _ _ _ _ _ hcut (fun b hb'=>hb b (List.mem_of_mem_take hb')) (by omega)
theorem Yky {x:Int} (h0:0≤x) (h1:x < 4611686018427387904):0≤IntKind.wrap .i64 ((BitVec.ofInt (IntKind.bits .i64) x ^^^ BitVec.ofInt (IntKind.bits .i64) (IntKind.wrap .i64 (Int.tdiv x 64))).toNat):=by
 obtain ⟨n,rfl⟩:∃ n:Nat,x=n:=⟨x.toNat,by omega⟩
 have hd:Int.tdiv (n:Int) 64=((n / 64:Nat):Int):=by rw [Int.tdiv_eq_ediv_of_nonneg (by omega)]; omega
 rw [hd,IntWalk.i64_in ((n / 64:Nat):Int) (by omega)]
 have hx:((BitVec.ofInt (IntKind.bits .i64) (n:Int)) ^^^ (BitVec.ofInt (IntKind.bits .i64) ((n / 64:Nat):Int))).toNat=n ^^^ (n / 64):=by
  rw [BitVec.toNat_xor,BitVec.toNat_ofInt,BitVec.toNat_ofInt]
  have e1:((n:Int) % ((2 ^ (IntKind.bits .i64):Nat):Int)).toNat=n:=by simp only [IntKind.bits]; omega
  have e2:(((n / 64:Nat):Int) % ((2 ^ (IntKind.bits .i64):Nat):Int)).toNat=n / 64:=by simp only [IntKind.bits]; omega
  rw [e1,e2]
 rw [hx]
 have hlt:n ^^^ (n / 64) < 2 ^ 62:=Nat.xor_lt_two_pow (by omega) (by omega)
 rw [IntWalk.i64_in _ (by omega)]; omega
theorem Zny {x n:Int} (h0:0≤x) (hn:1≤n):0≤Int.tmod x n∧Int.tmod x n < n:=by
 rw [Int.tmod_eq_emod_of_nonneg h0]; exact ⟨Int.emod_nonneg _ (by omega),Int.emod_lt_of_pos _ (by omega)⟩
theorem Zfc {h:Zaa} {i p:Nat} (r:Rdr h i p) (hp:p≤1000000000000) (n:Int):Zac pg Zbn [.ptr (some (i,0)),.int .i64 n] h fun v h'=>
  ∃ x,v=.int .i64 x∧0≤x∧(1≤n→x < n)∧(n < 1→x=0)∧Zej i h h'∧Rdr h' i (p + 1)∧h'.length=h.length:=by
 obtain ⟨a,m,c,e,l,hi,hr,hb,hm⟩:=r
 have hl:l.length=m:=by have:=hr.1; rw [Zbd Zvp] at this; omega
 apply Zgw.call
 simp only [Zao,Zah hi,Nat.zero_add,List.getElem?_cons_zero,List.getElem?_cons_succ,Zae]
 rw [IntWalk.i64_in _ (by omega),Zbe hi (by simp)]
 simp only [Zar]
 generalize hge:h.set i (Zcf.cells Zit (putRow [.slice a m c e,.int .i64 (p:Int)] 1 [.int .i64 ((p:Int) + 1)]) false)=h2
 have h2i:h2[i]?=some (.cells Zit [.slice a m c e,.int .i64 ((p:Int) + 1)] false):=by rw [← hge,Zby hi]; simp [putRow]
 have hK:Zej i h h2:=by rw [← hge]; exact Zej.set _ _ _
 have h2l:h2.length=h.length:=by rw [← hge]; simp
 have hr2:Row i h2 a m (Zeh eB l):=hr.same ⟨by omega,fun j hj=>by rw [← hge,Zbm (by omega)]⟩
 have hR2:Rdr h2 i (p + 1):=⟨a,m,c,e,l,by rw [h2i]; simp,hr2,hb,hm⟩
 refine Zan (fun hlt=>⟨0,rfl,by omega,by omega,fun _=>rfl,hK,hR2,h2l⟩) (fun hge1=>?_)
 simp only [Zah h2i,Nat.zero_add,List.getElem?_cons_zero,Zai]
 refine Zcm (fun h0=>⟨0,rfl,by omega,by omega,fun _=>rfl,hK,hR2,h2l⟩) (fun hne=>?_)
 have hm0:0 < m:=by omega
 have cell:∀ k,k < m→∃ ii o,∃ hk:k < l.length,a=some (ii,o)∧Zaj h2 (.ptr (some (ii,o + k * 1)))=some (.int .u8 (l[k]:Int)):=by
  intro k hk
  obtain ⟨ii,o,hk',ha,_,hc⟩:=Row.el1 Zvp hr2 hk
  exact ⟨ii,o,hk',ha,hc⟩
 apply Zgw.J4i
 simp only [Zao,Zah h2i,Nat.zero_add,List.getElem?_cons_zero,List.getElem?_cons_succ,Zae,Zai]
 rw [show (p:Int) + 1 - 1=p by omega,IntWalk.i64_in (p:Int) (by omega)]
 refine Zan (fun hlt=>?_) (fun hge2=>?_)
 ·obtain ⟨ii,o,hk,rfl,hc⟩:=cell p (by omega)
  simp only [Zao,Int.toNat_natCast,hc,Zae]
  have hbb:=hb _ (List.getElem_mem hk)
  rw [IntWalk.i64_in _ (by omega)]
  have:=Zny (x:=(l[p]:Int)) (n:=n) (by omega) (by omega)
  exact ⟨by omega,by omega,_,rfl,this.1,fun _=>this.2,by omega,hK,hR2,h2l⟩
 ·have t1:=Zny (x:=(p:Int)) (n:=(m:Int)) (by omega) (by omega)
  have e1:Int.tmod (p:Int) (m:Int)=((p % m:Nat):Int):=by rw [Int.tmod_eq_emod_of_nonneg (by omega)]; omega
  have e2:IntKind.wrap .i64 ((p:Int) * 7)=((p * 7:Nat):Int):=by rw [IntWalk.i64_in _ (by omega)]; omega
  have e3:IntKind.wrap .i64 (((p * 7:Nat):Int) + 3)=((p * 7 + 3:Nat):Int):=by rw [IntWalk.i64_in _ (by omega)]; omega
  have e4:Int.tmod ((p * 7 + 3:Nat):Int) (m:Int)=(((p * 7 + 3) % m:Nat):Int):=by rw [Int.tmod_eq_emod_of_nonneg (by omega)]; omega
  rw [e1,e2,e3,e4]
  obtain ⟨ii,o,hk,rfl,hc⟩:=cell (p % m) (Nat.mod_lt _ hm0)
  obtain ⟨ii',o',hk',ha',hc'⟩:=cell ((p * 7 + 3) % m) (Nat.mod_lt _ hm0)
  obtain ⟨rfl,rfl⟩:ii=ii'∧o=o':=by simpa using ha'
  have b1:=hb _ (List.getElem_mem hk)
  have b2:=hb _ (List.getElem_mem hk')
  have m1:=Nat.mod_lt p hm0
  have m2:=Nat.mod_lt (p * 7 + 3) hm0
  simp only [Zao,Int.toNat_natCast,hc,hc',Zae]
  refine ⟨by omega,by omega,by omega,by omega,by trivial,by trivial,by trivial,by trivial,by trivial,by trivial,by omega,by omega,by omega,?_⟩
  have e5:Int.tdiv (p:Int) (m:Int)=((p / m:Nat):Int):=by rw [Int.tdiv_eq_ediv_of_nonneg (by omega)]; omega
  have m3:p / m≤p:=Nat.div_le_self _ _
  generalize hA:((l[p % m]:Nat):Int)=A
  generalize hB:((l[(p * 7 + 3) % m]:Nat):Int)=B
  have hD1:0≤((p / m:Nat):Int)∧((p / m:Nat):Int)≤(p:Int):=⟨Int.natCast_nonneg _,Int.ofNat_le.2 m3⟩
  generalize ((p / m:Nat):Int)=D at e5 hD1
  have hA1:0≤A∧A < 256:=by omega
  have hB1:0≤B∧B < 256:=by omega
  rw [e5,IntWalk.i64_in A (by omega),IntWalk.i64_in B (by omega),IntWalk.i64_in (A * 131) (by omega),IntWalk.i64_in (B * 1117) (by omega),IntWalk.i64_in (A * 131 + B * 1117) (by omega),IntWalk.i64_in ((p:Int) * 29) (by omega),
   IntWalk.i64_in (A * 131 + B * 1117 + (p:Int) * 29) (by omega),IntWalk.i64_in D (by omega),IntWalk.i64_in (D * 53) (by omega),IntWalk.i64_in (A * 131 + B * 1117 + (p:Int) * 29 + D * 53) (by omega)]
  have hx:=Yky (x:=A * 131 + B * 1117 + (p:Int) * 29 + D * 53) (by omega) (by omega)
  have:=Zny hx (by omega:1≤n)
  exact ⟨_,rfl,this.1,fun _=>this.2,by omega,hK,hR2,h2l⟩
theorem Yey {h:Zaa} {i p j n c:Nat} {e:Bool} {t:TypeId} {l:List (List Nat)} (r:Rdr h i p) (hp:p≤1000000000000) (hj:h[j]?=some (.cells t (Zeh eS l) false)) (hji:j≠i) (hn:l.length=n) (h0:1≤n) :
  Zac pg Zcn [.ptr (some (i,0)),.slice (some (j,0)) n c e] h fun v h'=>∃ x∈l,v=.str x∧Zej i h h'∧Rdr h' i (p + 1)∧h'.length=h.length:=by
 apply Zld.call
 refine (Zfc r hp n).mono ?_
 rintro v h2 ⟨x,rfl,h0x,hlt,_,hK,hR,hl⟩
 simp only [Zae,Zao]
 have hlt:=hlt (by omega)
 obtain ⟨k,rfl⟩:∃ k:Nat,x=k:=⟨x.toNat,by omega⟩
 have hj2:h2[j]?=some (.cells t (Zeh eS l) false):=by rw [hK.eq j (Own.lt hj) hji]; exact hj
 have hrow:Row h2.length h2 (some (j,0)) n (Zeh eS l):=⟨by rw [Zbd Zyt]; omega,.inr ⟨j,0,t,_,false,rfl,Own.lt hj2,hj2,by rw [Zbd Zyt]; omega,by rw [List.drop_zero,List.take_of_length_le (by rw [Zbd Zyt]; omega)]⟩⟩
 obtain ⟨ii,o,hk,ha,_,hc⟩:=Row.el1 Zyt hrow (k:=k) (by omega)
 cases ha
 rw [Int.toNat_natCast,hc]
 simp only [eS,List.getElem?_cons_zero,Zap]
 exact ⟨by omega,l[k],List.getElem_mem hk,rfl,hK,hR,hl⟩
theorem Rdr.keep {h h':Zaa} {i p:Nat} (r:Rdr h i p) (hh:∀ j,j≤i→h'[j]?=h[j]?) (hl:h.length≤h'.length):Rdr h' i p:=r.agree hh hl
end Go.Sim

set_option linter.unusedVariables false
set_option linter.unusedSimpArgs false
set_option maxRecDepth 20000
namespace Go.Sim
open Go Go.RowKit

theorem Zyx {h:Zaa} {i p:Nat} (r:Rdr h i p) (hp:p≤1000000000000) (g:Bool) (Q:QT) (hQ:∀ c h',Zdo c=true→Zej i h h'→Rdr h' i (p + 1)→Q (.str [c]) h') :
  bcase g (Zec (h ++ [.cells Zbw [.str [105],.str [98],.str [105],.str [117]] false]) fun h_0=>Zac pg Zcn [.ptr (some (i,0)),.slice (some (List.length h,0)) 4 4 true] h_0 fun v_1 h_2=>
 Zde (some v_1) fun s_3=>Q (.str s_3) h_2) (Zec (h ++ [.cells Zbw [.str [120],.str [105],.str [121],.str [98],.str [120],.str [122],.str [117]] false]) fun h_4=>Zac pg Zcn [.ptr (some (i,0)),.slice (some (List.length h,0)) 7 7 true] h_4 fun v_5 h_6=>
 Zde (some v_5) fun s_7=>Q (.str s_7) h_6):=by
 have hil:=r.lt
 have go:∀ (l:List (List Nat)) (n:Nat),l.length=n→1≤n→(∀ x∈l,∃ c,x=[c]∧Zdo c=true)→Zec (h ++ [.cells Zbw (Zeh eS l) false]) fun h_0=>Zac pg Zcn [.ptr (some (i,0)),.slice (some (List.length h,0)) n n true] h_0 fun v_1 h_2=>Zde (some v_1) fun s_3=>Q (.str s_3) h_2:=by
  intro l n hn h1 hl
  simp only [Zbb]
  refine (Yey (r.app _) hp (j:=h.length) (t:=Zbw) (l:=l) (by simp) (by omega) hn h1).mono ?_
  rintro v h2 ⟨x,hx,rfl,hK,hR,_⟩
  obtain ⟨c,rfl,hc⟩:=hl x hx
  simp only [Zap]
  exact hQ c h2 hc ((Zej.app i h _).trans hK) hR
 cases g with
 | true=>exact go [[105],[98],[105],[117]] 4 rfl (by omega) (by intro x hx; simp at hx; rcases hx with rfl | rfl | rfl | rfl <;> exact ⟨_,rfl,rfl⟩)
 | false=>exact go [[120],[105],[121],[98],[120],[122],[117]] 7 rfl (by omega) (by intro x hx; simp at hx; rcases hx with rfl | rfl | rfl | rfl | rfl | rfl | rfl <;> exact ⟨_,rfl,rfl⟩)
def DrQ (i p d:Nat) (h:Zaa) (v:Zad) (h':Zaa):Prop:=∃ t:Ty,v=.str t.txt∧t.ok=true∧t.txt.length≤4 ^ (d + 1)∧Zej i h h'∧∃ p',p≤p'∧p'≤p + 4 ^ (d + 1)∧Rdr h' i p'
theorem Zvw:∀ (d:Nat),d≤8→∀ {h:Zaa} {i p:Nat},Rdr h i p→p + 4 ^ (d + 1)≤1000000000000→∀ (g:Bool),Zac pg Zdm [.ptr (some (i,0)),.int .i64 (d:Int),.bool g] h (DrQ i p d h):=by
 intro d
 induction d with
 | zero=>
  intro _ h i p r hp g
  apply Zhm.call
  refine Zcm (fun _=>?_) (fun hne=>absurd rfl hne)
  exact Zyx r (by omega) g (DrQ i p 0 h) fun c h' hc hK hR=>⟨.k c,rfl,by simpa [Ty.ok] using hc,by simp [Ty.txt],hK,p + 1,by omega,by omega,hR⟩
 | succ d ih=>
  intro hd h i p r hp g
  have hB:4 ^ (d + 1 + 1)=4 * 4 ^ (d + 1):=by rw [Nat.pow_succ]; omega
  have hB1:4≤4 ^ (d + 1):=by rw [Nat.pow_succ]; have:=Nat.one_le_two_pow (n:=0); have:1≤4 ^ d:=Nat.one_le_pow _ _ (by omega); omega
  have hB2:4 ^ (d + 1)≤1000000000000:=by omega
  generalize hBB:4 ^ (d + 1)=B at *
  apply Zhm.call
  refine Zcm (fun he=>by omega) (fun _=>?_)
  refine (Zfc r (by omega) 3).mono ?_
  rintro v h1 ⟨x,rfl,hx0,hx1,_,K1,R1,_⟩
  simp only [Zae]
  refine Zcm (fun _=>?_) (fun _=>?_)
  ·exact Zyx R1 (by omega) g (DrQ i p (d + 1) h) fun c h' hc hK hR=>⟨.k c,rfl,by simpa [Ty.ok] using hc,by rw [hB]; simp [Ty.txt]; omega,K1.trans hK,p + 1 + 1,by omega,by omega,hR⟩
  ·apply Zhm.J5i
   refine (Zfc R1 (by omega) 4).mono ?_
   rintro v h2 ⟨x,rfl,hx0,hx1,_,K2,R2,_⟩
   have hw:IntKind.wrap .i64 (((d + 1:Nat):Int) - 1)=(d:Int):=by rw [IntWalk.i64_in _ (by omega)]; omega
   have K12:=K1.trans K2
   simp only [Zae]
   rw [hw]
   have one:∀ (c:Nat),(c=109 ∨ c=108)→Zac pg Zdm [.ptr (some (i,0)),.int .i64 (d:Int),.bool g] h2 fun v_28 h_29=>
     Zde (some v_28) fun s_30=>List.length ([c,40]) + List.length s_30≤9223372036854775807∧(List.length (([c,40]) ++ s_30) + List.length [41]≤9223372036854775807∧(DrQ i p (d + 1) h (.str ((([c,40]) ++ s_30) ++ [41])) h_29)):=by
    intro c hc
    refine (ih (by omega) R2 (by omega) g).mono ?_
    rintro v h3 ⟨t,rfl,hok,hlen,K3,p3,hp1,hp2,R3⟩
    rw [hBB] at hlen hp2
    simp only [Zap]
    refine ⟨by simp; omega,by simp; omega,.u c t,by simp [Ty.txt],?_,?_,K12.trans K3,p3,by omega,by omega,R3⟩
    ·simp only [Ty.ok,hok,Bool.and_true]; rcases hc with rfl | rfl <;> rfl
    ·rw [hB]; simp [Ty.txt]; omega
   refine Zcm (fun _=>?_) (fun _=>Zcm (fun _=>one 109 (.inl rfl)) (fun _=>one 108 (.inr rfl)))
   refine (ih (by omega) R2 (by omega) g).mono ?_
   rintro v h3 ⟨t,rfl,hok,hlen,K3,p3,hp1,hp2,R3⟩
   rw [hBB] at hlen hp2
   simp only [Zap]
   refine ⟨by simp; omega,by simp; omega,?_⟩
   refine (ih (by omega) R3 (by omega) g).mono ?_
   rintro v h4 ⟨t2,rfl,hok2,hlen2,K4,p4,hp3,hp4,R4⟩
   rw [hBB] at hlen2 hp4
   simp only [Zap]
   refine ⟨by simp; omega,by simp; omega,.w 112 t t2,by simp [Ty.txt],by simp [Ty.ok,hok,hok2],?_,(K12.trans K3).trans K4,p4,by omega,by omega,R4⟩
   rw [hB]; simp [Ty.txt]; omega
def TxQ (i p:Nat) (h:Zaa) (v:Zad) (h':Zaa):Prop:=∃ s:List Nat,v=.str s∧s.length≤1000∧Zej i h h'∧∃ p',p≤p'∧p'≤p + 1000∧Rdr h' i p'
theorem Yeg (s:List Nat) (a b:Int):(sub s a b).length≤s.length:=by unfold sub; simp; omega
theorem Ztj {h:Zaa} {i p:Nat} (r:Rdr h i p) (hp:p≤900000000000):Zac pg Zhd [.ptr (some (i,0))] h (TxQ i p h):=by
 apply Zom.call
 refine (Zfc r (by omega) 4).mono ?_
 rintro v h1 ⟨x,rfl,hx0,hx1,_,K1,R1,_⟩
 have hx1:=hx1 (by omega)
 simp only [Zae]
 refine (Zfc R1 (by omega) 2).mono ?_
 rintro v h2 ⟨y,rfl,hy0,hy1,_,K2,R2,_⟩
 simp only [Zae]
 obtain ⟨d,rfl⟩:∃ d:Nat,x=d:=⟨x.toNat,by omega⟩
 have hd:d≤3:=by omega
 have hB:4 ^ (d + 1)≤256:=by
  have:d=0 ∨ d=1 ∨ d=2 ∨ d=3:=by omega
  rcases this with rfl | rfl | rfl | rfl <;> decide
 refine (Zvw d (by omega) R2 (by omega) _).mono ?_
 rintro v h3 ⟨t,rfl,hok,hlen,K3,p3,hp1,hp2,R3⟩
 generalize ht:t.txt=s at hlen
 have K13:=(K1.trans K2).trans K3
 simp only [Zap]
 refine (Zfc R3 (by omega) 16).mono ?_
 rintro v h4 ⟨z,rfl,hz0,hz1,_,K4,R4,_⟩
 have K14:=K13.trans K4
 simp only [Zae]
 refine Zan (fun _=>⟨s,rfl,by omega,K14,p3 + 1,by omega,by omega,R4⟩) (fun _=>?_)
 have hs1:1≤s.length:=by rw [← ht]; obtain ⟨y,hy⟩:=t.txt_cons; rw [hy]; simp
 refine (Zfc R4 (by omega) (s.length:Nat)).mono ?_
 rintro v h5 ⟨k,rfl,hk0,hk1,_,K5,R5,_⟩
 have hk1:=hk1 (by omega)
 simp only [Zae]
 refine ⟨by omega,?_⟩
 simp only [Zbb]
 have hil:=R5.lt
 refine (Yey (R5.app _) (by omega) (j:=h5.length) (t:=Zbw) (n:=7) (l:=[[],[40],[41],[44],[105],[113],[88]]) (by simp [Zeh,eS]) (by omega) rfl (by omega)).mono ?_
 rintro v h6 ⟨w,hw,rfl,K6,R6,_⟩
 have K16:=((K14.trans K5).trans (Zej.app i h5 _)).trans K6
 have hwl:w.length≤1:=by simp at hw; rcases hw with rfl | rfl | rfl | rfl | rfl | rfl | rfl <;> simp
 simp only [Zap]
 have hs1:=Yeg s 0 k
 refine ⟨by omega,?_⟩
 refine (Zfc R6 (by omega) 2).mono ?_
 rintro v h7 ⟨u,rfl,hu0,hu1,_,K7,R7,_⟩
 have hu1:=hu1 (by omega)
 simp only [Zae]
 rw [IntWalk.i64_in (k + u) (by omega)]
 have hs2:=Yeg s (k + u) s.length
 refine ⟨by omega,by simp; omega,_,rfl,by simp; omega,K16.trans K7,_,?_,?_,R7⟩ <;> omega
theorem Zyr:∀ (vs:List Nat) (ts:List Ty),vs.Nodup→∀ k (hk:k < vs.length),k < ts.length→Zct (vs.zip ts) vs[k]=ts[k]?
 | [],_,_,k,hk,_=>by simp at hk
 | v :: vs,[],_,k,_,h=>by simp at h
 | v :: vs,t :: ts,hn,0,_,_=>by simp [Zct]
 | v :: vs,t :: ts,hn,k + 1,hk,h=>by
  have h1:=List.nodup_cons.1 hn
  have hk':k < vs.length:=by simpa using hk
  have hne:v≠vs[k]:=fun e=>h1.1 (e ▸ List.getElem_mem hk')
  simp only [List.zip_cons_cons,Zct,List.getElem_cons_succ,if_neg hne,List.getElem?_cons_succ]
  exact Zyr vs ts h1.2 k hk' (by simpa using h)
theorem Ybn:∀ {m:Bd} {v:Nat} {u:Ty},Zct m v=some u→(v,u)∈m
 | [],_,_,h=>by cases h
 | (a,b) :: m,v,u,h=>by
  simp only [Zct] at h
  split at h
  ·rename_i e; cases h; subst e; exact List.mem_cons_self ..
  ·exact List.mem_cons_of_mem _ (Ybn h)
theorem Znf {f:Nat→Option Ty} (hf:∀ c u,f c=some u→u.txt.length≤16):∀ t:Ty,(subst f t).txt.length≤16 * t.txt.length
 | .k c=>by
  simp only [subst]
  cases h:f c with
  | none=>simp [Ty.txt]
  | some u=>have:=hf c u h; simp [Ty.txt]; omega
 | .u c a=>by have:=Znf hf a; simp [subst,Ty.txt]; omega
 | .w c a b=>by have:=Znf hf a; have:=Znf hf b; simp [subst,Ty.txt]; omega
theorem Zvi {h:Zaa} {i p:Nat} {s:List Nat} (r:Rdr h i p) (hp:p≤900000000000) (hs:s.length≤1048576):Zac pg Zhr [.ptr (some (i,0)),.str s] h (TxQ i p h):=by
 apply Zgl.call
 refine (Zns s (by omega) h).mono ?_
 rintro v h1 ⟨s1,vs,rfl,hm⟩
 have hil:=r.lt
 have leaf:∀ h',Zej i h h'→∀ p',p≤p'→p'≤p + 1000→Rdr h' i p'→TxQ i p h (.str [105]) h':=fun h' K p' h1 h2 R=>⟨[105],rfl,by simp,K,p',h1,h2,R⟩
 have hvs:∃ (d:Nat) (a:Pt) (n c:Nat) (e:Bool),vs=[.int .u8 (d:Int),.slice a n c e]:=by
  split at hm
  ·obtain ⟨a,c,e,rfl⟩:=hm.shape; exact ⟨_,_,_,_,_,rfl⟩
  ·exact ⟨0,_,_,_,_,hm⟩
 obtain ⟨d,a,n,c,e,rfl⟩:=hvs
 simp only [Zdx,Zak,Zed,Zae,Zai,Zaq,Zaf,Zbb]
 rw [Zih]
 simp only [Zar]
 generalize hh2:h1 ++ [Zcf.cells Zab [.int .u8 (d:Int),.slice a n c e] false]=h2
 have s2:Zbh h1.length h1 h2:=by rw [← hh2]; exact Zau
 have l2:h2.length=h1.length + 1:=by rw [← hh2]; simp
 have n2:h2[h1.length]?=some (.cells Zab [.int .u8 (d:Int),.slice a n c e] false):=by rw [← hh2]; simp
 have S2:=s1.cat s2
 refine Zcx (fun hno=>leaf _ (Zej.of_same S2) p (by omega) (by omega) (r.same S2)) (fun hyes=>?_)
 have hof:∃ t,Zea s=some t:=by
  unfold Zlb at hyes
  cases hx:Zea s with
  | none=>rw [hx] at hyes; cases hyes
  | some t=>exact ⟨t,rfl⟩
 obtain ⟨t,ht⟩:=hof
 obtain ⟨hok,hst,hsl⟩:=Zbv.1 ht
 rw [ht] at hm
 simp only at hm
 generalize hh3:h2 ++ [Zcf.cells Zbf [.int .u8 0,.slice none 0 0 true,.int .u8 0,.slice none 0 0 true,.int .u8 0,.slice none 0 0 true,.int .u8 0,.slice none 0 0 true,.int .u8 0,.slice none 0 0 true,.int .u8 0,.slice none 0 0 true,.int .u8 0,.slice none 0 0 true,.int .u8 0,.slice none 0 0 true,.int .u8 0,.slice none 0 0 true,.int .u8 0,.slice none 0 0 true,.int .u8 0,.slice none 0 0 true,.int .u8 0,.slice none 0 0 true] false]=h3
 have s3:Zbh h2.length h2 h3:=by rw [← hh3]; exact Zau
 have l3:h3.length=h2.length + 1:=by rw [← hh3]; simp
 have m3:h3[h2.length]?=some (.cells Zbf (Zeh eR (List.replicate 12 (.int .u8 0,.slice none 0 0 true))) false):=by rw [← hh3]; simp; rfl
 have S3:=S2.cat s3
 have n3:=s3.get n2 (Own.lt n2)
 have r3:=r.same S3
 refine Zgl.L6ind (J:=fun (g:Nat) x19 h'=>x19=(g:Int)∧g≤12∧Zej i h h'∧(∃ p',p≤p'∧p'≤p + g * 80∧Rdr h' i p')∧h3.length≤h'.length∧h'[h1.length]?=some (.cells Zab [.int .u8 (d:Int),.slice a n c e] false) ∧
   Zdc (fun j=>j≠h2.length∧j≠i∧j < h'.length) h' t [.int .u8 (d:Int),.slice a n c e] ∧
   ∃ (rows:List (Zad × Zad)) (ts:List Ty),rows.length=12∧ts.length=g∧(∀ u∈ts,u.ok=true∧u.txt.length≤16)∧h'[h2.length]?=some (.cells Zbf (Zeh eR rows) false) ∧
    ∀ (k:Nat) (x:Zad × Zad) (u:Ty),rows[k]?=some x→ts[k]?=some u→Zdc (fun j=>j≠h2.length∧j≠i∧j < h'.length) h' u (eR x))
  (m:=fun g=>12 - g) (hr:=?_) (g:=0) (hj:=⟨rfl,by omega,Zej.of_same S3,⟨p,by omega,by omega,r3⟩,Nat.le_refl _,n3,?_,_,[],by simp,rfl,by simp,m3,by simp⟩) ..
 ·rintro g x19 h4 ⟨rfl,hg,K4,⟨p4,hp1,hp2,R4⟩,l4,n4,rt,rows,ts,hrl,htl,hts,m4,hrep⟩ R hR
  unfold Zgl.L6t
  refine Zan (fun hlt=>?_) (fun hge=>?_)
  ·refine (Zfc R4 (by omega) 2).mono ?_
   rintro v h5 ⟨x,rfl,hx0,hx1,_,K5,R5,_⟩
   have hx1:=hx1 (by omega)
   simp only [Zae]
   refine (Zfc R5 (by omega) 2).mono ?_
   rintro v h6 ⟨y,rfl,hy0,hy1,_,K6,R6,_⟩
   simp only [Zae]
   obtain ⟨q,rfl⟩:∃ q:Nat,x=q:=⟨x.toNat,by omega⟩
   have hB:4 ^ (q + 1)≤16:=by
    have:q=0 ∨ q=1:=by omega
    rcases this with rfl | rfl <;> decide
   refine (Zvw q (by omega) R6 (by omega) _).mono ?_
   rintro v h7 ⟨u,rfl,huok,hulen,K7,p7,hp3,hp4,R7⟩
   have K47:=(K5.trans K6).trans K7
   simp only [Zap]
   refine (Zns u.txt (by omega) h7).mono ?_
   rintro v h8 ⟨s8,vu,rfl,hmu⟩
   rw [Zbv.2 ⟨huok,rfl,by omega⟩] at hmu
   simp only at hmu
   obtain ⟨au,cu,eu,hsh⟩:=hmu.shape
   subst hsh
   have K48:=K47.trans (Zej.of_same s8)
   simp only [Zdx,Zak,Zed,Zae,Zai,Zaq,Zaf]
   have l8:=K48.le
   have hm2i:h2.length≠i:=by have:=S2.le; omega
   have m8:h8[h2.length]?=some (.cells Zbf (Zeh eR rows) false):=by rw [K48.eq _ (Own.lt m4) hm2i]; exact m4
   have hfl:(Zeh eR rows).length=24:=by rw [Zbd Zgq,hrl]
   rw [Nat.zero_add,Int.toNat_natCast,Zbe m8 (by rw [hfl]; simp; omega)]
   simp only [Zar]
   rw [show ([Zad.int .u8 (u.hd:Int),Zad.slice au u.ps.length cu eu]:List Zad)=eR (Zad.int .u8 (u.hd:Int),Zad.slice au u.ps.length cu eu) from rfl,Zpi Zgq (by omega),Zci (by omega)]
   have hset:∀ j,j≠h2.length→(h8.set h2.length (Zcf.cells Zbf (Zeh eR (rows.set g (Zad.int .u8 (u.hd:Int),Zad.slice au u.ps.length cu eu))) false))[j]?=h8[j]?:=fun j hj=>Zbm (fun e=>hj e.symm)
   have old:∀ j,(j≠h2.length∧j≠i∧j < h4.length)→(h8.set h2.length (Zcf.cells Zbf (Zeh eR (rows.set g (Zad.int .u8 (u.hd:Int),Zad.slice au u.ps.length cu eu))) false))[j]?=h4[j]?:=fun j hj=>by rw [hset j hj.1,K48.eq j hj.2.2 hj.2.1]
   have hup:∀ j,(j≠h2.length∧j≠i∧j < h4.length)→(j≠h2.length∧j≠i∧j < (h8.set h2.length (Zcf.cells Zbf (Zeh eR (rows.set g (Zad.int .u8 (u.hd:Int),Zad.slice au u.ps.length cu eu))) false)).length):=fun j hj=>⟨hj.1,hj.2.1,by simp; omega⟩
   have i8:Rdr h8 i p7:=R7.same s8
   refine ⟨⟨by omega,by omega⟩,hR (g + 1) _ _ (by omega) ⟨by omega,by omega,(K4.trans K48).trans' (fun j hj=>Zbm (by have:=S2.le; omega)),⟨p7,by omega,by omega,?_⟩,by simp; omega,?_,(rt.agree old).mono hup,_,ts ++ [u],by simp [hrl],by simp [htl],?_,Zby m8,?_⟩⟩
   ·refine i8.agree (fun j hj=>hset j (by have:=S2.le; omega)) (by simp)
   ·rw [hset _ (by omega),K48.eq _ (Own.lt n4) (by have:=s1.le; omega)]; exact n4
   ·intro w hw
    rcases List.mem_append.1 hw with hw | hw
    ·exact hts w hw
    ·simp at hw; subst hw; exact ⟨huok,by omega⟩
   ·intro k x w hx hw
    by_cases hk:k=g
    ·subst hk
     rw [List.getElem?_set_self (by omega)] at hx
     rw [List.getElem?_append_right (by omega)] at hw
     simp [htl] at hw
     cases hx; subst hw
     refine (hmu.agree (h':=h8.set h2.length (Zcf.cells Zbf (Zeh eR (rows.set k (Zad.int .u8 (u.hd:Int),Zad.slice au u.ps.length cu eu))) false)) fun j hj=>hset j (by have:=hj.1; have:=K47.le; omega)).mono fun j hj=>⟨by have:=hj.1; have:=K47.le; omega,by have:=hj.1; have:=K47.le; have:=S2.le; omega,by simp; exact hj.2⟩
    ·rw [List.getElem?_set_ne (fun e=>hk e.symm)] at hx
     have hkg:k < g:=by
      have:=(List.getElem?_eq_some_iff.1 hw).1
      simp [htl] at this; omega
     rw [List.getElem?_append_left (by omega)] at hw
     exact ((hrep k x w hx hw).agree old).mono hup
  ·have hg12:g=12:=by omega
   subst hg12
   apply Zgl.A6x0i
   rw [Zdj n4]
   simp only [Zax,Zak,Zaq,Zae,Zai]
   have hget:∀ k,k < 6→(Zcp[k]?).bind (Zct (Zcp.zip ts))=ts[k]?:=fun k hk=>by
    have hk6:k < Zcp.length:=hk
    rw [List.getElem?_eq_getElem hk6,Option.bind_some]
    exact Zyr Zcp ts Zfw k hk6 (by omega)
   have hin:∀ v u,Zct (Zcp.zip ts) v=some u→v∈Zcp∧u∈ts:=fun v u hu=>by
    have:=Ybn hu
    exact ⟨(List.of_mem_zip this).1,(List.of_mem_zip this).2⟩
   have hW:Yfb (fun j=>j≠h2.length∧j≠i∧j < h4.length) h4 h2.length (Zcp.zip ts):=by
    refine ⟨rows,hrl,m4,fun k x hk hx=>?_⟩
    rw [hget k hk]
    have hkt:k < ts.length:=by omega
    rw [List.getElem?_eq_getElem hkt]
    exact hrep k x _ hx (List.getElem?_eq_getElem hkt)
   have hnv:∀ v,Zag v=false→Zct (Zcp.zip ts) v=none:=fun v hv=>by
    cases hb:Zct (Zcp.zip ts) v with
    | none=>rfl
    | some u=>
     have h1:=(hin v u hb).1
     have:∀ x∈Zcp,Zag x=true:=by decide
     rw [this v h1] at hv; cases hv
   refine (Zyl _ (Nat.le_refl _) hok (fun j hj=>⟨hj.2.2,hj.1⟩) rt hW (fun v u hu=>(hts u (hin v u hu).2).1) hnv).mono ?_
   rintro x h5 ⟨s5,vs5,rfl,rt5⟩
   have hl5:(subst (Zct (Zcp.zip ts)) t).txt.length≤1048576:=by
    have:=Znf (f:=Zct (Zcp.zip ts)) (fun c u hu=>(hts u (hin c u hu).2).2) t
    rw [← hst] at this; omega
   have hok5:(subst (Zct (Zcp.zip ts)) t).ok=true:=Zpj ⟨hnv,fun v u hu=>(hts u (hin v u hu).2).1⟩ hok
   obtain ⟨a5,c5,e5,hsh5⟩:=rt5.shape
   subst hsh5
   simp only [Zed,Zak,Zae,Zai,Zaq,Zbb]
   rw [Zih]
   simp only [Zar]
   generalize hh6:h5 ++ [Zcf.cells Zab [.int .u8 ((subst (Zct (Zcp.zip ts)) t).hd:Int),.slice a5 (subst (Zct (Zcp.zip ts)) t).ps.length c5 e5] false]=h6
   have s6:Zbh h5.length h5 h6:=by rw [← hh6]; exact Zau
   have n6:h6[h5.length]?=some (.cells Zab [.int .u8 ((subst (Zct (Zcp.zip ts)) t).hd:Int),.slice a5 (subst (Zct (Zcp.zip ts)) t).ps.length c5 e5] false):=by rw [← hh6]; simp
   rw [Zdj n6]
   simp only [Zax,Zak,Zaq,Zae,Zai]
   have rt6:=rt5.same s6
   refine (Zpt _ (Nat.le_refl _) (Nat.le_trans hl5 (by decide)) rt6).mono ?_
   rintro v h7 ⟨rfl,s7⟩
   simp only [Zae]
   have K7:=((K4.trans (Zej.of_same s5)).trans (Zej.of_same s6)).trans (Zej.of_same s7)
   have R7:=((R4.same s5).same s6).same s7
   refine Zan (fun _=>leaf _ K7 p4 hp1 (by omega) R7) (fun hsm=>?_)
   rw [Zdj (s7.get n6 (Own.lt n6))]
   simp only [Zax,Zak,Zaq,Zae,Zai]
   refine (Zue _ (Nat.le_refl _) hl5 hok5 (rt6.same s7)).mono ?_
   rintro v h8 ⟨rfl,s8⟩
   simp only [Zap]
   exact ⟨_,rfl,by omega,K7.trans (Zej.of_same s8),p4,hp1,by omega,R7.same s8⟩
 ·exact (hm.agree (h':=h3) fun j hj=>by rw [s3.eq j (by have:=hj.2; omega),s2.eq j hj.2]).mono fun j hj=>⟨by have:=hj.2; omega,by have:=hj.1; omega,by have:=hj.2; omega⟩
theorem Yfu {h:Zaa} {i p:Nat} (r:Rdr h i p) (hp:p≤800000000000):Zac pg Zlg [.ptr (some (i,0))] h fun v h'=>∃ s t:List Nat,v=.tup [.str s,.str t]∧s.length≤1000∧t.length≤1000∧Zej i h h'∧∃ p',Rdr h' i p':=by
 apply Zor.call
 refine (Ztj r (by omega)).mono ?_
 rintro v h1 ⟨s,rfl,hs,K1,p1,hp1,hp2,R1⟩
 simp only [Zap]
 refine (Zfc R1 (by omega) 3).mono ?_
 rintro v h2 ⟨x,rfl,hx0,hx1,_,K2,R2,_⟩
 simp only [Zae]
 have K12:=K1.trans K2
 refine Zcm (fun _=>?_) (fun _=>Zcm (fun _=>?_) (fun _=>?_))
 ·refine (Zvi R2 (by omega) (by omega)).mono ?_
  rintro v h3 ⟨t,rfl,ht,K3,p3,hp3,hp4,R3⟩
  simp only [Zap]
  exact ⟨_,_,rfl,hs,ht,K12.trans K3,p3,R3⟩
 ·refine (Zvi R2 (by omega) (by omega)).mono ?_
  rintro v h3 ⟨t,rfl,ht,K3,p3,hp3,hp4,R3⟩
  simp only [Zap]
  exact ⟨_,_,rfl,ht,hs,K12.trans K3,p3,R3⟩
 ·refine (Ztj R2 (by omega)).mono ?_
  rintro v h3 ⟨t,rfl,ht,K3,p3,hp3,hp4,R3⟩
  simp only [Zap]
  exact ⟨_,_,rfl,hs,ht,K12.trans K3,p3,R3⟩
end Go.Sim

set_option linter.unusedVariables false
set_option linter.unusedSimpArgs false
set_option maxRecDepth 20000
namespace Go.Sim
open Go Go.RowKit
end Go.Sim

set_option linter.unusedVariables false
set_option linter.unusedSimpArgs false
set_option maxRecDepth 20000
namespace Go.Sim
open Go Go.RowKit
theorem Zun {h:Zaa} {a:Pt} {n c:Nat} {e:Bool} {l:List Nat} (r:Row h.length h a n (Zeh eB l)) (hb:∀ b∈l,b < 256) (hnc:n≤c):Zac pg Zfv [.slice a n c e] h fun v h'=>∃ s t:List Nat,v=.tup [.str s,.str t]∧s.length≤1000∧t.length≤1000∧Zbh h.length h h':=by
 apply Zig.call
 refine (Zsg r hb hnc).mono ?_
 rintro v h1 ⟨rfl,s1,R1,l1⟩
 simp only [Zbo]
 refine (Yfu R1 (by omega)).mono ?_
 rintro v h2 ⟨s,t,rfl,hs,ht,K2,_⟩
 simp only [Zdx,Zak,Zap,Zaq]
 exact ⟨_,_,rfl,hs,ht,⟨by have:=K2.le; omega,fun j hj=>by rw [K2.eq j (by omega) (by omega)]; exact s1.eq j hj⟩⟩
theorem Zti {h:Zaa} {a:Pt} {n c:Nat} {e:Bool} {l:List Nat} (r:Row h.length h a n (Zeh eB l)) (hb:∀ b∈l,b < 256) (hnc:n≤c):Zac pg Zfs [.slice a n c e] h fun v h'=>∃ s:List Nat,v=.str s∧Zbh h.length h h':=by
 apply Zhy.call
 refine (Zsg r hb hnc).mono ?_
 rintro v h1 ⟨rfl,s1,R1,l1⟩
 simp only [Zbo]
 refine (Ztj R1 (by omega)).mono ?_
 rintro v h2 ⟨s,rfl,hs,K2,_⟩
 simp only [Zap]
 exact ⟨_,rfl,⟨by have:=K2.le; omega,fun j hj=>by rw [K2.eq j (by omega) (by omega)]; exact s1.eq j hj⟩⟩
theorem Zua (s t:List Nat) (h:Zaa):Zev.J11 (fun v _=>v=.bool true) s t (Zee s t) h:=by
 apply Zev.J11i
 refine (Zgh s t h).mono ?_
 rintro v h1 ⟨rfl,s1⟩
 simp only [Zaf]
 have key:Zjf s t=true ∨ Zjf t s=true→Zee s t=false:=fun h=>by
  rcases h with h | h
  ·exact Zni h
  ·rw [Zmo]; exact Zni h
 refine Zcx (fun h1=>?_) (fun h1=>by rw [key (.inl h1)]; rfl)
 refine (Zgh t s _).mono ?_
 rintro v h2 ⟨rfl,s2⟩
 simp only [Zaf]
 exact Zcx (fun _=>trivial) (fun h2=>by rw [key (.inr h2)]; rfl)
theorem lawApart {h:Zaa} {a a':Pt} {n c n' c':Nat} {e e':Bool} {l l':List Nat} (r:Row h.length h a n (Zeh eB l)) (hb:∀ b∈l,b < 256) (hnc:n≤c) (r':Row h.length h a' n' (Zeh eB l')) (hb':∀ b∈l',b < 256) (hnc':n'≤c') :
  Zac pg Zmc [.slice a n c e,.slice a' n' c' e'] h fun v _=>v=.bool true:=by
 apply Zev.call
 refine Zan (fun _=>rfl) (fun _=>?_)
 refine Zan (fun _=>rfl) (fun _=>?_)
 apply Zev.J3i
 refine (Zun r hb hnc).mono ?_
 rintro v h1 ⟨s,t,rfl,hs,ht,s1⟩
 simp only [Zdx,Zak,Zap,Zaq]
 refine (Zmi s t h1).mono ?_
 rintro v h2 ⟨rfl,s2⟩
 simp only [Zaf]
 refine (Zol s t (by omega) (by omega) h2).mono ?_
 rintro v h3 ⟨rfl,s3⟩
 simp only [Zaf,beq_self_eq_true,Bool.not_true,Zat]
 refine (Zmi t s h3).mono ?_
 rintro v h4 ⟨rfl,s4⟩
 simp only [Zaf,← Zmo s t,beq_self_eq_true,Bool.not_true,Zat]
 have bad:∀ hx,(Zlb s && Zlb t)=false→Zac pg Zdg [.str s,.str t] hx fun v_33 h_34=>
   Zbg (some v_33) fun b_35=>bcase (Zee s t == b_35) (Zac pg Zcy [.str t,.str s] h_34 fun v_36 h_37=>
   Zbg (some v_36) fun b_38=>bcase (Zee s t == b_38) ((fun v _=>v=Zad.bool true) (.bool (!Zee s t)) h_37) ((fun v _=>v=Zad.bool true) (.bool false) h_37)) ((fun v _=>v=Zad.bool true) (.bool false) h_34):=by
  intro hx hno
  refine (Zol s t (by omega) (by omega) hx).mono ?_
  rintro v h3 ⟨rfl,s3⟩
  simp only [Zaf,beq_self_eq_true,Zay]
  refine (Zmi t s h3).mono ?_
  rintro v h4 ⟨rfl,s4⟩
  simp only [Zaf,← Zmo s t,beq_self_eq_true,Zay]
  rw [Znt hno]; rfl
 refine (Zdp s h4).mono ?_
 rintro v h5 ⟨rfl,s5⟩
 simp only [Zaf]
 refine Zcx (fun hn=>bad _ (by rw [hn]; rfl)) (fun hs1=>?_)
 refine (Zdp t h5).mono ?_
 rintro v h6 ⟨rfl,s6⟩
 simp only [Zaf]
 refine Zcx (fun hn=>bad _ (by rw [hn]; simp)) (fun ht1=>?_)
 apply Zev.J7i
 refine (Yeo s t h6).mono ?_
 rintro v h7 ⟨rfl,s7⟩
 simp only [Zdx,Zak,Zap,Zaf,Zaq]
 have S7:=((((((s1.cat s2).cat s3).cat s4).cat s5).cat s6).cat s7)
 refine (Zti (r'.same' S7) hb' hnc').mono ?_
 rintro v h8 ⟨t3,rfl,s8⟩
 simp only [Zap]
 cases ha:Zee s t with
 | true=>
  have hm:Zqs s t=none:=by
   cases hm:Zqs s t with
   | none=>rfl
   | some u=>rw [(Zyj hm).1] at ha; cases ha
  have J:=fun h=>Zua s t h
  rw [ha] at J
  simp only [Zay,hm,Option.isSome_none,Zat]
  refine (Zwh t3 h8).mono ?_
  rintro v h9 ⟨rfl,s9⟩
  simp only [Zaf]
  refine Zdk (fun _=>?_) (fun _=>J _)
  refine (Zgh s t3 h9).mono ?_
  rintro v hA ⟨rfl,sA⟩
  simp only [Zaf]
  refine Zdk (fun i1=>?_) (fun _=>J _)
  refine (Zgh t t3 hA).mono ?_
  rintro v hB ⟨rfl,sB⟩
  simp only [Zaf]
  refine Zdk (fun i2=>?_) (fun _=>J _)
  rw [Ztb i1 i2] at ha; cases ha
 | false=>
  have J:=fun h=>Zua s t h
  rw [ha] at J
  simp only [Zat]
  cases hm:Zqs s t with
  | none=>simp only [Option.isSome_none,Zat]; exact J _
  | some u=>
   simp only [Option.isSome_some,Option.getD_some,Zay]
   refine (Zgh s u h8).mono ?_
   rintro v h9 ⟨rfl,s9⟩
   simp only [Zaf,(Zyj hm).2.1,Bool.not_true,Zat]
   exact J _
end Go.Sim

set_option linter.unusedVariables false
set_option linter.unusedSimpArgs false
set_option maxRecDepth 20000
namespace Go.Sim
open Go Go.RowKit
theorem Zyp {P:Program} {h:Zaa} {f:Nat} {e:TypeId} (he:P.underlying e=some (.int .u8)):∀ (vs:List (List Zad)) (ds:List Dt),ds.length=vs.length→(∀ (i:Nat) (v:List Zad) (x:Dt),vs[i]?=some v→ds[i]?=some x→v.length=P.cellsOf e∧rd P h (f + 1) e v x) →
  ∃ l:List Nat,vs.flatten=Zeh eB l∧∀ z∈l,z < 256
 | [],_,_,_=>⟨[],rfl,by simp⟩
 | v :: vs,[],h,_=>by simp at h
 | v :: vs,d :: ds,hl,hall=>by
  obtain ⟨l,hfl,hs⟩:=Zyp he vs ds (by simpa using hl) fun i v x hv hx=>hall (i + 1) v x (by simpa using hv) (by simpa using hx)
  have h0:=(hall 0 v d rfl rfl).2
  simp only [rd,he] at h0
  obtain ⟨z,rfl,_,hw⟩:=h0
  simp [Lit.wf,IntKind.min,IntKind.max,IntKind.signed,IntKind.bits] at hw
  refine ⟨z.toNat :: l,?_,fun x hx=>?_⟩
  ·simp [hfl,eB]; omega
  ·rcases List.mem_cons.1 hx with rfl | hx
   ·omega
   ·exact hs x hx
theorem rd_bytes {P:Program} {h:Zaa} {f:Nat} {t e:TypeId} {cs:List Zad} {d:Dt} (ht:P.underlying t=some (.slice e)) (he:P.underlying e=some (.int .u8)) (hc:P.cellsOf e=1) (hr:rd P h (f + 2) t cs d) :
  ∃ a n c ex,∃ l:List Nat,cs=[.slice a n c ex]∧Row h.length h a n (Zeh eB l)∧∀ z∈l,z < 256:=by
 unfold rd at hr
 rw [ht] at hr
 obtain ⟨a,n,c,ex,ds,vs,rfl,rfl,hdl,hn,hvl,hrow,hall⟩:=hr
 obtain ⟨l,hfl,hs⟩:=Zyp (f:=f) he vs ds (by omega) hall
 rw [hc,Nat.mul_one,hfl] at hrow
 exact ⟨a,n,c,ex,l,rfl,hrow,hs⟩
end Go.Sim
