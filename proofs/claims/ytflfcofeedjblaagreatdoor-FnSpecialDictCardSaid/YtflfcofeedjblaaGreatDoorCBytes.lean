/- A part of the proof of a statement of this seat: see the text that holds the theorem. No condition. -/
import Derived.Test.YtflfcofeedjblaaGreatDoorPAskLaw
import Derived.Test.YtflfcofeedjblaaGreatDoorPTCSApply
import Derived.Test.YtflfcofeedjblaaGreatDoorCSFold
import Derived.Test.YtflfcofeedjblaaGreatDoorCOwn
set_option linter.unusedVariables false
set_option linter.unusedSimpArgs false
set_option linter.all false
namespace Go.Sim
def Yuq (y:List Nat):Prop:=y=Ynt ∨ y=Ylf ∨ y=Ygj ∨ y=Znx ∨ y=Yuc
section
variable {k:Wk} {sp:Bool} {dec:Int→List Nat}
theorem Yqk {n:Nd} (h:(Zeg k sp n).1 < 0) (hm:∀ l,k.most l < 0 ∨ True):(Zeg k sp n).2=Ygj ∨ (Zeg k sp n).2=Znx ∨ ∃ x,k.cand n=[x]∧x < 0:=by
 unfold Zeg at *
 split
 ·exact .inl rfl
 ·rename_i x hx; rw [hx] at h; simp only at h; exact .inr (.inr ⟨x,hx,h⟩)
 ·rename_i h1 h2
  split
  ·rename_i hc
   simp only [Bool.and_eq_true,decide_eq_true_eq] at hc
   split at h
   ·rename_i hx; exact absurd hx h1
   ·rename_i x hx; exact absurd hx (h2 x)
   ·rw [if_pos (by simpa using hc)] at h; simp only at h; omega
  ·exact .inr (.inl rfl)
theorem Yhy {g:List Nd→Nd→Fnd × List Nd} (hg:∀ a m y x,(g a m).1=.no y x→Yuq y):∀ (l:List Nd) (z:(Fnd × List Nd) × Nat),(∀ y x,z.1.1=.no y x→Yuq y)→∀ y x,(l.foldl (Zfk g) z).1.1=.no y x→Yuq y
 | [],z,h,y,x,hy=>h y x hy
 | m :: l,z,h,y,x,hy=>by
  simp only [List.foldl_cons] at hy
  refine Yhy hg l _ (fun y x hy=>?_) y x hy
  obtain ⟨⟨r,a⟩,q⟩:=z
  cases r with
  | no y' n=>exact h y x hy
  | ok out=>
   unfold Zfk at hy
   simp only at hy
   rcases hgm:g a m with ⟨d,a'⟩
   rw [hgm] at hy
   cases d with
   | no y' n=>simp only [Fnd.no.injEq] at hy; obtain ⟨rfl,rfl⟩:=hy; exact hg a m _ _ (by rw [hgm])
   | ok d=>cases hy
theorem Ynr (hk:∀ n x,x∈k.cand n→0≤x):∀ (f:Nat) (asked:List Nd) (n:Nd) (y:List Nat) (x:Nd),(Zkc k sp dec f asked n).1=.no y x→Yuq y
 | f,asked,n,y,x,h=>by
  by_cases h3:300≤asked.length
  ·rw [Zmw h3] at h; cases h; exact .inl rfl
  ·match f with
   | 0=>rw [Zol h3] at h; cases h; exact .inr (.inl rfl)
   | f + 1=>
    by_cases hx:(Zeg k sp n).1 < 0
    ·rw [Zko h3 hx] at h
     cases h
     rcases Yqk hx (fun _=>.inr trivial) with e | e | ⟨x,hc,hx0⟩
     ·rw [e]; exact .inr (.inr (.inl rfl))
     ·rw [e]; exact .inr (.inr (.inr (.inl rfl)))
     ·have:=hk n x (by rw [hc]; simp); omega
    ·cases hn:k.needs (Zeg k sp n).1 n.2 with
     | none=>rw [Zre h3 hx hn] at h; cases h; exact .inr (.inr (.inr (.inr rfl)))
     | some ms=>
      rw [Zuo h3 hx hn] at h
      have key:=Yhy (g:=Zkc k sp dec f) (fun a m y x hy=>Ynr hk f a m y x hy) ms ((.ok (dec (Zeg k sp n).1),asked ++ [n]),0) (fun y x hy=>by cases hy)
      generalize (ms.foldl (Zfk (Zkc k sp dec f)) ((.ok (dec (Zeg k sp n).1),asked ++ [n]),0)).1=z at h key
      obtain ⟨r,a⟩:=z
      cases r with
      | ok out=>cases h
      | no y' x'=>exact key y x h
theorem Ysl (hd:∀ x,dec x≠[]) (f:Nat) (asked:List Nd) (n:Nd) (s:List Nat) (h:(Zkc k sp dec f asked n).1=.ok s):s≠[]:=by
 rcases hr:Zkc k sp dec f asked n with ⟨r,a⟩
 rw [hr] at h
 simp only at h
 subst h
 match f with
 | 0=>
  by_cases h3:300≤asked.length
  ·rw [Zmw h3] at hr; cases hr
  ·rw [Zol h3] at hr; cases hr
 | f + 1=>
  obtain ⟨ms,_,_,ps,_,_,e⟩:=Ycw hr
  rw [e]
  intro h0
  have:=congrArg List.length h0
  simp only [List.length_append,List.length_nil] at this
  have h1:=hd (Zeg k sp n).1
  exact h1 (List.eq_nil_of_length_eq_zero (by omega))
end
theorem Ysa {y:List Nat} (h:Yuq y):y≠[]:=by rcases h with rfl | rfl | rfl | rfl | rfl <;> decide
end Go.Sim

set_option linter.unusedVariables false
set_option linter.unusedSimpArgs false
set_option maxRecDepth 20000
namespace Go.Sim
open Go Go.RowKit

theorem Yvc (w:Wd):∀ n x,x∈(wk w).cand n→0≤x:=by
 intro n x hx
 obtain ⟨k,_,rfl,_⟩:=Yfp hx
 omega
theorem Yas {w:Wd} {n:Nd} {sp:Bool} {y:List Nat} {m:Nd} (h:Zhs w n sp=.no y m):y≠[]:=by
 unfold Zhs at h
 split at h
 ·exact Ysa (Ynr (Yvc w) 31 [] n y m h)
 ·cases h; decide
theorem Yhq {w:Wd} {n:Nd} {sp:Bool} {s:List Nat} (h:Zhs w n sp=.ok s):s≠[]:=by
 unfold Zhs at h
 split at h
 ·exact Ysl (fun x=>by simp [Zns]) 31 [] n s h
 ·cases h
theorem Yqo (w:Wd) (n:Nd):(∃ x,Zhs w n false=.no Znx x) ∨ Zhs w n true=Zhs w n false:=by
 unfold Zhs
 split
 ·rcases Yrx (k:=wk w) (dec:=Zns) 31 [] n with ⟨x,hx⟩ | h
  ·exact .inl ⟨x,hx⟩
  ·exact .inr (by rw [h])
 ·exact .inr rfl
theorem Ymr {w:Wd} {n:Nd} {sp:Bool}:decide (Yer (Zhs w n sp)=[])=!decide (Zzs (Zhs w n sp)=[]):=by
 cases h:Zhs w n sp with
 | ok s=>have:=Yhq h; simp [Yer,Zzs,this]
 | no y m=>have:=Yas h; simp [Yer,Zzs,this]
def DRQ (h:Zaa) (v:Zat) (h':Zaa):Prop:=∃ a0 n0 c0 e0 a1 n1 c1 e1 w,∃ nd:Nd,v=.tup [.agg [.slice a0 n0 c0 e0,.slice a1 n1 c1 e1],.agg [.str nd.1,.str nd.2]]∧Zba h.length h h'∧Zlz h' a0 n0 c0 a1 n1 c1 w∧WB w∧nd.1.length≤1000∧nd.2.length≤1000
theorem Yct {h:Zaa} {a:Pt} {n c:Nat} {e:Bool} {l:List Nat} (r:Row h.length h a n (Zdg eB l)) (hb:∀ b∈l,b < 256) (hnc:n≤c) :
  Zaj pg Zjh [.slice a n c e] (h ++ [.cells Zad [.slice none 0 0 true,.slice none 0 0 true] false] ++ [.cells Zab [.str [],.str []] false]) fun v_2 h_3=>
   Zgn (some v_2) fun a_4=>Zaj pg Zkt [.ptr a_4] h_3 fun v_5 h_6=>
   Zjy v_5 fun cs_7=>Zai cs_7 fun c_8 r_9=>Zob c_8 fun cs_10=>Zai cs_10 fun c_11 r_12=>xSl (some c_11) fun a_13 n_14 c_15 e_16=>Zai r_12 fun c_17 r_18=>xSl (some c_17) fun a_19 n_20 c_21 e_22=>Zbu r_18 (Zai r_9 fun c_23 r_24=>Zob c_23 fun cs_25=>Zai cs_25 fun c_26 r_27=>Zbc (some c_26) fun s_28=>Zai r_27 fun c_29 r_30=>Zbc (some c_29) fun s_31=>Zbu r_30 (Zbu r_24 (Zbn (Zay h_6 (.ptr (some (List.length h,0))) [.slice a_13 n_14 c_15 e_16,.slice a_19 n_20 c_21 e_22]) fun h_32=>Zbn (Zay h_32 (.ptr (some (List.length (h ++ [.cells Zad [.slice none 0 0 true,.slice none 0 0 true] false]),0))) [.str s_28,.str s_31]) fun h_33=>Zcm (Zbj h_33 (.ptr (some (List.length h,0))) 2) fun cs_34=>Zai cs_34 fun c_35 r_36=>xSl (some c_35) fun a_37 n_38 c_39 e_40=>Zai r_36 fun c_41 r_42=>xSl (some c_41) fun a_43 n_44 c_45 e_46=>Zbu r_42 (Zcm (Zbj h_33 (.ptr (some (List.length (h ++ [.cells Zad [.slice none 0 0 true,.slice none 0 0 true] false]),0))) 2) fun cs_47=>Zai cs_47 fun c_48 r_49=>Zbc (some c_48) fun s_50=>Zai r_49 fun c_51 r_52=>Zbc (some c_51) fun s_53=>Zbu r_52 (DRQ h (.tup [.agg [.slice a_37 n_38 c_39 e_40,.slice a_43 n_44 c_45 e_46],.agg [.str s_50,.str s_53]]) h_33))))):=by
 generalize hg0:h ++ [Zby.cells Zad [.slice none 0 0 true,.slice none 0 0 true] false]=g0
 have s0:Zba h.length h g0:=by rw [← hg0]; exact Zam
 have w0:g0[h.length]?=some (.cells Zad [.slice none 0 0 true,.slice none 0 0 true] false):=by rw [← hg0]; simp
 have l0:g0.length=h.length + 1:=by rw [← hg0]; simp
 generalize hg1:g0 ++ [Zby.cells Zab [.str [],.str []] false]=g1
 have s1:Zba g0.length g0 g1:=by rw [← hg1]; exact Zam
 have w1:=s1.get w0 (Own.lt w0)
 have n1':g1[g0.length]?=some (.cells Zab [.str [],.str []] false):=by rw [← hg1]; simp
 have l1:g1.length=g0.length + 1:=by rw [← hg1]; simp
 have S1:=s0.cat s1
 refine (Yiw (r.same' S1) hb hnc).mono ?_
 rintro v g2 ⟨rfl,s2,R2,l2⟩
 simp only [Zeh]
 have w2:=s2.get w1 (Own.lt w1)
 have n2:=s2.get n1' (Own.lt n1')
 refine (Yoq R2 (by omega)).mono ?_
 rintro v g3 ⟨u,w,nd,rfl,⟨a0,n0,c0,e0,q,n1,c1,e1,ys,rfl,d⟩,ws,hn1,hn2,K3,p3,_,_,R3⟩
 have w3:=K3.get w2 (by omega)
 have n3:=K3.get n2 (by omega)
 simp only [Zcj,Zaf,Zdq,Zah,Zag,Zao]
 rw [Zbd w3 (by simp)]
 simp only [Zar,putRow,List.take_zero,List.length_cons,List.length_nil,List.drop_succ_cons,List.drop_zero,List.drop_nil,List.cons_append,List.nil_append,List.append_nil,Nat.zero_add]
 have w4:=Zbx w3 (x:=.cells Zad [.slice a0 n0 c0 e0,.slice (some (q,0)) n1 c1 e1] false)
 have n4:(g3.set h.length (.cells Zad [.slice a0 n0 c0 e0,.slice (some (q,0)) n1 c1 e1] false))[g0.length]?=some (.cells Zab [.str [],.str []] false):=by rw [Zbp (by omega)]; exact n3
 rw [Zbd n4 (by simp)]
 simp only [Zar,putRow,List.take_zero,List.length_cons,List.length_nil,List.drop_succ_cons,List.drop_zero,List.drop_nil,List.cons_append,List.nil_append,List.append_nil,Nat.zero_add]
 have w5:((g3.set h.length (.cells Zad [.slice a0 n0 c0 e0,.slice (some (q,0)) n1 c1 e1] false)).set g0.length (.cells Zab [.str nd.1,.str nd.2] false))[h.length]?=some (.cells Zad [.slice a0 n0 c0 e0,.slice (some (q,0)) n1 c1 e1] false):=by rw [Zbp (by omega)]; exact w4
 rw [Zbb w5,Zbb (Zbx n4)]
 simp only [Zap,Zaf,Zao,Zah,Zag]
 have K3l:=K3.le
 exact ⟨a0,n0,c0,e0,_,n1,c1,e1,w,nd,rfl,⟨by simp; omega,fun j hj=>by rw [Zbp (by omega),Zbp (by omega),K3.eq j (by omega) (by omega),s2.eq j (by omega)]; exact S1.eq j hj⟩,((d.setN (by omega)).setN (by omega)).rep,ws.wb (by omega),hn1,hn2⟩
theorem Zzo {h:Zaa} {a:Pt} {n c:Nat} {e:Bool} {l:List Nat} (r:Row h.length h a n (Zdg eB l)) (hb:∀ b∈l,b < 256) (hnc:n≤c):Zaj pg Zhu [.slice a n c e] h (DRQ h):=by
 apply Zlg.call
 simp only [Zax]
 exact Yct r hb hnc
end Go.Sim

set_option linter.unusedVariables false
set_option linter.unusedSimpArgs false
set_option maxRecDepth 20000
namespace Go.Sim
open Go Go.RowKit

theorem lawFSpecialDict {h:Zaa} {a:Pt} {n c:Nat} {e:Bool} {l:List Nat} (r:Row h.length h a n (Zdg eB l)) (hb:∀ b∈l,b < 256) (hnc:n≤c) :
  Zaj pg Zms [.slice a n c e] h fun v _=>v=.bool true:=by
 apply Ziv.call
 refine Zau (fun _=>rfl) (fun _=>?_)
 refine (Zzo r hb hnc).mono ?_
 rintro v h1 ⟨a0,n0,c0,e0,a1,n1,c1,e1,w,nd,rfl,s1,rep,wb,hn1,hn2⟩
 simp only [Zcj,Zaf,Zdq,Zah,Zag,Zao,Zax]
 generalize hgA:h1 ++ [Zby.cells Zad [.slice none 0 0 true,.slice none 0 0 true] false]=gA
 have sA:Zba h1.length h1 gA:=by rw [← hgA]; exact Zam
 have wA:gA[h1.length]?=some (.cells Zad [.slice none 0 0 true,.slice none 0 0 true] false):=by rw [← hgA]; simp
 have lA:gA.length=h1.length + 1:=by rw [← hgA]; simp
 generalize hgB:gA ++ [Zby.cells Zab [.str [],.str []] false]=gB
 have sB:Zba gA.length gA gB:=by rw [← hgB]; exact Zam
 have wB:=sB.get wA (Own.lt wA)
 have nB:gB[gA.length]?=some (.cells Zab [.str [],.str []] false):=by rw [← hgB]; simp
 have lB:gB.length=gA.length + 1:=by rw [← hgB]; simp
 rw [Zbd wB (by simp)]
 simp only [Zar,putRow,List.take_zero,List.length_cons,List.length_nil,List.drop_succ_cons,List.drop_zero,List.drop_nil,List.cons_append,List.nil_append,List.append_nil,Nat.zero_add]
 have wC:=Zbx wB (x:=.cells Zad [.slice a0 n0 c0 e0,.slice a1 n1 c1 e1] false)
 have nC:(gB.set h1.length (.cells Zad [.slice a0 n0 c0 e0,.slice a1 n1 c1 e1] false))[gA.length]?=some (.cells Zab [.str [],.str []] false):=by rw [Zbp (by omega)]; exact nB
 rw [Zbd nC (by simp)]
 simp only [Zar,putRow,List.take_zero,List.length_cons,List.length_nil,List.drop_succ_cons,List.drop_zero,List.drop_nil,List.cons_append,List.nil_append,List.append_nil,Nat.zero_add]
 have x0:((gB.set h1.length (.cells Zad [.slice a0 n0 c0 e0,.slice a1 n1 c1 e1] false)).set gA.length (.cells Zab [.str nd.1,.str nd.2] false))[h1.length]?=some (.cells Zad [.slice a0 n0 c0 e0,.slice a1 n1 c1 e1] false):=by rw [Zbp (by omega)]; exact wC
 have y0:=Zbx nC (x:=.cells Zab [.str nd.1,.str nd.2] false)
 have S0:Zba h1.length h1 ((gB.set h1.length (.cells Zad [.slice a0 n0 c0 e0,.slice a1 n1 c1 e1] false)).set gA.length (.cells Zab [.str nd.1,.str nd.2] false)):=((sA.cat sB).set' (Nat.le_refl _)).set' (by omega)
 generalize (gB.set h1.length (.cells Zad [.slice a0 n0 c0 e0,.slice a1 n1 c1 e1] false)).set gA.length (.cells Zab [.str nd.1,.str nd.2] false)=g0 at x0 y0 S0 ⊢
 have R0:=rep.same S0
 rw [Zbb x0,Zbb y0]
 simp only [Zap,Zaf,Zao,Zah,Zag]
 refine (Zzn (nd:=nd) R0 wb).mono ?_
 rintro v g1 ⟨rfl,t1⟩
 simp only [Zcj,Zaf,Zag,Zao]
 have x1:=t1.get x0 (Own.lt x0)
 have y1:=t1.get y0 (Own.lt y0)
 have R1:=R0.same t1
 rw [Zbb x1,Zbb y1]
 simp only [Zap,Zaf,Zao,Zah,Zag]
 refine (Zyo (nd:=nd) R1 wb (by omega)).mono ?_
 rintro v g2 ⟨rfl,t2⟩
 simp only [Zcj,Zaf,Zag,Zao]
 have x2:=t2.get x1 (Own.lt x1)
 have y2:=t2.get y1 (Own.lt y1)
 have R2:=R1.same t2
 rw [Zbb x2,Zbb y2]
 simp only [Zap,Zaf,Zao,Zah,Zag]
 refine (Zpt (nd:=nd) R2 wb).mono ?_
 rintro v g3 ⟨rfl,t3⟩
 simp only [Zcj,Zaf,Zag,Zao,decide_true,Bool.not_true,Zbz]
 apply Ziv.J9i
 have hw:=Ymr (w:=w) (n:=nd) (sp:=true)
 rcases Yqo w nd with ⟨x,hx⟩ | hs
 ·rw [hx,hw]
  simp only [show Yer (Fnd.no Znx x)=Znx from rfl,show decide (Znx=[])=false from rfl,Bool.not_false,Zcp,beq_self_eq_true,show decide (Znx=[109,97,110,121])=true from rfl]
 ·rw [← hs,hw]
  cases hf:Zhs w nd true with
  | ok s=>
   have:=Yhq hf
   simp [Yer,Zzs,this]
  | no y m=>
   have:=Yas hf
   simp only [Yer,Zzs]
   simp [this]
   by_cases hm:y=[109,97,110,121]
   ·simp [hm]
   ·simp [hm,this]
end Go.Sim

set_option linter.unusedVariables false
set_option linter.unusedSimpArgs false
set_option maxRecDepth 20000
namespace Go.Sim
open Go Go.RowKit
theorem Yhm {P:Program} {h:Zaa} {f:Nat} {e:TypeId} (he:P.underlying e=some (.int .u8)):∀ (vs:List (List Zat)) (ds:List Dt),ds.length=vs.length→(∀ (i:Nat) (v:List Zat) (x:Dt),vs[i]?=some v→ds[i]?=some x→v.length=P.cellsOf e∧rd P h (f + 1) e v x) →
  ∃ l:List Nat,vs.flatten=Zdg eB l∧∀ z∈l,z < 256
 | [],_,_,_=>⟨[],rfl,by simp⟩
 | v :: vs,[],h,_=>by simp at h
 | v :: vs,d :: ds,hl,hall=>by
  obtain ⟨l,hfl,hs⟩:=Yhm he vs ds (by simpa using hl) fun i v x hv hx=>hall (i + 1) v x (by simpa using hv) (by simpa using hx)
  have h0:=(hall 0 v d rfl rfl).2
  simp only [rd,he] at h0
  obtain ⟨z,rfl,_,hw⟩:=h0
  simp [Lit.wf,IntKind.min,IntKind.max,IntKind.signed,IntKind.bits] at hw
  refine ⟨z.toNat :: l,?_,fun x hx=>?_⟩
  ·simp [hfl,eB]; omega
  ·rcases List.mem_cons.1 hx with rfl | hx
   ·omega
   ·exact hs x hx
theorem rd_bytes {P:Program} {h:Zaa} {f:Nat} {t e:TypeId} {cs:List Zat} {d:Dt} (ht:P.underlying t=some (.slice e)) (he:P.underlying e=some (.int .u8)) (hc:P.cellsOf e=1) (hr:rd P h (f + 2) t cs d) :
  ∃ a n c ex,∃ l:List Nat,cs=[.slice a n c ex]∧Row h.length h a n (Zdg eB l)∧∀ z∈l,z < 256:=by
 unfold rd at hr
 rw [ht] at hr
 obtain ⟨a,n,c,ex,ds,vs,rfl,rfl,hdl,hn,hvl,hrow,hall⟩:=hr
 obtain ⟨l,hfl,hs⟩:=Yhm (f:=f) he vs ds (by omega) hall
 rw [hc,Nat.mul_one,hfl] at hrow
 exact ⟨a,n,c,ex,l,rfl,hrow,hs⟩
end Go.Sim
