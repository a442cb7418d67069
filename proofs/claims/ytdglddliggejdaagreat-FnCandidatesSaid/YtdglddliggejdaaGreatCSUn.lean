/- A part of the proof of a statement of this seat: see the text that holds the theorem. No condition. -/
import Derived.Test.YtdglddliggejdaaGreatPTCMatch
import Derived.Test.YtdglddliggejdaaGreatCSMatch
set_option linter.unusedVariables false
set_option linter.unusedSimpArgs false
set_option linter.all false
set_option linter.unusedVariables false
set_option linter.unusedSimpArgs false
set_option maxRecDepth 20000
namespace Go.Sim
open Go Go.RowKit

theorem Zsi:∀ (N:Nat) {S:Nat→Prop} {h:Zaa} {t:Ty} {v:List Zas},t.size≤N→t.txt.length≤4611686018427387904→Zew S h t v→Zah pg Zhs [.agg v] h fun x h'=>x=.int .i64 (t.txt.length:Nat)∧Zbe h.length h h'
 | 0,S,h,t,v,hN,_,_=>by have:=t.size_ps; omega
 | N + 1,S,h,t,v,hN,hB,r=>by
  obtain ⟨a,c,e,vs,rfl,hrow,hS,hvl,hp⟩:=r.parts
  have hps2:t.ps.length≤2:=by cases t <;> simp [Ty.ps]
  have htx:=t.txt_mids
  have hln:=congrArg List.length htx
  rw [List.length_append,List.length_cons] at hln
  apply Zfr.call
  simp only [Zax,Zeu,Nat.zero_add,List.getElem?_cons_succ,List.getElem?_cons_zero,Zaf]
  generalize hh0:h ++ [Zcc.cells Zab [.int .u8 (t.hd:Int),.slice a t.ps.length c e] false]=h0
  have s0:Zbe h.length h h0:=by rw [← hh0]; exact Zao
  have o0:h0[h.length]?=some (.cells Zab [.int .u8 (t.hd:Int),.slice a t.ps.length c e] false):=by rw [← hh0]; simp
  refine Zfr.L3ind _ _ _ _ _ _ _ _ (J:=fun (g:Nat) x3 x9 h'=>x9=(g:Int)∧g≤t.ps.length∧Zbe h.length h h'∧Zbe h0.length h0 h'∧x3=((1 + (Zoh 0 (t.ps.take g)).length:Nat):Int)) (fun g=>t.ps.length - g) ?_ 0 _ _ _ ⟨rfl,by omega,s0,Zbe.refl _ _,by simp [Zoh]⟩
  rintro g x3 x9 h' ⟨rfl,hg,hSm,hS1,rfl⟩ R hR
  unfold Zfr.L3t
  have o2:=hS1.get o0 (Own.lt o0)
  refine Zav (fun hlt=>?_) (fun hge=>?_)
  ·have hg':g < t.ps.length:=by omega
   obtain ⟨i,o,a2,c2,e2,rfl,hr,hk⟩:=Zew.get (hrow.same' hSm) hvl (fun k w x h1 h2=>(hp k w x h1 h2).same hSm) hg'
   simp only [Zaw,Int.toNat_natCast,hr,Zau,Zaj,Zar,Zaq,Zaf,Zax]
   rw [Zgk]
   simp only [Zat]
   rw [Yfm]
   simp only [Zau,Zaj,Zar,Zaq,Zaf]
   have hm:=List.getElem_mem hg'
   have h1:=Ty.size_part hm
   have h2:=Ty.len_part hm
   have hmt:=Zut t.ps 0 g hg'
   have hml:(Zoh 0 (t.ps.take (g + 1))).length≤(Zoh 0 t.ps).length:=Zxk _ _ _
   have hmtl:=congrArg List.length hmt
   simp only [List.length_append,List.length_cons,Nat.zero_add] at hmtl
   have s2:Zbe h'.length h' (h' ++ [.cells Zab [.int .u8 (t.ps[g].hd:Int),.slice a2 t.ps[g].ps.length c2 e2] false]):=Zao
   refine ⟨by omega,(Zsi N (by omega) (by omega) (hk.same s2)).mono ?_⟩
   rintro x h3 ⟨rfl,s3⟩
   simp only [Zaq]
   rw [Zbt (by omega),Zbt (by omega),IntWalk.i64_in _ (by omega)]
   exact hR (g + 1) _ _ _ (by omega) ⟨rfl,by omega,(hSm.cat s2).cat s3,(hS1.cat s2).cat s3,by omega⟩
  ·apply Zfr.A3x0i
   have:g=t.ps.length:=by omega
   subst this
   simp only [Zak o2,Nat.zero_add,List.getElem?_cons_succ,List.getElem?_cons_zero,Zaf]
   rw [List.take_length]
   refine Zav (fun hpos=>?_) (fun hneg=>?_)
   ·have hne:t.ps≠[]:=fun e=>by rw [e] at hpos; simp at hpos
    rw [if_neg hne] at hln
    apply Zfr.J9i
    simp only [List.length_cons,List.length_nil] at hln
    rw [Zbt (by omega)]
    exact ⟨by congr 1; omega,hSm⟩
   ·have hne:t.ps=[]:=List.eq_nil_of_length_eq_zero (by omega)
    rw [if_pos hne] at hln
    simp only [List.length_nil] at hln
    apply Zfr.J9i
    exact ⟨by congr 1; omega,hSm⟩
def Yec (m:Bd) (g:Nat):List Nd:=(Zef.take g).filterMap fun v=>(Zfl m v).map fun t=>([v],t.txt)
theorem Ynv (m:Bd) (g:Nat):Yec m (g + 1)=Yec m g ++ (match Zef[g]? with | some v=>(match Zfl m v with | some t=>[([v],t.txt)] | none=>[]) | none=>[]):=by
 unfold Yec
 rw [List.take_succ,List.filterMap_append]
 cases Zef[g]? with
 | none=>simp
 | some v=>cases hb:Zfl m v <;> simp [hb]
theorem Ypm (m:Bd) (g:Nat):(Yec m g).length≤6:=by
 unfold Yec
 refine Nat.le_trans (List.length_filterMap_le _ _) ?_
 rw [List.length_take]; exact Nat.le_trans (Nat.min_le_right _ _) (by decide)
theorem Yoj {g v:Nat} (hv:Zef[g]?=some v):sub [88,89,90,120,121,122,49,50,51,52,53,54] (g:Int) ((g:Int) + 1)=[v]:=by
 have hg:g < 6:=(List.getElem?_eq_some_iff.1 hv).1
 match g,hg with
 | 0,_ | 1,_ | 2,_ | 3,_ | 4,_ | 5,_=>simp [Zef] at hv; subst hv; rfl
theorem Yml {S:Nat→Prop} {h:Zaa} {i:Nat} {m:Bd} (rm:Zui S h i m) (bo:BOk 60 m) :
  Zah pg Zor [.ptr (some (i,0))] h fun v h'=>Zbe h.length h h'∧∃ a n c e,v=.tup [.slice a n c e,.bool true]∧n≤c∧Zdl Zcf eP h.length h' a n (bdL m):=by
 apply Zfo.call
 simp only [Zax,Zaw]
 generalize hh0:h ++ [Zcc.cells Zcf [] false]=h0
 have s0:Zbe h.length h h0:=by rw [← hh0]; exact Zao
 have l0:h0.length=h.length + 1:=by rw [← hh0]; simp
 have o0:h0[h.length]?=some (.cells Zcf [] false):=by rw [← hh0]; simp
 refine Zfo.L3ind _ _ (J:=fun (g:Nat) a4 n4 c4 e4 x10 h'=>x10=(g:Int)∧g≤12∧Zbe h.length h h'∧n4=(Yec m g).length∧n4≤c4∧Vec Zcf h' a4 n4 c4 (Zdq eP (Yec m g))∧(∀ i,a4=some (i,0)→h.length≤i)) (fun g=>12 - g) ?_ 0 _ _ _ _ _ _
  ⟨rfl,by omega,s0,by simp [Yec],Nat.le_refl _,Vec.mk1 (by simpa [Yec] using o0),fun i hi=>by cases hi; omega⟩
 rintro g a4 n4 c4 e4 x10 h' ⟨rfl,hg,hSm,rfl,hnc,hv,ha⟩ R hR
 unfold Zfo.L3t
 have hbl:=Ypm m g
 refine Zav (fun hlt=>?_) (fun hge=>?_)
 ·have hg':g < 12:=by omega
  obtain ⟨x,hx1,hx2,hx3⟩:=(rm.same hSm).get hg'
  have il:=(rm.same hSm).lt
  have hx:∃ (d:Nat) (a:Pt) (n c:Nat) (e:Bool),x=(.int .u8 (d:Int),.slice a n c e)∧(match (Zef[g]?).bind (Zfl m) with | some t=>d=t.hd | none=>d=0):=by
   split at hx3
   ·rename_i t ht
    obtain ⟨ua,uc,ue,hu⟩:=hx3.shape
    simp only [List.cons.injEq,and_true] at hu
    exact ⟨t.hd,ua,t.ps.length,uc,ue,by rw [← hu.1,← hu.2],by first | rfl | rw [ht]⟩
   ·rename_i hn; exact ⟨0,none,0,0,true,hx3,by first | rfl | rw [hn]⟩
  obtain ⟨d,ua,un,uc,ue,rfl,hd⟩:=hx
  simp only [Int.toNat_natCast,hx2,Zaw,Zau,Zaj,Zar,Zaq,Zaf,Zax]
  generalize hq:h' ++ [Zcc.cells Zab [.int .u8 0,.slice none 0 0 true] false]=hq'
  have sq:Zbe h'.length h' hq':=by rw [← hq]; exact Zao
  have hrq:Zan hq' (.ptr (some (i,0 + g * 2))) 2=some [.int .u8 (d:Int),.slice ua un uc ue]:=by
   rw [← hx2]; simp only [Zan,sq.eq i il]
  rw [hrq,← hq,Zgk]
  generalize hw:h' ++ [Zcc.cells Zab [.int .u8 (d:Int),.slice ua un uc ue] false]=hw'
  have sw:Zbe h'.length h' hw':=by rw [← hw]; exact Zao
  have ow:hw'[h'.length]?=some (.cells Zab [.int .u8 (d:Int),.slice ua un uc ue] false):=by rw [← hw]; simp
  simp only [Zat,Zak ow,Nat.zero_add,List.getElem?_cons_zero,Zaq,true_and]
  have SW:=hSm.cat sw
  have hsuc:=Ynv m g
  have skip:(Zef[g]?).bind (Zfl m)=none→Zfo.J9 (fun v h'=>Zbe h.length h h'∧∃ a n c e,v=.tup [.slice a n c e,.bool true]∧n≤c∧Zdl Zcf eP h.length h' a n (bdL m)) R (g:Int) (some (i,0)) a4 (Yec m g).length c4 e4 hw':=by
   intro hn
   have hsame:Yec m (g + 1)=Yec m g:=by
    rw [hsuc]
    cases hvg:Zef[g]? with
    | none=>simp
    | some v=>rw [hvg,Option.bind_some] at hn; simp [hn]
   apply Zfo.J9i
   rw [Zbt (by omega)]
   exact hR (g + 1) _ _ _ _ _ _ (by omega) ⟨rfl,by omega,SW,by rw [hsame],hnc,by rw [hsame]; exact hv.same sw,ha⟩
  refine ⟨by omega,?_⟩
  cases hb:(Zef[g]?).bind (Zfl m) with
  | none=>
   rw [hb] at hd
   simp only at hd
   subst hd
   simp only [show (((0:Nat):Int) == 0)=true from rfl,Zby]
   exact skip hb
  | some t=>
   rw [hb] at hd hx3
   simp only at hd hx3
   obtain ⟨v,hvg,hbv⟩:=Option.bind_eq_some_iff.1 hb
   have hu:=bo.var _ (Zol hbv)
   have hg6:g < 6:=(List.getElem?_eq_some_iff.1 hvg).1
   have hd0:((d:Int) == 0)=false:=by
    have:=Ztf hu.2.1
    have hne:t.hd≠0:=fun e=>by rw [e] at this; simp at this
    simp; omega
   rw [show decide ((g:Int) ≥ 6)=false by simp; omega]
   simp only [hd0,Zbj]
   apply Zfo.J6i
   rw [← hw,Yfm,hw]
   simp only [Zau,Zaj,Zar,Zaq,Zaf]
   have hu2:t.txt.length≤60:=hu.2.2
   refine (Zsi _ (Nat.le_refl _) (by omega) (hx3.same sw)).mono ?_
   rintro v' h3 ⟨rfl,s3⟩
   have o3:=s3.get ow (Own.lt ow)
   simp only [Zaq]
   rw [show decide (((t.txt.length:Nat):Int) > 60)=false by simp; omega]
   simp only [Zbj,Zed o3 (show 0 + 2≤_ by simp),List.drop_zero,List.take_succ_cons,List.take_zero,Zau,Zaj,Zar,Zaq,Zaf]
   rw [Zbt (by omega),show (((g + 1:Nat):Int))=(g:Int) + 1 by omega,Yoj hvg]
   refine ⟨⟨by omega,by omega,by simp; omega⟩,(Zqt _ (Nat.le_refl _) (by omega) hu.2.1 ((hx3.same sw).same s3)).mono ?_⟩
   rintro v' h4 ⟨rfl,s4⟩
   simp only [Zam,Zax]
   have S4:=(SW.cat s3).cat s4
   refine (((hv.same sw).same s3).same s4).pushN Zwq Ycd Ybx Ybw (by rw [Zay Zfp]) rfl (by omega) rfl (by omega) (fun h6 hl6 hi6 hk6=>?_)
   simp only [Zaf]
   apply Zfo.J9i
   rw [Zbt (by omega)]
   have hle:=S4.le
   have hs':Yec m (g + 1)=Yec m g ++ [([v],t.txt)]:=by rw [hsuc,hvg]; simp [hbv]
   refine hR (g + 1) _ _ _ _ _ _ (by omega) ⟨rfl,by omega,⟨by omega,fun j hj=>?_⟩,by rw [hs']; simp,Nat.le_refl _,Vec.mk1 ?_,fun i hi=>by cases hi; omega⟩
   ·rw [hk6 j (by omega) fun i hi=>by have:=ha i hi; omega]; exact S4.eq j hj
   ·rw [hi6,hs',Zkq]; rfl
 ·apply Zfo.A3x0i
  have:g=12:=by omega
  subst this
  have hb12:Yec m 12=bdL m:=by unfold Yec bdL; rw [List.take_of_length_le (by decide)]
  rw [hb12] at hv hnc ⊢
  exact ⟨hSm,_,_,_,_,rfl,hnc,hv.fresh (b:=h.length) rfl fun i hi=>ha i hi⟩
theorem Ymw:Zdq eR (List.replicate 12 (Zas.int .u8 0,Zas.slice none 0 0 true))=[.int .u8 0,.slice none 0 0 true,.int .u8 0,.slice none 0 0 true,.int .u8 0,.slice none 0 0 true,.int .u8 0,.slice none 0 0 true,.int .u8 0,.slice none 0 0 true,.int .u8 0,.slice none 0 0 true,.int .u8 0,.slice none 0 0 true,.int .u8 0,.slice none 0 0 true,.int .u8 0,.slice none 0 0 true,.int .u8 0,.slice none 0 0 true,.int .u8 0,.slice none 0 0 true,.int .u8 0,.slice none 0 0 true]:=rfl
theorem Zrb {h h':Zaa} {s:List Nat} {vs:List Zas} (hm:match Zgv s with | some t=>Zew (Btw h.length h'.length) h' t vs | none=>vs=[.int .u8 0,.slice none 0 0 true]):∃ (d:Int) (a:Pt) (n c:Nat) (e:Bool),vs=[.int .u8 d,.slice a n c e]:=by
 split at hm
 ·obtain ⟨a,c,e,rfl⟩:=hm.shape; exact ⟨_,_,_,_,_,rfl⟩
 ·exact ⟨_,_,_,_,_,hm⟩
theorem Yaw (p s:List Nat) (hp0:p.length≤1048576) (hs0:s.length≤1048576) (h:Zaa):Zah pg Zln [.str p,.str s] h (Yht p s h):=by
 apply Zll.call
 refine (Zmi p (by omega) h).mono ?_
 rintro v h1 ⟨s1,vs1,rfl,r1⟩
 obtain ⟨d1,a1,n1,c1,e1,rfl⟩:=Zrb r1
 simp only [Zdx,Zaj,Zde,Zaq,Zaf,Zar,Zap,Zax]
 rw [Zgk]
 generalize hh2:h1 ++ [Zcc.cells Zab [.int .u8 d1,.slice a1 n1 c1 e1] false]=h2
 have s2:Zbe h1.length h1 h2:=by rw [← hh2]; exact Zao
 have o2:h2[h1.length]?=some (.cells Zab [.int .u8 d1,.slice a1 n1 c1 e1] false):=by rw [← hh2]; simp
 simp only [Zat]
 refine (Zmi s (by omega) h2).mono ?_
 rintro v h3 ⟨s3,vs3,rfl,r3⟩
 obtain ⟨d3,a3,n3,c3,e3,rfl⟩:=Zrb r3
 simp only [Zdx,Zaj,Zde,Zaq,Zaf,Zar,Zap]
 rw [Zgk]
 generalize hh4:h3 ++ [Zcc.cells Zab [.int .u8 d3,.slice a3 n3 c3 e3] false]=h4
 have s4:Zbe h3.length h3 h4:=by rw [← hh4]; exact Zao
 have o4:h4[h3.length]?=some (.cells Zab [.int .u8 d3,.slice a3 n3 c3 e3] false):=by rw [← hh4]; simp
 simp only [Zat]
 rw [← Ymw]
 generalize hh5:h4 ++ [Zcc.cells Zcj (Zdq eR (List.replicate 12 (Zas.int .u8 0,Zas.slice none 0 0 true))) false]=h5
 have s5:Zbe h4.length h4 h5:=by rw [← hh5]; exact Zao
 have o5:h5[h4.length]?=some (.cells Zcj (Zdq eR (List.replicate 12 (Zas.int .u8 0,Zas.slice none 0 0 true))) false):=by rw [← hh5]; simp
 have x2:h5[h1.length]?=some (.cells Zab [.int .u8 d1,.slice a1 n1 c1 e1] false):=s5.get (s4.get (s3.get o2 (Own.lt o2)) (by have:=Own.lt o2; have:=s3.le; omega)) (by have:=Own.lt o2; have:=s3.le; have:=s4.le; omega)
 have x4:=s5.get o4 (Own.lt o4)
 have S2:=s1.cat s2
 have S5:=(((S2.cat s3).cat s4).cat s5)
 have no:Zkz p s=none→∀ hz,Zbe h.length h hz→Yht p s h (.tup [.slice (some (hz.length,0)) 0 0 true,.bool false]) (hz ++ [Zcc.cells Zcf [] false]):=fun hn hz sz=>
  ⟨sz.cat Zao,_,0,0,true,by unfold Zmx; rw [hn]; rfl,Nat.le_refl _,by unfold Zzt; rw [hn]; exact ⟨rfl,.inl rfl⟩⟩
 cases hp:Zgv p with
 | none=>
  have:Zkg p=false:=by unfold Zkg; rw [hp]; rfl
  rw [this]
  simp only [Bool.not_false,Zby]
  exact no (by unfold Zkz; rw [hp]) _ S5
 | some a=>
  rw [Zqe hp]
  simp only [Bool.not_true,Zbj]
  cases ht:Zgv s with
  | none=>
   have:Zkg s=false:=by unfold Zkg; rw [ht]; rfl
   rw [this]
   simp only [Bool.not_false,Zby]
   exact no (by unfold Zkz; rw [hp,ht]) _ S5
  | some t=>
   rw [Zqe ht]
   rw [hp] at r1
   rw [ht] at r3
   simp only at r1 r3
   simp only [Bool.not_true,Zbj,Zed x2 (show 0 + 2≤_ by simp),Zed x4 (show 0 + 2≤_ by simp),List.drop_zero,List.take_succ_cons,List.take_zero,Zau,Zaj,Zar,Zaq,Zaf]
   obtain ⟨ha1,ha2,ha3⟩:=Zec.1 hp
   obtain ⟨ht1,ht2,ht3⟩:=Zec.1 ht
   have hms:Zkz p s=matchT [] a t:=by unfold Zkz; rw [hp,ht]
   have l3:=s3.le; have l4:=s4.le; have l2:=s2.le
   have R1:=((((r1.same s2).same s3).same s4).same s5).mono (S':=fun j=>j≠h4.length) (fun j hj=>by have:=hj.2; omega)
   have R3:=((r3.same s4).same s5).mono (S':=fun j=>j≠h4.length) (fun j hj=>by have:=hj.2; omega)
   refine (Zzq _ (Nat.le_refl _) ha1 ht1 (n:=60) (by omega) (by rw [← ht2]; exact ht3) BOk.nil (fun j hj=>hj) R1 R3 (Zui.nil o5)).mono ?_
   rintro v h6 ⟨K6,hres⟩
   have l5:=S5.le
   have lh4:h.length≤h4.length:=(((S2.cat s3).cat s4)).le
   have S6:Zbe h.length h h6:=⟨by have:=K6.le; omega,fun j hj=>by rw [K6.eq j (by omega) (by omega)]; exact S5.eq j hj⟩
   cases hm:matchT [] a t with
   | none=>
    rw [hm] at hres hms
    subst hres
    simp only [Zap,Bool.not_false,Zby]
    exact no hms _ S6
   | some m=>
    rw [hm] at hres hms
    obtain ⟨rfl,rm6⟩:=hres
    simp only [Zap,Bool.not_true,Zbj]
    apply Zll.J6i
    refine (Yml rm6 (Ycf hms)).mono ?_
    rintro v h7 ⟨s7,a7,n7,c7,e7,rfl,hc7,f7⟩
    simp only [Zdx,Zaj,Zaf,Zap,Zar]
    refine ⟨S6.cat s7,a7,n7,c7,e7,by unfold Zmx; rw [hms]; rfl,hc7,?_⟩
    unfold Zzt; rw [hms]
    exact ⟨f7.1,f7.2.imp id fun ⟨i,ha,hb,hi⟩=>⟨i,ha,by have:=S6.le; omega,hi⟩⟩
theorem Zzb (p s:List Nat) (hp0:p.length≤1048576) (hs0:s.length≤1048576) (h:Zaa):Zah pg Zkk [.str p,.str s] h fun v h'=>v=.bool (Zmx p s)∧Zbe h.length h h':=by
 apply Zoc.call
 refine (Yaw p s hp0 hs0 h).mono ?_
 rintro v h1 ⟨s1,a,n,c,e,rfl,_⟩
 simp only [Zdx,Zaj,Zaf,Zap,Zar]
 exact ⟨by trivial,s1⟩
end Go.Sim

set_option linter.unusedSimpArgs false
set_option linter.unusedVariables false
namespace Go.Sim

noncomputable def subst (f:Nat→Option Ty):Ty→Ty
 | .k c=>(f c).getD (.k c)
 | .u c a=>.u c (subst f a)
 | .w c a b=>.w c (subst f a) (subst f b)
theorem Yrn {c:Nat} {a:Ty} (h:(Ty.u c a).ok=true):Zbd c=false:=by
 cases hv:Zbd c with
 | false=>rfl
 | true=>have:=Zqj h hv; cases this
theorem Yrh {c:Nat} {a b:Ty} (h:(Ty.w c a b).ok=true):Zbd c=false:=by
 cases hv:Zbd c with
 | false=>rfl
 | true=>have:=Zqj h hv; cases this
end Go.Sim

set_option linter.unusedSimpArgs false
set_option linter.unusedVariables false
namespace Go.Sim

section
variable (V:Nat→Bool)
def sb (θ:Nat→Ty):Ty→Ty
 | .k c=>if V c=true then θ c else .k c
 | .u c a=>.u c (sb θ a)
 | .w c a b=>.w c (sb θ a) (sb θ b)
def occ (v:Nat):Ty→Bool
 | .k c=>decide (c=v)
 | .u _ a=>occ v a
 | .w _ a b=>occ v a || occ v b
end
section
variable {V:Nat→Bool}
theorem Ybk (θ F:Nat→Ty):∀ t:Ty,sb V θ (sb V F t)=sb V (fun c=>sb V θ (F c)) t
 | .k c=>by by_cases h:V c=true <;> simp [sb,h]
 | .u c a=>by simp only [sb,Ybk θ F a]
 | .w c a b=>by simp only [sb,Ybk θ F a,Ybk θ F b]
theorem Yih:∀ t:Ty,sb V .k t=t
 | .k c=>by unfold sb; split <;> rfl
 | .u c a=>by simp only [sb,Yih a]
 | .w c a b=>by simp only [sb,Yih a,Yih b]
theorem Znb {θ θ':Nat→Ty}:∀ {t:Ty},(∀ c,V c=true→occ c t=true→θ c=θ' c)→sb V θ t=sb V θ' t
 | .k c,h=>by
  unfold sb
  by_cases hv:V c=true
  ·rw [if_pos hv,if_pos hv,h c hv (by simp [occ])]
  ·rw [if_neg hv,if_neg hv]
 | .u c a,h=>by simp only [sb,Znb (t:=a) fun c hv ho=>h c hv (by simpa [occ] using ho)]
 | .w c a b,h=>by
  simp only [sb,Znb (t:=a) fun c hv ho=>h c hv (by simp [occ,ho]),Znb (t:=b) fun c hv ho=>h c hv (by simp [occ,ho])]
theorem Yia {F:Nat→Ty}:∀ {t:Ty},sb V F t=t→∀ c,V c=true→occ c t=true→F c=.k c
 | .k d,h,c,hv,ho=>by
  simp [occ] at ho; subst ho
  unfold sb at h; rw [if_pos hv] at h; exact h
 | .u d a,h,c,hv,ho=>by simp only [sb,Ty.u.injEq,true_and] at h; exact Yia h c hv (by simpa [occ] using ho)
 | .w d a b,h,c,hv,ho=>by
  simp only [sb,Ty.w.injEq,true_and] at h
  simp only [occ,Bool.or_eq_true] at ho
  rcases ho with ho | ho
  ·exact Yia h.1 c hv ho
  ·exact Yia h.2 c hv ho
theorem Zuc (t:Ty):1≤t.size:=by cases t <;> simp [Ty.size]
theorem Zzy {θ:Nat→Ty} {x:Nat} (hx:V x=true):∀ {t:Ty},occ x t=true→(θ x).size≤(sb V θ t).size
 | .k d,ho=>by simp [occ] at ho; subst ho; unfold sb; rw [if_pos hx]; exact Nat.le_refl _
 | .u d a,ho=>by have:=Zzy (θ:=θ) hx (t:=a) (by simpa [occ] using ho); simp only [sb,Ty.size]; omega
 | .w d a b,ho=>by
  simp only [occ,Bool.or_eq_true] at ho
  simp only [sb,Ty.size]
  rcases ho with ho | ho
  ·have:=Zzy (θ:=θ) hx ho; omega
  ·have:=Zzy (θ:=θ) hx ho; omega
theorem Yue {θ:Nat→Ty} {x:Nat} (hx:V x=true) {t:Ty} (ho:occ x t=true) (hne:t≠.k x):(θ x).size < (sb V θ t).size:=by
 cases t with
 | k d=>simp [occ] at ho; exact absurd (by rw [ho]) hne
 | u d a=>have:=Zzy (θ:=θ) hx (t:=a) (by simpa [occ] using ho); simp only [sb,Ty.size]; omega
 | w d a b=>
  simp only [occ,Bool.or_eq_true] at ho
  simp only [sb,Ty.size]
  rcases ho with ho | ho
  ·have:=Zzy (θ:=θ) hx ho; omega
  ·have:=Zzy (θ:=θ) hx ho; omega

inductive Wlk (σ:Nat→Option Ty):Nat→Ty→Ty→Prop
 | stop {t:Ty}:(∀ c,t=.k c→σ c=none)→Wlk σ 0 t t
 | step {c n:Nat} {u t:Ty}:σ c=some u→Wlk σ n u t→Wlk σ (n + 1) (.k c) t
theorem Wlk.end_ {σ:Nat→Option Ty} {n:Nat} {s t:Ty} (h:Wlk σ n s t):∀ c,t=.k c→σ c=none:=by
 induction h with
 | stop h=>exact h
 | step _ _ ih=>exact ih
theorem Wlk.det {σ:Nat→Option Ty} {n m:Nat} {s t t':Ty} (h:Wlk σ n s t) (h':Wlk σ m s t'):t=t'∧n=m:=by
 induction h generalizing m with
 | stop h=>
  cases h' with
  | stop _=>exact ⟨rfl,rfl⟩
  | step h1 _=>rw [h _ rfl] at h1; cases h1
 | step h1 _ ih=>
  cases h' with
  | stop h2=>rw [h2 _ rfl] at h1; cases h1
  | step h2 h3=>rw [h1] at h2; cases h2; obtain ⟨e1,e2⟩:=ih h3; exact ⟨e1,by rw [e2]⟩
structure Rsv (V:Nat→Bool) (σ:Nat→Option Ty) (F:Nat→Ty):Prop where
 dom:∀ c t,σ c=some t→V c=true
 non:∀ c,σ c=none→F c=.k c
 som:∀ c t,σ c=some t→F c=sb V F t
 wlk:∀ c,∃ n t,Wlk σ n (.k c) t
def Sol (V:Nat→Bool) (σ:Nat→Option Ty) (θ:Nat→Ty):Prop:=∀ c t,σ c=some t→θ c=sb V θ t
def Inc (rk:Nat→Nat) (V:Nat→Bool) (σ:Nat→Option Ty):Prop:=∀ c d,σ c=some (.k d)→V d=true→rk c < rk d
theorem Rsv.nil:Rsv V (fun _=>none) .k:=⟨fun c t h=>(by cases h),fun _ _=>rfl,fun c t h=>(by cases h),fun c=>⟨0,_,.stop fun _ _=>rfl⟩⟩
theorem Sol.nil {θ:Nat→Ty}:Sol V (fun _=>none) θ:=fun c t h=>by cases h
variable {σ:Nat→Option Ty} {F:Nat→Ty}
theorem Rsv.walk (r:Rsv V σ F) (t:Ty):∃ n t',Wlk σ n t t':=by
 cases t with
 | k c=>exact r.wlk c
 | u c a=>exact ⟨0,_,.stop fun c h=>by cases h⟩
 | w c a b=>exact ⟨0,_,.stop fun c h=>by cases h⟩
theorem Rsv.var (r:Rsv V σ F) {c:Nat} (h:σ c=none):sb V F (.k c)=.k c:=by unfold sb; split; exact r.non c h; rfl
theorem Wlk.sbF (r:Rsv V σ F) {n:Nat} {s t:Ty} (h:Wlk σ n s t):sb V F s=sb V F t:=by
 induction h with
 | stop=>rfl
 | step h1 _ ih=>rw [← ih,sb,if_pos (r.dom _ _ h1),r.som _ _ h1]
theorem Wlk.sbS (r:Rsv V σ F) {θ:Nat→Ty} (hs:Sol V σ θ) {n:Nat} {s t:Ty} (h:Wlk σ n s t):sb V θ s=sb V θ t:=by
 induction h with
 | stop=>rfl
 | step h1 _ ih=>rw [← ih,sb,if_pos (r.dom _ _ h1),hs _ _ h1]
theorem Rsv.solF (r:Rsv V σ F):Sol V σ F:=fun c t h=>r.som c t h
theorem Ytf (r:Rsv V σ F) {θ:Nat→Ty} (hs:Sol V σ θ):∀ (N:Nat) (t:Ty),(sb V F t).size≤N→sb V θ (sb V F t)=sb V θ t:=by
 intro N
 induction N with
 | zero=>intro t h; have:=Zuc (sb V F t); omega
 | succ N ih=>
  intro t h
  obtain ⟨n,t',hw⟩:=r.walk t
  rw [hw.sbF r] at h ⊢
  rw [hw.sbS r hs]
  have hend:=hw.end_
  cases t' with
  | k c=>rw [r.var (hend c rfl)]
  | u c a=>simp only [sb,Ty.size] at h ⊢; rw [ih a (by omega)]
  | w c a b=>simp only [sb,Ty.size] at h ⊢; rw [ih a (by omega),ih b (by omega)]
theorem Rsv.gen (r:Rsv V σ F) {θ:Nat→Ty} (hs:Sol V σ θ) {c:Nat} (hv:V c=true):sb V θ (F c)=θ c:=by
 have:=Ytf r hs _ (.k c) (Nat.le_refl _)
 simpa [sb,hv] using this
def upd (σ:Nat→Option Ty) (x:Nat) (b:Ty):Nat→Option Ty:=fun c=>if c=x then some b else σ c
def sng (x:Nat) (B:Ty):Nat→Ty:=fun c=>if c=x then B else .k c
theorem Yqm {x:Nat} {B t:Ty} (h:occ x t=false):sb V (sng x B) t=t:=by
 conv=>rhs; rw [← Yih (V:=V) t]
 refine Znb fun c hv ho=>?_
 unfold sng
 rw [if_neg]
 rintro rfl; rw [h] at ho; cases ho
theorem Rsv.bind (r:Rsv V σ F) {x:Nat} {b:Ty} (hx:σ x=none) (hv:V x=true) (hb:∀ c,b=.k c→σ c=none∧c≠x) (ho:occ x (sb V F b)=false) :
  Rsv V (upd σ x b) (fun c=>sb V (sng x (sb V F b)) (F c))∧∀ θ,Sol V (upd σ x b) θ ↔ Sol V σ θ∧θ x=sb V θ b:=by
 refine ⟨⟨?_,?_,?_,?_⟩,?_⟩
 ·intro c t h
  unfold upd at h
  by_cases e:c=x
  ·rw [e]; exact hv
  ·rw [if_neg e] at h; exact r.dom c t h
 ·intro c h
  unfold upd at h
  by_cases e:c=x
  ·rw [if_pos e] at h; cases h
  ·rw [if_neg e] at h
   show sb V _ (F c)=_
   rw [r.non c h]
   exact Yqm (by simp [occ,e])
 ·intro c t h
  show sb V _ (F c)=sb V (fun c=>sb V (sng x (sb V F b)) (F c)) t
  rw [← Ybk]
  unfold upd at h
  by_cases e:c=x
  ·rw [if_pos e] at h; cases h
   rw [Yqm ho,e,r.non x hx]
   simp [sb,hv,sng]
  ·rw [if_neg e] at h
   rw [r.som c t h]
 ·intro c
  have key:∀ {n:Nat} {s t:Ty},Wlk σ n s t→∃ n t',Wlk (upd σ x b) n s t':=by
   intro n s t hw
   induction hw with
   | @stop t h=>
    by_cases e:t=.k x
    ·subst e
     refine ⟨1,b,.step (u:=b) (by simp [upd]) (.stop fun c hc=>?_)⟩
     obtain ⟨h1,h2⟩:=hb c hc
     simp [upd,h2,h1]
    ·refine ⟨0,_,.stop fun c hc=>?_⟩
     have:c≠x:=fun e'=>e (by rw [hc,e'])
     simp [upd,this,h c hc]
   | @step d n u t h1 _ ih=>
    obtain ⟨n',t',hw'⟩:=ih
    have:d≠x:=fun e=>by rw [e,hx] at h1; cases h1
    exact ⟨n' + 1,t',.step (by simp [upd,this,h1]) hw'⟩
  obtain ⟨n,t,hw⟩:=r.wlk c
  exact key hw
 ·intro θ
  constructor
  ·intro h
   refine ⟨fun c t hc=>h c t ?_,h x b (by simp [upd])⟩
   have:c≠x:=fun e=>by rw [e,hx] at hc; cases hc
   simp [upd,this,hc]
  ·rintro ⟨h1,h2⟩ c t hc
   unfold upd at hc
   by_cases e:c=x
   ·rw [if_pos e] at hc; cases hc; rw [e]; exact h2
   ·rw [if_neg e] at hc; exact h1 c t hc
theorem Inc.bind {rk:Nat→Nat} (h:Inc rk V σ) {x:Nat} {b:Ty} (hb:∀ d,b=.k d→V d=true→rk x < rk d):Inc rk V (upd σ x b):=by
 intro c d hc hd
 unfold upd at hc
 by_cases e:c=x
 ·rw [if_pos e] at hc; cases hc; rw [e]; exact hb d rfl hd
 ·rw [if_neg e] at hc; exact h c d hc hd
theorem Ynf (r:Rsv V σ F) {x:Nat} {b:Ty} (hx:σ x=none) (hv:V x=true) (hb:∀ c,b=.k c→σ c=none∧c≠x) (ho:occ x (sb V F b)=true) (θ:Nat→Ty):¬ (Sol V σ θ∧θ x=sb V θ b):=by
 rintro ⟨hs,he⟩
 have hne:sb V F b≠.k x:=by
  cases b with
  | k c=>
   obtain ⟨h1,h2⟩:=hb c rfl
   rw [r.var h1]; intro e; cases e; exact h2 rfl
  | u c a=>simp [sb]
  | w c a b=>simp [sb]
 have:=Yue (θ:=θ) hv ho hne
 rw [Ytf r hs _ b (Nat.le_refl _),← he] at this
 omega
structure MGU (V:Nat→Bool) (rk:Nat→Nat) (S:(Nat→Ty)→Prop) (F:Nat→Ty):Prop where
 sol:S F
 gen:∀ θ,S θ→∀ c,V c=true→sb V θ (F c)=θ c
 inc:∀ c d,V c=true→V d=true→F c=.k d→c≠d→rk c < rk d
 out:∀ c,V c=false→F c=.k c
theorem Wlk.var {rk:Nat→Nat} (r:Rsv V σ F) (hi:Inc rk V σ) {n e:Nat} (he:V e=true):∀ {c:Nat},Wlk σ n (.k c) (.k e)→c=e ∨ rk c < rk e:=by
 induction n with
 | zero=>intro c h; cases h; exact .inl rfl
 | succ n ih=>
  intro c h
  cases h with
  | @step _ _ u _ h1 h2=>
   cases h2 with
   | stop _=>exact .inr (hi _ _ h1 he)
   | @step d n' u' _ h3 h4=>
    have:=hi c d h1 (r.dom _ _ h3)
    rcases ih (.step h3 h4) with e | e
    ·subst e; exact .inr this
    ·exact .inr (by omega)
theorem MGU.vars {rk:Nat→Nat} {S:(Nat→Ty)→Prop} {F G:Nat→Ty} (f:MGU V rk S F) (g:MGU V rk S G) {v:Nat} (hv:V v=true) (h:F v=.k v):G v=.k v:=by
 have h1:=g.gen F f.sol v hv
 rw [h] at h1
 cases hg:G v with
 | k w=>
  rw [hg] at h1
  by_cases hw:V w=true
  ·rw [sb,if_pos hw] at h1
   by_cases e:v=w
   ·rw [e]
   ·have a:=g.inc v w hv hw hg e
    have b:=f.inc w v hw hv h1 (fun e'=>e e'.symm)
    omega
  ·rw [sb,if_neg hw] at h1; cases h1; exact absurd hv hw
 | u w a=>rw [hg] at h1; simp [sb] at h1
 | w w a b=>rw [hg] at h1; simp [sb] at h1
theorem MGU.unique {rk:Nat→Nat} {S:(Nat→Ty)→Prop} {F G:Nat→Ty} (f:MGU V rk S F) (g:MGU V rk S G):F=G:=by
 funext v
 cases hv:V v with
 | false=>rw [f.out v hv,g.out v hv]
 | true=>
  have h1:=f.gen G g.sol v hv
  have h2:sb V F (F v)=F v:=f.gen F f.sol v hv
  have h3:sb V G (F v)=F v:=by
   conv=>rhs; rw [← Yih (V:=V) (F v)]
   refine Znb fun c hc ho=>?_
   exact f.vars g hc (Yia h2 c hc ho)
  rw [← h3,h1]
end
end Go.Sim

set_option linter.unusedSimpArgs false
set_option linter.unusedVariables false
namespace Go.Sim

structure Gr where
 hd:Nat→Nat
 ps:Nat→List Nat
inductive Pth (lk:Nat→Option Nat):Nat→Nat→Nat→Prop
 | refl {n:Nat}:Pth lk 0 n n
 | step {n m e k:Nat}:lk n=some m→Pth lk k m e→Pth lk (k + 1) n e
def Ybz (lk lk':Nat→Option Nat):Prop:=∀ n m,lk n=some m→lk' n=some m
section
variable {lk lk':Nat→Option Nat}
theorem Ybz.refl (lk:Nat→Option Nat):Ybz lk lk:=fun _ _ h=>h
theorem Ybz.trans {a b c:Nat→Option Nat} (h:Ybz a b) (k:Ybz b c):Ybz a c:=fun n m x=>k n m (h n m x)
theorem Ybz.none (x:Ybz lk lk') {n:Nat} (h:lk' n=none):lk n=none:=by
 cases hn:lk n with
 | none=>rfl
 | some m=>rw [x n m hn] at h; cases h
theorem Pth.trans {i j n m e:Nat} (h:Pth lk i n m) (h':Pth lk j m e):Pth lk (i + j) n e:=by
 induction h with
 | refl=>simpa using h'
 | @step n m' e' k h1 _ ih=>have:=Pth.step h1 (ih h'); rw [show k + 1 + j=k + j + 1 by omega]; exact this
theorem Pth.ext (x:Ybz lk lk') {k n e:Nat} (h:Pth lk k n e):Pth lk' k n e:=by
 induction h with
 | refl=>exact .refl
 | step h1 _ ih=>exact .step (x _ _ h1) ih
theorem Pth.two {i j a x y:Nat} (h:Pth lk i a x) (h':Pth lk j a y):(∃ k,Pth lk k x y) ∨ ∃ k,Pth lk k y x:=by
 induction h generalizing j with
 | refl=>exact .inl ⟨_,h'⟩
 | step h1 h2 ih=>
  cases h' with
  | refl=>exact .inr ⟨_,.step h1 h2⟩
  | step h3 h4=>rw [h1] at h3; cases h3; exact ih h4
theorem Pth.at_end {k e x:Nat} (h:Pth lk k e x) (he:lk e=none):x=e:=by
 cases h with
 | refl=>rfl
 | step h1 _=>rw [he] at h1; cases h1
theorem Pth.to_end {i j a x e:Nat} (h:Pth lk i a x) (h':Pth lk j a e) (he:lk e=none):∃ k,Pth lk k x e:=by
 rcases h.two h' with h | ⟨k,h⟩
 ·exact h
 ·have:=h.at_end he; subst this; exact ⟨0,.refl⟩
theorem Pth.end_eq {i j a e e':Nat} (h:Pth lk i a e) (h':Pth lk j a e') (he:lk e=none) (he':lk e'=none):e=e':=by
 obtain ⟨k,hk⟩:=h.to_end h' he'
 exact (hk.at_end he).symm
def Jnd (lk:Nat→Option Nat) (a b:Nat):Prop:=∃ i j e,Pth lk i a e∧Pth lk j b e
theorem Jnd.refl (a:Nat):Jnd lk a a:=⟨0,0,a,.refl,.refl⟩
theorem Jnd.symm {a b:Nat}:Jnd lk a b→Jnd lk b a:=fun ⟨i,j,e,h1,h2⟩=>⟨j,i,e,h2,h1⟩
theorem Jnd.trans {a b c:Nat}:Jnd lk a b→Jnd lk b c→Jnd lk a c:=fun ⟨i,j,e,h1,h2⟩ ⟨i',j',e',h3,h4⟩=>by
 rcases h2.two h3 with ⟨k,h⟩ | ⟨k,h⟩
 ·exact ⟨_,_,e',h1.trans h,h4⟩
 ·exact ⟨_,_,e,h1,h4.trans h⟩
theorem Jnd.ext (x:Ybz lk lk') {a b:Nat}:Jnd lk a b→Jnd lk' a b:=fun ⟨i,j,e,h1,h2⟩=>⟨i,j,e,h1.ext x,h2.ext x⟩
theorem Jnd.of_path {k a e:Nat} (h:Pth lk k a e):Jnd lk a e:=⟨k,0,e,h,.refl⟩
theorem Jnd.end_ {a b k e:Nat} (h:Jnd lk a b) (hp:Pth lk k a e) (he:lk e=none):∃ j,Pth lk j b e:=by
 obtain ⟨i,j,m,h1,h2⟩:=h
 obtain ⟨q,hq⟩:=h1.to_end hp he
 exact ⟨_,h2.trans hq⟩
def lnk (lk:Nat→Option Nat) (a b:Nat):Nat→Option Nat:=fun n=>if n=a then some b else lk n
theorem Ybb {a b:Nat} (ha:lk a=none):Ybz lk (lnk lk a b):=fun n m h=>by
 unfold lnk
 rw [if_neg]; exact h
 rintro rfl; rw [ha] at h; cases h
def ub (N:List Nat) (lk:Nat→Option Nat):Nat:=N.countP fun n=>(lk n).isNone
theorem Ykj {N:List Nat} (x:Ybz lk lk'):ub N lk'≤ub N lk:=by
 unfold ub
 refine List.countP_mono_left fun n _ h=>?_
 simp only [Option.isNone_iff_eq_none] at h ⊢
 exact x.none h
theorem Yrj {N:List Nat} {a b:Nat} (hN:a∈N) (ha:lk a=none):ub N (lnk lk a b) < ub N lk:=by
 unfold ub
 induction N with
 | nil=>cases hN
 | cons n N ih=>
  have hm:N.countP (fun n=>(lnk lk a b n).isNone)≤N.countP fun n=>(lk n).isNone:=Ykj (Ybb ha)
  rw [List.countP_cons,List.countP_cons]
  by_cases e:n=a
  ·subst e
   simp only [lnk,if_true,Option.isNone_some,ha,Option.isNone_none,Bool.false_eq_true,if_false]
   unfold lnk at hm
   omega
  ·have:=ih ((List.mem_cons.1 hN).resolve_left fun h=>e h.symm)
   have h2:(lnk lk a b n).isNone=(lk n).isNone:=by simp [lnk,e]
   rw [h2]; omega
end
structure GOk (G:Gr) (N:List Nat) (lk:Nat→Option Nat):Prop where
 par:∀ n∈N,∀ p∈G.ps n,p∈N
 ar:∀ n∈N,arN (G.hd n)=((G.ps n).length:Int)
 lkN:∀ n m,n∈N→lk n=some m→m∈N
 end_ : ∀ n ∈ N, ∃ k e, Pth lk k n e ∧ lk e = none
section
variable {G:Gr} {N:List Nat} {lk lk':Nat→Option Nat}
theorem GOk.path (g:GOk G N lk) {k n e:Nat} (hn:n∈N) (h:Pth lk k n e):e∈N:=by
 induction h with
 | refl=>exact hn
 | step h1 _ ih=>exact ih (g.lkN _ _ hn h1)
theorem GOk.link (g:GOk G N lk) {a b:Nat} (hb:b∈N) (ha0:lk a=none) (hb0:lk b=none) (hne:a≠b):GOk G N (lnk lk a b):=by
 refine ⟨g.par,g.ar,fun n m hn h=>?_,fun n hn=>?_⟩
 ·unfold lnk at h
  by_cases e:n=a
  ·rw [if_pos e] at h; cases h; exact hb
  ·rw [if_neg e] at h; exact g.lkN n m hn h
 ·obtain ⟨k,e,hp,he⟩:=g.end_ n hn
  by_cases ea:e=a
  ·subst ea
   refine ⟨k + 1,b,(hp.ext (Ybb ha0)).trans (.step (by simp [lnk]) .refl),?_⟩
   simp only [lnk]; rw [if_neg fun e=>hne e.symm]; exact hb0
  ·exact ⟨k,e,hp.ext (Ybb ha0),by simp [lnk,ea,he]⟩
def Str (G:Gr) (N:List Nat) (val:Nat→Ty):Prop:=∀ n∈N,Zbd (G.hd n)=false→(val n).hd=G.hd n∧(val n).ps=(G.ps n).map val
def Rsp (N:List Nat) (lk:Nat→Option Nat) (val:Nat→Ty):Prop:=∀ n m,n∈N→lk n=some m→val n=val m
theorem Rsp.path (g:GOk G N lk) {val:Nat→Ty} (r:Rsp N lk val) {k n e:Nat} (hn:n∈N) (h:Pth lk k n e):val n=val e:=by
 induction h with
 | refl=>rfl
 | step h1 _ ih=>rw [r _ _ hn h1]; exact ih (g.lkN _ _ hn h1)
theorem Rsp.link {val:Nat→Ty} (r:Rsp N lk val) {a b:Nat} (h:val a=val b):Rsp N (lnk lk a b) val:=by
 intro n m hn hl
 unfold lnk at hl
 by_cases e:n=a
 ·rw [if_pos e] at hl; cases hl; rw [e]; exact h
 ·rw [if_neg e] at hl; exact r n m hn hl
def Ysx (G:Gr) (lk:Nat→Option Nat) (n m:Nat):Prop:=
 (Zbd (G.hd n)=false→G.hd m=G.hd n∧∀ (i p q:Nat),(G.ps n)[i]?=some p→(G.ps m)[i]?=some q→Jnd lk p q)∧(Zbd (G.hd n)=true→Zbd (G.hd m)=true→G.hd n≤G.hd m)
theorem Ysx.ext (x:Ybz lk lk') {n m:Nat} (h:Ysx G lk n m):Ysx G lk' n m:=⟨fun hv=>⟨(h.1 hv).1,fun i p q h1 h2=>((h.1 hv).2 i p q h1 h2).ext x⟩,h.2⟩
def Cls (G:Gr) (N:List Nat) (lk:Nat→Option Nat):Prop:=∀ n m,n∈N→lk n=some m→Ysx G lk n m
theorem Zwz {c:Nat} (h:Zbd c=true):arN c=0:=by unfold arN Zfs; rw [h]; simp
theorem GOk.var_ps (g:GOk G N lk) {n:Nat} (hn:n∈N) (hv:Zbd (G.hd n)=true):G.ps n=[]:=by
 have:=g.ar n hn; rw [Zwz hv] at this; exact List.eq_nil_of_length_eq_zero (by omega)
theorem Yvi (c:Nat):arN c≤2:=by
 unfold arN; split <;> try split
 all_goals try split
 all_goals omega
theorem GOk.ps_le (g:GOk G N lk) {n:Nat} (hn:n∈N):(G.ps n).length≤2:=by have:=g.ar n hn; have:=Yvi (G.hd n); omega
inductive VT (G:Gr) (lk:Nat→Option Nat) (nu:Nat→Nat):Nat→Ty→Prop
 | var {n e k:Nat}:Pth lk k n e→lk e=none→Zbd (G.hd e)=true→VT G lk nu n (.k (nu e))
 | cst {n e k:Nat}:Pth lk k n e→lk e=none→Zbd (G.hd e)=false→G.ps e=[]→VT G lk nu n (.k (G.hd e))
 | one {n e k p:Nat} {s:Ty}:Pth lk k n e→lk e=none→Zbd (G.hd e)=false→G.ps e=[p]→VT G lk nu p s→VT G lk nu n (.u (G.hd e) s)
 | two {n e k p q:Nat} {s t:Ty}:Pth lk k n e→lk e=none→Zbd (G.hd e)=false→G.ps e=[p,q]→VT G lk nu p s→VT G lk nu q t→VT G lk nu n (.w (G.hd e) s t)
variable {nu:Nat→Nat}
theorem VT.of_path {k n m:Nat} {t:Ty} (h:Pth lk k n m) (v:VT G lk nu m t):VT G lk nu n t:=by
 cases v with
 | var h1 h2 h3=>exact .var (h.trans h1) h2 h3
 | cst h1 h2 h3 h4=>exact .cst (h.trans h1) h2 h3 h4
 | one h1 h2 h3 h4 h5=>exact .one (h.trans h1) h2 h3 h4 h5
 | two h1 h2 h3 h4 h5 h6=>exact .two (h.trans h1) h2 h3 h4 h5 h6
theorem VT.to {k n m:Nat} {t:Ty} (h:Pth lk k n m) (v:VT G lk nu n t):VT G lk nu m t:=by
 cases v with
 | var h1 h2 h3=>obtain ⟨_,h⟩:=h.to_end h1 h2; exact .var h h2 h3
 | cst h1 h2 h3 h4=>obtain ⟨_,h⟩:=h.to_end h1 h2; exact .cst h h2 h3 h4
 | one h1 h2 h3 h4 h5=>obtain ⟨_,h⟩:=h.to_end h1 h2; exact .one h h2 h3 h4 h5
 | two h1 h2 h3 h4 h5 h6=>obtain ⟨_,h⟩:=h.to_end h1 h2; exact .two h h2 h3 h4 h5 h6
theorem VT.jnd {a b:Nat} {t:Ty} (h:Jnd lk a b) (v:VT G lk nu a t):VT G lk nu b t:=by
 obtain ⟨i,j,e,h1,h2⟩:=h
 exact (v.to h1).of_path h2
theorem VT.det {n:Nat} {t t':Ty} (v:VT G lk nu n t) (v':VT G lk nu n t'):t=t':=by
 induction v generalizing t' with
 | var h1 h2 h3=>
  cases v' with
  | var k1 k2 k3=>rw [h1.end_eq k1 h2 k2]
  | cst k1 k2 k3 k4=>have:=h1.end_eq k1 h2 k2; subst this; rw [h3] at k3; cases k3
  | one k1 k2 k3 k4=>have:=h1.end_eq k1 h2 k2; subst this; rw [h3] at k3; cases k3
  | two k1 k2 k3 k4=>have:=h1.end_eq k1 h2 k2; subst this; rw [h3] at k3; cases k3
 | cst h1 h2 h3 h4=>
  cases v' with
  | var k1 k2 k3=>have:=h1.end_eq k1 h2 k2; subst this; rw [h3] at k3; cases k3
  | cst k1 k2 k3 k4=>rw [h1.end_eq k1 h2 k2]
  | one k1 k2 k3 k4=>have:=h1.end_eq k1 h2 k2; subst this; rw [h4] at k4; cases k4
  | two k1 k2 k3 k4=>have:=h1.end_eq k1 h2 k2; subst this; rw [h4] at k4; cases k4
 | one h1 h2 h3 h4 h5 ih=>
  cases v' with
  | var k1 k2 k3=>have:=h1.end_eq k1 h2 k2; subst this; rw [h3] at k3; cases k3
  | cst k1 k2 k3 k4=>have:=h1.end_eq k1 h2 k2; subst this; rw [h4] at k4; cases k4
  | one k1 k2 k3 k4 k5=>have:=h1.end_eq k1 h2 k2; subst this; rw [h4] at k4; cases k4; rw [ih k5]
  | two k1 k2 k3 k4=>have:=h1.end_eq k1 h2 k2; subst this; rw [h4] at k4; cases k4
 | two h1 h2 h3 h4 h5 h6 ih1 ih2=>
  cases v' with
  | var k1 k2 k3=>have:=h1.end_eq k1 h2 k2; subst this; rw [h3] at k3; cases k3
  | cst k1 k2 k3 k4=>have:=h1.end_eq k1 h2 k2; subst this; rw [h4] at k4; cases k4
  | one k1 k2 k3 k4 k5=>have:=h1.end_eq k1 h2 k2; subst this; rw [h4] at k4; cases k4
  | two k1 k2 k3 k4 k5 k6=>have:=h1.end_eq k1 h2 k2; subst this; rw [h4] at k4; cases k4; rw [ih1 k5,ih2 k6]
theorem VT.make (g:GOk G N lk) {e:Nat} (hN:e∈N) (he:lk e=none) (h:∀ p∈G.ps e,∃ t,VT G lk nu p t):∃ t,VT G lk nu e t:=by
 cases hv:Zbd (G.hd e) with
 | true=>exact ⟨_,.var .refl he hv⟩
 | false=>
  have hl:=g.ps_le hN
  match hp:G.ps e,hl with
  | [],_=>exact ⟨_,.cst .refl he hv hp⟩
  | [p],_=>
   obtain ⟨s,hs⟩:=h p (by rw [hp]; simp)
   exact ⟨_,.one .refl he hv hp hs⟩
  | [p,q],_=>
   obtain ⟨s,hs⟩:=h p (by rw [hp]; simp)
   obtain ⟨t,ht⟩:=h q (by rw [hp]; simp)
   exact ⟨_,.two .refl he hv hp hs ht⟩
  | _ :: _ :: _ :: _,hl=>simp at hl
theorem VT.parts (g:GOk G N lk) (c:Cls G N lk) {n k e:Nat} (hp:Pth lk k n e) (he:lk e=none) (hn:n∈N) (hv:Zbd (G.hd n)=false) {t:Ty} (v:VT G lk nu n t) :
  t.hd=G.hd n∧t.ps.length=(G.ps n).length∧∀ (i p:Nat) (s:Ty),(G.ps n)[i]?=some p→t.ps[i]?=some s→VT G lk nu p s:=by
 induction hp with
 | @refl n=>
  cases v with
  | var k1 k2 k3=>have:=k1.at_end he; subst this; rw [hv] at k3; cases k3
  | cst k1 k2 k3 k4=>have:=k1.at_end he; subst this; exact ⟨rfl,by rw [k4]; rfl,fun i p s h _=>by rw [k4] at h; simp at h⟩
  | one k1 k2 k3 k4 k5=>
   have:=k1.at_end he; subst this
   refine ⟨rfl,by rw [k4]; rfl,fun i p s h h'=>?_⟩
   rw [k4] at h
   match i with
   | 0=>simp [Ty.ps] at h h'; subst h; subst h'; exact k5
   | i + 1=>simp at h
  | two k1 k2 k3 k4 k5 k6=>
   have:=k1.at_end he; subst this
   refine ⟨rfl,by rw [k4]; rfl,fun i p s h h'=>?_⟩
   rw [k4] at h
   match i with
   | 0=>simp [Ty.ps] at h h'; subst h; subst h'; exact k5
   | 1=>simp [Ty.ps] at h h'; subst h; subst h'; exact k6
   | i + 2=>simp at h
 | @step n m e k h1 h2 ih=>
  obtain ⟨h3,h4⟩:=(c n m hn h1).1 hv
  have hm:=g.lkN _ _ hn h1
  obtain ⟨i1,i2,i3⟩:=ih he hm (by rw [h3]; exact hv) (v.to (.step h1 .refl))
  have hl:(G.ps m).length=(G.ps n).length:=by have a:=g.ar n hn; have b:=g.ar m hm; rw [h3] at b; omega
  refine ⟨i1.trans h3,i2.trans hl,fun i p s h h'=>?_⟩
  have hi:i < (G.ps m).length:=by have:=(List.getElem?_eq_some_iff.1 h).1; omega
  have hq:=List.getElem?_eq_getElem hi
  exact (i3 i _ s hq h').jnd (h4 i p _ h hq).symm
inductive Raw (G:Gr) (nu:Nat→Nat):Nat→Ty→Prop
 | var {n:Nat}:Zbd (G.hd n)=true→Raw G nu n (.k (nu n))
 | cst {n:Nat}:Zbd (G.hd n)=false→G.ps n=[]→Raw G nu n (.k (G.hd n))
 | one {n p:Nat} {s:Ty}:Zbd (G.hd n)=false→G.ps n=[p]→Raw G nu p s→Raw G nu n (.u (G.hd n) s)
 | two {n p q:Nat} {s t:Ty}:Zbd (G.hd n)=false→G.ps n=[p,q]→Raw G nu p s→Raw G nu q t→Raw G nu n (.w (G.hd n) s t)
theorem Raw.det {n:Nat} {t t':Ty} (r:Raw G nu n t) (r':Raw G nu n t'):t=t':=by
 induction r generalizing t' with
 | var h=>cases r' with
  | var k=>rfl
  | cst k _=>rw [h] at k; cases k
  | one k _ _=>rw [h] at k; cases k
  | two k _ _ _=>rw [h] at k; cases k
 | cst h h1=>cases r' with
  | var k=>rw [h] at k; cases k
  | cst k _=>rfl
  | one k k1 _=>rw [h1] at k1; cases k1
  | two k k1 _ _=>rw [h1] at k1; cases k1
 | one h h1 _ ih=>cases r' with
  | var k=>rw [h] at k; cases k
  | cst k k1=>rw [h1] at k1; cases k1
  | one k k1 k2=>rw [h1] at k1; cases k1; rw [ih k2]
  | two k k1 _ _=>rw [h1] at k1; cases k1
 | two h h1 _ _ ih1 ih2=>cases r' with
  | var k=>rw [h] at k; cases k
  | cst k k1=>rw [h1] at k1; cases k1
  | one k k1 k2=>rw [h1] at k1; cases k1
  | two k k1 k2 k3=>rw [h1] at k1; cases k1; rw [ih1 k2,ih2 k3]
inductive Sub (G:Gr):Nat→Nat→Prop
 | refl {n:Nat}:Sub G n n
 | part {n p x:Nat}:p∈G.ps n→Sub G p x→Sub G n x
theorem VT.sub (g:GOk G N lk) (c:Cls G N lk) {n x:Nat} (h:Sub G n x):n∈N→∀ {t:Ty},VT G lk nu n t→∃ s,VT G lk nu x s:=by
 induction h with
 | refl=>exact fun _ t v=>⟨t,v⟩
 | @part n p x hp _ ih=>
  intro hn t v
  have hv:Zbd (G.hd n)=false:=by
   cases hv:Zbd (G.hd n) with
   | false=>rfl
   | true=>rw [g.var_ps hn hv] at hp; cases hp
  obtain ⟨k,e,h1,h2⟩:=g.end_ n hn
  obtain ⟨_,h4,h5⟩:=VT.parts g c h1 h2 hn hv v
  obtain ⟨i,hi⟩:=List.getElem?_of_mem hp
  have hl:=(List.getElem?_eq_some_iff.1 hi).1
  exact ih (g.par n hn p hp) (h5 i p _ hi (List.getElem?_eq_getElem (by omega)))
structure Yrc (G:Gr) (N:List Nat) (nu:Nat→Nat) (V:Nat→Bool):Prop where
 var:∀ n∈N,Zbd (G.hd n)=true→V (nu n)=true
 cst:∀ n∈N,Zbd (G.hd n)=false→V (G.hd n)=false
 inj:∀ n∈N,∀ m∈N,Zbd (G.hd n)=true→Zbd (G.hd m)=true→nu n=nu m→n=m
variable {V:Nat→Bool}
theorem Ytc {t:Ty} (h:t.ps.length=0):t=.k t.hd:=by cases t <;> simp [Ty.ps,Ty.hd] at *
theorem Yvy {t:Ty} (h:t.ps.length=1):∃ s,t.ps=[s]∧t=.u t.hd s:=by cases t <;> simp [Ty.ps,Ty.hd] at *
theorem Ywb {t:Ty} (h:t.ps.length=2):∃ s s',t.ps=[s,s']∧t=.w t.hd s s':=by cases t <;> simp [Ty.ps,Ty.hd] at *
theorem Raw.vt (g:GOk G N lk) (c:Cls G N lk) (nv:Yrc G N nu V) {F:Nat→Ty} (hF:∀ x∈N,Zbd (G.hd x)=true→∀ s,VT G lk nu x s→F (nu x)=s) {n:Nat} {t:Ty} (r:Raw G nu n t) :
  n∈N→∀ {s:Ty},VT G lk nu n s→s=sb V F t:=by
 induction r with
 | @var n h=>
  intro hn s v
  rw [sb,if_pos (nv.var n hn h),hF n hn h s v]
 | @cst n h h1=>
  intro hn s v
  obtain ⟨k,e,p1,p2⟩:=g.end_ n hn
  obtain ⟨a1,a2,_⟩:=VT.parts g c p1 p2 hn h v
  rw [h1] at a2
  rw [sb,if_neg (by rw [nv.cst n hn h]; simp),Ytc a2,a1]
 | @one n p s0 h h1 _ ih=>
  intro hn s v
  obtain ⟨k,e,p1,p2⟩:=g.end_ n hn
  obtain ⟨a1,a2,a3⟩:=VT.parts g c p1 p2 hn h v
  rw [h1] at a2 a3
  obtain ⟨s1,e1,e2⟩:=Yvy a2
  have:=ih (g.par n hn p (by rw [h1]; simp)) (a3 0 p s1 rfl (by rw [e1]; rfl))
  rw [e2,a1,sb,this]
 | @two n p q s0 t0 h h1 _ _ ih1 ih2=>
  intro hn s v
  obtain ⟨k,e,p1,p2⟩:=g.end_ n hn
  obtain ⟨a1,a2,a3⟩:=VT.parts g c p1 p2 hn h v
  rw [h1] at a2 a3
  obtain ⟨s1,s2,e1,e2⟩:=Ywb a2
  have i1:=ih1 (g.par n hn p (by rw [h1]; simp)) (a3 0 p s1 rfl (by rw [e1]; rfl))
  have i2:=ih2 (g.par n hn q (by rw [h1]; simp)) (a3 1 q s2 rfl (by rw [e1]; rfl))
  rw [e2,a1,sb,i1,i2]
theorem VT.val (g:GOk G N lk) (nv:Yrc G N nu V) {val θ:Nat→Ty} (hs:Str G N val) (hr:Rsp N lk val) (hv:∀ x∈N,Zbd (G.hd x)=true→val x=θ (nu x)) {n:Nat} {t:Ty} (v:VT G lk nu n t):n∈N→val n=sb V θ t:=by
 induction v with
 | @var n e k h1 h2 h3=>
  intro hn
  have he:=g.path hn h1
  rw [hr.path g hn h1,hv e he h3,sb,if_pos (nv.var e he h3)]
 | @cst n e k h1 h2 h3 h4=>
  intro hn
  have he:=g.path hn h1
  obtain ⟨a1,a2⟩:=hs e he h3
  rw [h4] at a2
  rw [hr.path g hn h1,sb,if_neg (by rw [nv.cst e he h3]; simp),Ytc (t:=val e) (by rw [a2]; rfl),a1]
 | @one n e k p s h1 h2 h3 h4 _ ih=>
  intro hn
  have he:=g.path hn h1
  obtain ⟨a1,a2⟩:=hs e he h3
  rw [h4] at a2
  obtain ⟨s1,e1,e2⟩:=Yvy (t:=val e) (by rw [a2]; rfl)
  rw [a2] at e1
  simp at e1
  rw [hr.path g hn h1,e2,a1,sb,← ih (g.par e he p (by rw [h4]; simp)),e1]
 | @two n e k p q s t h1 h2 h3 h4 _ _ ih1 ih2=>
  intro hn
  have he:=g.path hn h1
  obtain ⟨a1,a2⟩:=hs e he h3
  rw [h4] at a2
  obtain ⟨s1,s2,e1,e2⟩:=Ywb (t:=val e) (by rw [a2]; rfl)
  rw [a2] at e1
  simp at e1
  rw [hr.path g hn h1,e2,a1,sb,← ih1 (g.par e he p (by rw [h4]; simp)),← ih2 (g.par e he q (by rw [h4]; simp)),e1.1,e1.2]
open Classical in
noncomputable def Yna (G:Gr) (nu:Nat→Nat) (V:Nat→Bool) (θ:Nat→Ty) (n:Nat):Ty:=if h:∃ t,Raw G nu n t then sb V θ h.choose else .k 0
theorem Zlh {θ:Nat→Ty} {n:Nat} {t:Ty} (r:Raw G nu n t):Yna G nu V θ n=sb V θ t:=by
 have h:∃ t,Raw G nu n t:=⟨t,r⟩
 unfold Yna
 rw [dif_pos h,h.choose_spec.det r]
theorem Zzp (nv:Yrc G N nu V) (hr:∀ n∈N,∃ t,Raw G nu n t) (θ:Nat→Ty):Str G N (Yna G nu V θ):=by
 intro n hn hv
 obtain ⟨t,r⟩:=hr n hn
 rw [Zlh r]
 cases r with
 | var h=>rw [hv] at h; cases h
 | cst h h1=>rw [sb,if_neg (by rw [nv.cst n hn h]; simp),h1]; exact ⟨rfl,rfl⟩
 | one h h1 h2=>rw [h1]; exact ⟨rfl,by simp [sb,Ty.ps,Zlh h2]⟩
 | two h h1 h2 h3=>rw [h1]; exact ⟨rfl,by simp [sb,Ty.ps,Zlh h2,Zlh h3]⟩
open Classical in
noncomputable def grF (G:Gr) (N:List Nat) (lk:Nat→Option Nat) (nu:Nat→Nat) (c:Nat):Ty:=
 if h:∃ s,∃ x∈N,Zbd (G.hd x)=true∧nu x=c∧VT G lk nu x s then h.choose else .k c
theorem Yqo (nv:Yrc G N nu V) {x:Nat} (hx:x∈N) (hv:Zbd (G.hd x)=true) {s:Ty} (v:VT G lk nu x s):grF G N lk nu (nu x)=s:=by
 have h:∃ s,∃ y∈N,Zbd (G.hd y)=true∧nu y=nu x∧VT G lk nu y s:=⟨s,x,hx,hv,rfl,v⟩
 unfold grF
 rw [dif_pos h]
 obtain ⟨y,hy,hyv,he,v'⟩:=h.choose_spec
 have:=nv.inj y hy x hx hyv hv he
 subst this
 exact v'.det v
theorem Yso (g:GOk G N lk) (c:Cls G N lk) (nv:Yrc G N nu V) {a b:Nat} (ha:a∈N) (hb:b∈N) (hj:Jnd lk a b) {ta tb T:Ty} (ra:Raw G nu a ta) (rb:Raw G nu b tb) (v:VT G lk nu a T) :
  sb V (grF G N lk nu) ta=T∧sb V (grF G N lk nu) tb=T:=
 ⟨(ra.vt g c nv (fun x hx h s hs=>Yqo nv hx h hs) ha v).symm,(rb.vt g c nv (fun x hx h s hs=>Yqo nv hx h hs) hb (v.jnd hj)).symm⟩
theorem Ytx (g:GOk G N lk) {val:Nat→Ty} (hs:Str G N val) (hr:Rsp N lk val) {e p e' k:Nat} (he:e∈N) (hp:p∈G.ps e) (h:Pth lk k p e'):(val e').size < (val e).size:=by
 have hv:Zbd (G.hd e)=false:=by
  cases hv:Zbd (G.hd e) with
  | false=>rfl
  | true=>rw [g.var_ps he hv] at hp; cases hp
 obtain ⟨_,a2⟩:=hs e he hv
 rw [← hr.path g (g.par e he p hp) h]
 have hm:val p∈(val e).ps:=by rw [a2]; exact List.mem_map_of_mem hp
 generalize val p=s at hm
 generalize val e=t at hm
 cases t with
 | k c=>simp [Ty.ps] at hm
 | u c a=>simp [Ty.ps] at hm; subst hm; simp [Ty.size]
 | w c a b=>simp [Ty.ps] at hm; rcases hm with rfl | rfl <;> simp [Ty.size] <;> omega
end
end Go.Sim

set_option linter.unusedSimpArgs false
set_option linter.unusedVariables false
namespace Go.Sim

def Zhf:Ty→List Nat
 | .k c=>if Zbd c then [c] else []
 | .u c a=>Zhf a
 | .w c a b=>Zhf a ++ Zhf b
theorem Yrt {a t:Ty} (ha:a.ok=true) (ht:t.ok=true) (h:a.hd=t.hd) (hp:a.ps=t.ps):a=t:=by
 cases a <;> cases t <;> simp_all [Ty.hd,Ty.ps]
theorem Zpd {f g:Nat→Option Ty}:∀ {a:Ty},(∀ v∈Zhf a,f v=g v)→(∀ v,Zbd v=false→f v=none∧g v=none)→subst f a=subst g a
 | .k c,h,h0=>by
  simp only [subst]
  by_cases hv:Zbd c=true
  ·rw [h c (by simp [Zhf,hv])]
  ·obtain ⟨h1,h2⟩:=h0 c (by simpa using hv); rw [h1,h2]
 | .u c a,h,h0=>by simp only [subst]; rw [Zpd (a:=a) h h0]
 | .w c a b,h,h0=>by
  simp only [subst]
  rw [Zpd (a:=a) (fun v hv=>h v (by simp [Zhf,hv])) h0,Zpd (a:=b) (fun v hv=>h v (by simp [Zhf,hv])) h0]
structure Ywi (m m':Bd) (a t:Ty):Prop where
 keep:∀ v u,Zfl m v=some u→Zfl m' v=some u
 sub:subst (Zfl m') a=t
 vars:∀ v,(Zfl m' v).isSome=true ↔ ((Zfl m v).isSome=true ∨ v∈Zhf a)
theorem Yir {m m':Bd} (hk:∀ v u,Zfl m v=some u→Zfl m' v=some u) (hv:∀ v,Zbd v=false→Zfl m' v=none):∀ {a:Ty},(∀ v∈Zhf a,(Zfl m v).isSome=true)→subst (Zfl m') a=subst (Zfl m) a:=by
 intro a h
 refine Zpd (fun v hvv=>?_) (fun v hvv=>⟨hv v hvv,?_⟩)
 ·obtain ⟨u,hu⟩:=Option.isSome_iff_exists.1 (h v hvv)
  rw [hu,hk v u hu]
 ·cases hb:Zfl m v with
  | none=>rfl
  | some u=>have:=hk v u hb; rw [hv v hvv] at this; cases this
theorem BOk.novar {n:Nat} {m:Bd} (b:BOk n m):∀ v,Zbd v=false→Zfl m v=none:=by
 intro v hv
 cases h:Zfl m v with
 | none=>rfl
 | some t=>have:=(b.var _ (Zol h)).1; simp [hv] at this
theorem Zrq {n:Nat}:∀ {a t:Ty} {m m':Bd},a.ok=true→t.ok=true→t.txt.length≤n→BOk n m→matchT m a t=some m'→Ywi m m' a t
 | .k c,t,m,m',ha,ht,hn,b,h=>by
  simp only [matchT] at h
  split at h
  ·rename_i hv
   unfold Zno at h
   split at h
   ·rename_i u hu
    split at h
    ·rename_i he
     cases h; subst he
     refine ⟨fun v u h=>h,by simp [subst,hu],fun v=>?_⟩
     simp only [Zhf,hv,if_true,List.mem_singleton]
     constructor
     ·exact .inl
     ·rintro (h | rfl)
      ·exact h
      ·rw [hu]; rfl
    ·cases h
   ·rename_i hu
    cases h
    refine ⟨fun v u h=>by rw [Zrr,h],by simp [subst,Zrr,hu],fun v=>?_⟩
    simp only [Zrr,Zhf,hv,if_true,List.mem_singleton]
    cases hb:Zfl m v with
    | some u=>simp
    | none=>
     by_cases e:c=v
     ·subst e; simp
     ·have:¬ v=c:=fun e'=>e e'.symm
      simp [e,this]
  ·rename_i hv
   split at h
   ·rename_i he
    cases h
    have hc:Zfl m c=none:=b.novar c (by simpa using hv)
    refine ⟨fun v u h=>h,?_,fun v=>by simp [Zhf,hv]⟩
    simp only [subst,hc,Option.getD_none]
    have hl:=Yce ha ht (by simpa [Ty.hd] using he)
    refine Yrt ha ht (by simpa [Ty.hd] using he) ?_
    simp only [Ty.ps,List.length_nil] at hl ⊢
    exact (List.eq_nil_of_length_eq_zero hl.symm).symm
   ·cases h
 | .u c a,t,m,m',ha,ht,hn,b,h=>by
  have ha':=ha
  simp only [Ty.ok,Bool.and_eq_true] at ha
  simp only [matchT] at h
  split at h
  ·rename_i he
   split at h
   ·rename_i x hx
    have hm:x∈t.ps:=by rw [hx]; simp
    have o:=Zrq ha.2 (Ty.ok_ps ht x hm) (Nat.le_trans (Znf hm) hn) b h
    refine ⟨o.keep,?_,o.vars⟩
    simp only [subst,o.sub]
    cases t <;> simp_all [Ty.hd,Ty.ps]
   ·cases h
  ·cases h
 | .w c a a2,t,m,m',ha,ht,hn,b,h=>by
  simp only [Ty.ok,Bool.and_eq_true] at ha
  simp only [matchT] at h
  split at h
  ·rename_i he
   split at h
   ·rename_i x y hx
    have hm:x∈t.ps:=by rw [hx]; simp
    have hm2:y∈t.ps:=by rw [hx]; simp
    split at h
    ·rename_i m1 h1
     have b1:=BOk.matchT ha.1.2 (Ty.ok_ps ht x hm) (Nat.le_trans (Znf hm) hn) b h1
     have b2:=BOk.matchT ha.2 (Ty.ok_ps ht y hm2) (Nat.le_trans (Znf hm2) hn) b1 h
     have o1:=Zrq ha.1.2 (Ty.ok_ps ht x hm) (Nat.le_trans (Znf hm) hn) b h1
     have o2:=Zrq ha.2 (Ty.ok_ps ht y hm2) (Nat.le_trans (Znf hm2) hn) b1 h
     refine ⟨fun v u hv=>o2.keep v u (o1.keep v u hv),?_,fun v=>?_⟩
     ·have hs:subst (Zfl m') a=x:=by
       rw [Yir o2.keep b2.novar (fun v hv=>(o1.vars v).2 (.inr hv)),o1.sub]
      simp only [subst,hs,o2.sub]
      cases t <;> simp_all [Ty.hd,Ty.ps]
     ·rw [o2.vars,o1.vars]; simp [Zhf,or_assoc]
    ·cases h
   ·cases h
  ·cases h
theorem Ydj {a:Ty} (h:a.ok=true) (v:Nat) (hv:Zbd v=true):v∈a.txt ↔ v∈Zhf a:=by
 have h40:¬ v=40:=fun e=>by subst e; simp [Zbd] at hv
 have h41:¬ v=41:=fun e=>by subst e; simp [Zbd] at hv
 have h44:¬ v=44:=fun e=>by subst e; simp [Zbd] at hv
 induction a with
 | k c=>
  simp only [Ty.txt,Zhf,List.mem_singleton]
  constructor
  ·rintro rfl; simp [hv]
  ·intro h; split at h
   ·simpa using h
   ·cases h
 | u c a ih=>
  have hc:=Yrn h
  have:¬ v=c:=fun e=>by subst e; simp [hv] at hc
  simp only [Ty.ok,Bool.and_eq_true] at h
  simp only [Ty.txt,Zhf,List.mem_cons,List.mem_append,this,h40,h41,false_or,List.not_mem_nil,or_false]
  exact ih h.2
 | w c a b iha ihb=>
  have hc:=Yrh h
  have:¬ v=c:=fun e=>by subst e; simp [hv] at hc
  simp only [Ty.ok,Bool.and_eq_true] at h
  simp only [Ty.txt,Zhf,List.mem_cons,List.mem_append,this,h40,h41,h44,false_or,List.not_mem_nil,or_false]
  exact or_congr (iha h.1.2) (ihb h.2)
end Go.Sim

set_option linter.unusedSimpArgs false
set_option linter.unusedVariables false
namespace Go.Sim

structure Ypl (f:Nat→Option Ty):Prop where
 nv:∀ v,Zbd v=false→f v=none
 ok:∀ v t,f v=some t→t.ok=true
theorem Zvx {f:Nat→Option Ty} (hf:Ypl f):∀ {a:Ty},a.ok=true→(subst f a).ok=true
 | .k c,h=>by
  simp only [subst]
  cases hb:f c with
  | none=>exact h
  | some t=>exact hf.ok c t hb
 | .u c a,h=>by
  simp only [Ty.ok,Bool.and_eq_true] at h
  simp only [subst,Ty.ok,Bool.and_eq_true]; exact ⟨h.1,Zvx hf h.2⟩
 | .w c a b,h=>by
  simp only [Ty.ok,Bool.and_eq_true] at h
  simp only [subst,Ty.ok,Bool.and_eq_true]; exact ⟨⟨h.1.1,Zvx hf h.1.2⟩,Zvx hf h.2⟩
theorem Zpg {f:Nat→Option Ty} (hf:Ypl f) (hall:∀ v,Zbd v=true→(f v).isSome=true):∀ {a:Ty} {m:Bd},a.ok=true→(∀ v u,Zfl m v=some u→f v=some u)→∃ m',matchT m a (subst f a)=some m'∧∀ v u,Zfl m' v=some u→f v=some u
 | .k c,m,ha,hm=>by
  simp only [matchT,subst]
  by_cases hv:Zbd c=true
  ·obtain ⟨t,ht⟩:=Option.isSome_iff_exists.1 (hall c hv)
   rw [if_pos hv,ht,Option.getD_some]
   unfold Zno
   cases hb:Zfl m c with
   | some u=>
    have:=hm c u hb
    rw [ht] at this; cases this
    exact ⟨m,by simp,hm⟩
   | none=>
    refine ⟨_,rfl,fun v u h=>?_⟩
    rw [Zrr] at h
    cases hb2:Zfl m v with
    | some x=>rw [hb2] at h; cases h; exact hm v _ hb2
    | none=>
     rw [hb2] at h
     simp only at h
     split at h
     ·rename_i e; subst e; cases h; exact ht
     ·cases h
  ·have hn:=hf.nv c (by simpa using hv)
   refine ⟨m,?_,hm⟩
   simp [hv,hn,Ty.hd]
 | .u c a,m,ha,hm=>by
  simp only [Ty.ok,Bool.and_eq_true] at ha
  simp only [matchT,subst,Ty.hd,Ty.ps,if_true]
  exact Zpg hf hall ha.2 hm
 | .w c a b,m,ha,hm=>by
  simp only [Ty.ok,Bool.and_eq_true] at ha
  simp only [matchT,subst,Ty.hd,Ty.ps,if_true]
  obtain ⟨m1,h1,hm1⟩:=Zpg hf hall ha.1.2 hm
  rw [h1]
  exact Zpg hf hall ha.2 hm1
def Yip (f:Nat→Option Ty) (v:Nat):Option Ty:=if Zbd v then some ((f v).getD (.k v)) else none
theorem Ype {f:Nat→Option Ty} (hf:∀ v t,f v=some t→t.ok=true):Ypl (Yip f):=by
 refine ⟨fun v hv=>by simp [Yip,hv],fun v t h=>?_⟩
 unfold Yip at h
 split at h
 ·rename_i hv
  cases h
  cases hb:f v with
  | none=>simp only [Option.getD_none,Ty.ok,Zfs,hv,Bool.or_true]
  | some u=>exact hf v u hb
 ·cases h
theorem Zou {f:Nat→Option Ty} (h0:∀ v,Zbd v=false→f v=none):∀ (a:Ty),subst (Yip f) a=subst f a
 | .k c=>by
  simp only [subst,Yip]
  by_cases hv:Zbd c=true
  ·rw [if_pos hv]; rfl
  ·rw [if_neg hv,h0 c (by simpa using hv)]
 | .u c a=>by simp only [subst,Zou h0 a]
 | .w c a b=>by simp only [subst,Zou h0 a,Zou h0 b]
theorem Ycb {p s:List Nat} {a t:Ty} (ha:Zgv p=some a) (ht:Zgv s=some t):Zmx p s=true ↔ ∃ f,Ypl f∧subst f a=t:=by
 obtain ⟨h1,h2,h3⟩:=Zec.1 ha
 obtain ⟨h4,h5,h6⟩:=Zec.1 ht
 have hms:Zkz p s=matchT [] a t:=by unfold Zkz; rw [ha,ht]
 unfold Zmx
 rw [hms]
 constructor
 ·intro h
  obtain ⟨m,hm⟩:=Option.isSome_iff_exists.1 h
  have b:=BOk.matchT h1 h4 (by rw [← h5]; exact h6) BOk.nil hm
  have o:=Zrq h1 h4 (by rw [← h5]; exact h6) BOk.nil hm
  exact ⟨Zfl m,⟨b.novar,fun v t h=>(b.var _ (Zol h)).2.1⟩,o.sub⟩
 ·rintro ⟨f,hf,rfl⟩
  obtain ⟨m,hm,_⟩:=Zpg (Ype hf.ok) (fun v hv=>by simp [Yip,hv]) h1 (m:=[]) (fun v u h=>by simp [Zfl] at h)
  rw [Zou hf.nv] at hm
  rw [hm]; rfl
theorem Zvw {p s:List Nat} (h:Zmx p s=true):Zkg p=true∧Zkg s=true:=by
 unfold Zmx Zkz at h
 split at h
 ·rename_i a t ha ht; exact ⟨Zqe ha,Zqe ht⟩
 ·cases h
theorem Zvy:∀ (a:Ty),subst (fun _=>none) a=a
 | .k c=>rfl
 | .u c a=>by simp only [subst,Zvy a]
 | .w c a b=>by simp only [subst,Zvy a,Zvy b]
theorem Yiz {p:List Nat} (h:Zkg p=true):Zmx p p=true:=by
 obtain ⟨a,ha⟩:=Zle h
 exact (Ycb ha ha).2 ⟨fun _=>none,⟨fun _ _=>rfl,fun _ _ h=>by cases h⟩,Zvy a⟩
noncomputable def after (f g:Nat→Option Ty) (v:Nat):Option Ty:=if Zbd v then some (subst g ((f v).getD (.k v))) else none
end Go.Sim

set_option linter.unusedSimpArgs false
set_option linter.unusedVariables false
namespace Go.Sim

end Go.Sim

set_option linter.unusedSimpArgs false
set_option linter.unusedVariables false
namespace Go.Sim
theorem Ztc:∀ {a:Ty} {v:Nat},v∈Zhf a→Zbd v=true
 | .k c,v,h=>by
  simp only [Zhf] at h
  split at h
  ·rename_i hc; simp at h; subst h; exact hc
  ·cases h
 | .u c a,v,h=>Ztc (a:=a) h
 | .w c a b,v,h=>by
  simp only [Zhf,List.mem_append] at h
  rcases h with h | h
  ·exact Ztc h
  ·exact Ztc h
theorem Yns {s:List Nat} {t:Ty} (h:Zgv s=some t) {v:Nat}:v∈Zjy s ↔ v∈Zhf t:=by
 obtain ⟨h1,h2,h3⟩:=Zec.1 h
 unfold Zjy
 rw [List.mem_filter,Ztq,decide_eq_true_eq,h2]
 constructor
 ·rintro ⟨hv,hm⟩; exact (Ydj h1 v hv).1 hm
 ·intro hm; have hv:=Ztc hm; exact ⟨hv,(Ydj h1 v hv).2 hm⟩
end Go.Sim

set_option linter.unusedSimpArgs false
set_option linter.unusedVariables false
namespace Go.Sim

def Yvf (a b:Ty) (F:Nat→Ty):Prop:=MGU Zbd (fun c=>c) (fun θ=>sb Zbd θ a=sb Zbd θ b) F∧∀ v,Zbd v=true→(F v).ok=true
theorem Yvf.symm {a b:Ty} {F:Nat→Ty} (h:Yvf a b F):Yvf b a F:=⟨⟨h.1.sol.symm,fun θ hs=>h.1.gen θ hs.symm,h.1.inc,h.1.out⟩,h.2⟩
theorem Ztj {v:Nat} (hv:Zbd v=true):∀ {t:Ty},occ v t=true ↔ v∈Zhf t
 | .k c=>by
  simp only [occ,decide_eq_true_eq,Zhf]
  constructor
  ·rintro rfl; simp [hv]
  ·intro h; split at h
   ·rw [List.mem_singleton] at h; exact h.symm
   ·cases h
 | .u c a=>by simp only [occ,Zhf]; exact Ztj hv
 | .w c a b=>by simp only [occ,Zhf,Bool.or_eq_true,List.mem_append,Ztj hv (t:=a),Ztj hv (t:=b)]
theorem Ypu (θ:Nat→Ty):∀ (a:Ty),sb Zbd θ a=subst (fun c=>if Zbd c=true∧c∈Zhf a then some (θ c) else none) a:=by
 have key:∀ (a:Ty) (p:Nat→Prop) [DecidablePred p],(∀ c∈Zhf a,p c)→sb Zbd θ a=subst (fun c=>if Zbd c=true∧p c then some (θ c) else none) a:=by
  intro a
  induction a with
  | k c=>
   intro p _ hp
   simp only [sb,subst]
   by_cases hv:Zbd c=true
   ·have:=hp c (by simp [Zhf,hv]); simp [hv,this]
   ·simp [hv]
  | u c a ih=>intro p _ hp; simp only [sb,subst]; rw [ih p hp]
  | w c a b iha ihb=>intro p _ hp; simp only [sb,subst]; rw [iha p fun c hc=>hp c (by simp [Zhf,hc]),ihb p fun c hc=>hp c (by simp [Zhf,hc])]
 exact fun a=>key a (fun c=>c∈Zhf a) fun c h=>h
theorem Zrl {θ:Nat→Ty}:∀ {a:Ty},(sb Zbd θ a).ok=true→∀ c∈Zhf a,(θ c).ok=true
 | .k d,h,c,hc=>by
  simp only [Zhf] at hc
  split at hc
  ·rename_i hv; simp at hc; subst hc; simpa [sb,hv] using h
  ·cases hc
 | .u d a,h,c,hc=>by simp only [sb,Ty.ok,Bool.and_eq_true] at h; exact Zrl h.2 c hc
 | .w d a b,h,c,hc=>by
  simp only [sb,Ty.ok,Bool.and_eq_true] at h
  simp only [Zhf,List.mem_append] at hc
  rcases hc with hc | hc
  ·exact Zrl h.1.2 c hc
  ·exact Zrl h.2 c hc
theorem Yav {p s:List Nat} {a t:Ty} (ha:Zgv p=some a) (ht:Zgv s=some t):Zmx p s=true ↔ ∃ θ,sb Zbd θ a=t:=by
 rw [Ycb ha ht]
 constructor
 ·rintro ⟨f,hf,rfl⟩
  refine ⟨fun c=>(f c).getD (.k c),?_⟩
  have:∀ a:Ty,sb Zbd (fun c=>(f c).getD (.k c)) a=subst f a:=by
   intro a
   induction a with
   | k c=>
    simp only [sb,subst]
    by_cases hv:Zbd c=true
    ·simp [hv]
    ·rw [hf.nv c (by simpa using hv)]; simp [hv]
   | u c a ih=>simp only [sb,subst,ih]
   | w c a b iha ihb=>simp only [sb,subst,iha,ihb]
  exact this a
 ·rintro ⟨θ,rfl⟩
  refine ⟨_,⟨fun v hv=>by simp [hv],fun v u h=>?_⟩,(Ypu θ a).symm⟩
  split at h
  ·rename_i hc; cases h; exact Zrl (Zec.1 ht).1 v hc.2
  ·cases h
open Classical in
noncomputable def Zir (s t:List Nat):Bool:=match Zgv s,Zgv t with | some a,some b=>decide (¬ ∃ f g:Nat→Ty,sb Zbd f a=sb Zbd g b) | _,_=>false
theorem Yhh {s t:List Nat} {a b:Ty} (ha:Zgv s=some a) (hb:Zgv t=some b):Zir s t=false ↔ ∃ f g:Nat→Ty,sb Zbd f a=sb Zbd g b:=by
 unfold Zir; rw [ha,hb]; simp
theorem Zwj {s t:List Nat} (h:(Zkg s && Zkg t)=false):Zir s t=false:=by
 unfold Zir
 split
 ·rename_i a b ha hb; rw [Zqe ha,Zqe hb] at h; cases h
 ·rfl
theorem Yjb {s t u:List Nat} (h1:Zmx s u=true) (h2:Zmx t u=true):Zir s t=false:=by
 obtain ⟨a,ha⟩:=Zle (Zvw h1).1
 obtain ⟨b,hb⟩:=Zle (Zvw h2).1
 obtain ⟨c,hc⟩:=Zle (Zvw h1).2
 obtain ⟨f,hf⟩:=(Yav ha hc).1 h1
 obtain ⟨g,hg⟩:=(Yav hb hc).1 h2
 exact (Yhh ha hb).2 ⟨f,g,hf.trans hg.symm⟩
theorem Zuf {s t:List Nat} (h:Zmx s t=true):Zir s t=false:=Yjb h (Yiz (Zvw h).2)
theorem Ymh (θ:Nat→Ty) {b:Ty} (h:Zhf b=[]):sb Zbd θ b=b:=by
 conv=>rhs; rw [← Yih (V:=Zbd) b]
 refine Znb fun c hc ho=>?_
 rw [Ztj hc,h] at ho; cases ho
theorem Zyv {s t:List Nat} (hs:Zkg s=true) (ht:Zkg t=true) (hg:Zjy t=[]) (h:Zir s t=false):Zmx s t=true:=by
 obtain ⟨a,ha⟩:=Zle hs
 obtain ⟨b,hb⟩:=Zle ht
 obtain ⟨f,g,he⟩:=(Yhh ha hb).1 h
 have h0:Zhf b=[]:=List.eq_nil_iff_forall_not_mem.2 fun v hv=>by
  have:=(Yns hb).2 hv; rw [hg] at this; cases this
 rw [Ymh g h0] at he
 exact (Yav ha hb).2 ⟨f,he⟩
end Go.Sim

set_option linter.unusedSimpArgs false
set_option linter.unusedVariables false
namespace Go.Sim
def Yib (c:Nat):Nat:=if c < 100 then c - 88 + 49 else c - 120 + 52
def Ysu (d:Nat):Nat:=if d < 52 then d - 49 + 88 else d - 52 + 120
def Zvr (c:Nat):Bool:=decide (49≤c∧c≤54)
def V12 (c:Nat):Bool:=Zbd c || Zvr c
theorem Zmc (c:Nat):Zbd c=true ↔ (88≤c∧c≤90) ∨ (120≤c∧c≤122):=by simp [Zbd]; omega
theorem Zpj {c:Nat} (h:Zbd c=true):Ysu (Yib c)=c∧Zvr (Yib c)=true∧Zbd (Yib c)=false:=by
 rw [Zmc] at h
 unfold Yib
 split
 ·refine ⟨by unfold Ysu; split <;> omega,by unfold Zvr; simp; omega,?_⟩
  cases hv:Zbd (c - 88 + 49) with
  | false=>rfl
  | true=>rw [Zmc] at hv; omega
 ·refine ⟨by unfold Ysu; split <;> omega,by unfold Zvr; simp; omega,?_⟩
  cases hv:Zbd (c - 120 + 52) with
  | false=>rfl
  | true=>rw [Zmc] at hv; omega
theorem Yrq {c d:Nat} (hc:Zbd c=true) (hd:Zbd d=true) (h:Yib c=Yib d):c=d:=by rw [← (Zpj hc).1,← (Zpj hd).1,h]
theorem Ycg {c:Nat} (h:Zfs c=true):Zvr c=false:=by
 unfold Zfs at h
 simp only [Bool.or_eq_true,beq_iff_eq,Zmc] at h
 unfold Zvr
 simp; omega
def Zsh:Ty→Ty
 | .k c=>.k (if Zbd c then Yib c else c)
 | .u c a=>.u c (Zsh a)
 | .w c a b=>.w c (Zsh a) (Zsh b)
theorem Ycc (θ:Nat→Ty):∀ {a:Ty},a.ok=true→sb V12 θ a=sb Zbd θ a
 | .k c,h=>by
  simp only [Ty.ok] at h
  simp only [sb,V12,Ycg h,Bool.or_false]
 | .u c a,h=>by simp only [Ty.ok,Bool.and_eq_true] at h; simp only [sb,Ycc θ h.2]
 | .w c a b,h=>by simp only [Ty.ok,Bool.and_eq_true] at h; simp only [sb,Ycc θ h.1.2,Ycc θ h.2]
theorem Ydg (θ:Nat→Ty):∀ {a:Ty},a.ok=true→sb V12 θ (Zsh a)=sb Zbd (fun c=>θ (Yib c)) a
 | .k c,h=>by
  simp only [Ty.ok] at h
  simp only [Zsh,sb]
  by_cases hv:Zbd c=true
  ·rw [if_pos hv,if_pos hv,if_pos (by simp [V12,(Zpj hv).2.1])]
  ·rw [if_neg hv,if_neg hv,if_neg (by simp [V12,Ycg h]; simpa using hv)]
 | .u c a,h=>by simp only [Ty.ok,Bool.and_eq_true] at h; simp only [Zsh,sb,Ydg θ h.2]
 | .w c a b,h=>by simp only [Ty.ok,Bool.and_eq_true] at h; simp only [Zsh,sb,Ydg θ h.1.2,Ydg θ h.2]
theorem Ygx {a b:Ty} (ha:a.ok=true) (hb:b.ok=true):(∃ θ:Nat→Ty,sb V12 θ a=sb V12 θ (Zsh b)) ↔ ∃ f g:Nat→Ty,sb Zbd f a=sb Zbd g b:=by
 constructor
 ·rintro ⟨θ,h⟩
  rw [Ycc θ ha,Ydg θ hb] at h
  exact ⟨_,_,h⟩
 ·rintro ⟨f,g,h⟩
  refine ⟨fun c=>if Zbd c=true then f c else g (Ysu c),?_⟩
  rw [Ycc _ ha,Ydg _ hb]
  have e1:sb Zbd (fun c=>if Zbd c=true then f c else g (Ysu c)) a=sb Zbd f a:=Znb fun c hv _=>by simp [hv]
  have e2:sb Zbd (fun c=>(fun c=>if Zbd c=true then f c else g (Ysu c)) (Yib c)) b=sb Zbd g b:=Znb fun c hv _=>by simp [(Zpj hv).2.2,(Zpj hv).1]
  rw [e1,e2,h]
end Go.Sim

set_option linter.unusedSimpArgs false
set_option linter.unusedVariables false
namespace Go.Sim
def okL (lf:Nat→Bool):Ty→Bool
 | .k c=>lf c
 | .u c a=>(c == 108 || c == 109) && okL lf a
 | .w c a b=>c == 112 && okL lf a && okL lf b
theorem Ygr:∀ {t:Ty},okL Zfs t=t.ok
 | .k c=>rfl
 | .u c a=>by simp only [okL,Ty.ok,Ygr (t:=a)]
 | .w c a b=>by simp only [okL,Ty.ok,Ygr (t:=a),Ygr (t:=b)]
def Ztl (c:Nat):Bool:=Zfs c || Zvr c
theorem Zwe {lf lf':Nat→Bool} (h:∀ c,lf c=true→lf' c=true):∀ {t:Ty},okL lf t=true→okL lf' t=true
 | .k c,ht=>h c ht
 | .u c a,ht=>by simp only [okL,Bool.and_eq_true] at ht ⊢; exact ⟨ht.1,Zwe h ht.2⟩
 | .w c a b,ht=>by simp only [okL,Bool.and_eq_true] at ht ⊢; exact ⟨⟨ht.1.1,Zwe h ht.1.2⟩,Zwe h ht.2⟩
theorem Yal:∀ {t:Ty},t.ok=true→okL Ztl (Zsh t)=true
 | .k c,ht=>by
  simp only [Ty.ok] at ht
  simp only [Zsh,okL,Ztl]
  by_cases hv:Zbd c=true
  ·rw [if_pos hv,(Zpj hv).2.1,Bool.or_true]
  ·rw [if_neg hv,ht,Bool.true_or]
 | .u c a,ht=>by simp only [Ty.ok,Bool.and_eq_true] at ht; simp only [Zsh,okL,Bool.and_eq_true]; exact ⟨ht.1,Yal ht.2⟩
 | .w c a b,ht=>by simp only [Ty.ok,Bool.and_eq_true] at ht; simp only [Zsh,okL,Bool.and_eq_true]; exact ⟨⟨ht.1.1,Yal ht.1.2⟩,Yal ht.2⟩
section
variable {V lf:Nat→Bool}
theorem Ykw {t:Ty} (h:okL lf t=true):∀ p∈t.ps,okL lf p=true:=by
 cases t with
 | k c=>simp [Ty.ps]
 | u c a=>simp only [okL,Bool.and_eq_true] at h; intro p hp; simp [Ty.ps] at hp; subst hp; exact h.2
 | w c a b=>simp only [okL,Bool.and_eq_true] at h; intro p hp; simp [Ty.ps] at hp; rcases hp with rfl | rfl; exact h.1.2; exact h.2
def unb (L:List Nat) (σ:Nat→Option Ty):Nat:=L.countP fun v=>(σ v).isNone
theorem Yrp {L:List Nat} {σ:Nat→Option Ty} {x:Nat} {b:Ty} (hx:σ x=none) (hL:x∈L):unb L (upd σ x b) < unb L σ:=by
 unfold unb
 induction L with
 | nil=>cases hL
 | cons n N ih=>
  have hm:N.countP (fun v=>(upd σ x b v).isNone)≤N.countP fun v=>(σ v).isNone:=List.countP_mono_left fun v _ h=>by
   unfold upd at h
   split at h
   ·cases h
   ·exact h
  rw [List.countP_cons,List.countP_cons]
  by_cases e:n=x
  ·subst e
   have:(upd σ n b n).isNone=false:=by simp [upd]
   rw [this,hx]; simp; omega
  ·have:=ih ((List.mem_cons.1 hL).resolve_left fun h=>e h.symm)
   have h2:(upd σ x b n).isNone=(σ n).isNone:=by simp [upd,e]
   rw [h2]; omega
theorem Wlk.end_in {σ:Nat→Option Ty} {n:Nat} {s t:Ty} (h:Wlk σ n s t):t=s ∨ ∃ c,σ c=some t:=by
 induction h with
 | stop=>exact .inl rfl
 | @step c n u t h1 _ ih=>
  rcases ih with h | h
  ·exact .inr ⟨c,by rw [h]; exact h1⟩
  ·exact .inr h
end
end Go.Sim

set_option linter.unusedSimpArgs false
set_option linter.unusedVariables false
namespace Go.Sim
section
variable {V lf:Nat→Bool} {σ:Nat→Option Ty} {F:Nat→Ty}
theorem Rsv.free (r:Rsv V σ F) {c:Nat} (hc:V c=true):F c=.k c ↔ σ c=none:=by
 constructor
 ·intro h
  obtain ⟨n,t,hw⟩:=r.wlk c
  have hF:F c=sb V F t:=by have:=hw.sbF r; rw [sb,if_pos hc] at this; exact this
  cases t with
  | k x=>
   have hx:=hw.end_ x rfl
   rw [hF,r.var hx] at h
   cases h; exact hx
  | u x a=>rw [hF] at h; simp [sb] at h
  | w x a b=>rw [hF] at h; simp [sb] at h
 ·exact r.non c
theorem Rsv.walked (r:Rsv V σ F) (P:Ty→Prop) (hσ:∀ c t,σ c=some t→P t) {t:Ty} (ht:P t):∃ n t',Wlk σ n t t'∧P t'∧sb V F t=sb V F t':=by
 obtain ⟨n,t',hw⟩:=r.walk t
 refine ⟨n,t',hw,?_,hw.sbF r⟩
 rcases hw.end_in with h | ⟨d,h⟩
 ·rw [h]; exact ht
 ·exact hσ d t' h
theorem Yrg {θ:Nat→Ty} {t:Ty} (h:t.ps≠[] ∨ V t.hd=false):(sb V θ t).hd=t.hd∧(sb V θ t).ps=t.ps.map (sb V θ):=by
 cases t with
 | k c=>
  have:V c=false:=h.resolve_left (by simp [Ty.ps])
  simp [sb,this,Ty.hd,Ty.ps]
 | u c a=>simp [sb,Ty.hd,Ty.ps]
 | w c a b=>simp [sb,Ty.hd,Ty.ps]
theorem Yov {θ:Nat→Ty} {a b:Ty} (ha:a.ps≠[] ∨ V a.hd=false) (hb:b.ps≠[] ∨ V b.hd=false) (hh:a.hd=b.hd) (hl:a.ps.length=b.ps.length) :
  sb V θ a=sb V θ b ↔ ∀ (i:Nat) (p q:Ty),a.ps[i]?=some p→b.ps[i]?=some q→sb V θ p=sb V θ q:=by
 cases a with
 | k c=>
  have hb0:b.ps=[]:=List.eq_nil_of_length_eq_zero (by rw [← hl]; rfl)
  have hb1:b=.k c:=by cases b with
   | k d=>simp [Ty.hd] at hh; rw [hh]
   | u d x=>simp [Ty.ps] at hb0
   | w d x y=>simp [Ty.ps] at hb0
  subst hb1
  exact ⟨fun _ i p q h=>by simp [Ty.ps] at h,fun _=>rfl⟩
 | u c x=>
  cases b with
  | k d=>simp [Ty.ps] at hl
  | u d y=>
   simp [Ty.hd] at hh; subst hh
   simp only [sb,Ty.u.injEq,true_and]
   constructor
   ·intro h i p q h1 h2
    match i with
    | 0=>simp [Ty.ps] at h1 h2; subst h1; subst h2; exact h
    | i + 1=>simp [Ty.ps] at h1
   ·intro h; exact h 0 x y rfl rfl
  | w d y z=>simp [Ty.ps] at hl
 | w c x x'=>
  cases b with
  | k d=>simp [Ty.ps] at hl
  | u d y=>simp [Ty.ps] at hl
  | w d y y'=>
   simp [Ty.hd] at hh; subst hh
   simp only [sb,Ty.w.injEq,true_and]
   constructor
   ·intro h i p q h1 h2
    match i with
    | 0=>simp [Ty.ps] at h1 h2; subst h1; subst h2; exact h.1
    | 1=>simp [Ty.ps] at h1 h2; subst h1; subst h2; exact h.2
    | i + 2=>simp [Ty.ps] at h1
   ·intro h; exact ⟨h 0 x y rfl rfl,h 1 x' y' rfl rfl⟩
theorem Yoa {θ:Nat→Ty} {a b:Ty} (ha:a.ps≠[] ∨ V a.hd=false) (hb:b.ps≠[] ∨ V b.hd=false) (hh:a.hd≠b.hd):sb V θ a≠sb V θ b:=by
 intro h
 have h1:=(Yrg (θ:=θ) ha).1
 rw [h,(Yrg hb).1] at h1
 exact hh h1.symm
theorem Yee {v:Nat} {t:Ty} (ht:t.ps≠[] ∨ V t.hd=false) (hv:V v=true) (θ:Nat→Ty):occ v (sb V θ t)=t.ps.any fun p=>occ v (sb V θ p):=by
 cases t with
 | k c=>
  have:V c=false:=ht.resolve_left (by simp [Ty.ps])
  have hne:c≠v:=fun e=>by rw [e,hv] at this; cases this
  simp [sb,this,occ,Ty.ps,hne]
 | u c a=>simp [sb,occ,Ty.ps]
 | w c a b=>simp [sb,occ,Ty.ps]
theorem Zqc {t p:Ty} (hp:p∈t.ps) (θ:Nat→Ty):(sb V θ p).size < (sb V θ t).size:=by
 cases t with
 | k c=>simp [Ty.ps] at hp
 | u c a=>simp [Ty.ps] at hp; subst hp; simp [sb,Ty.size]
 | w c a b=>simp [Ty.ps] at hp; rcases hp with rfl | rfl <;> simp [sb,Ty.size] <;> omega
end
end Go.Sim

set_option linter.unusedVariables false
set_option linter.unusedSimpArgs false
set_option maxRecDepth 20000
namespace Go.Sim
open Go Go.RowKit

theorem Zst {t:Ty} (h:okL Ztl t=true):t.hd∈[105,98,117,120,121,122,88,89,90,49,50,51,52,53,54,108,109,112]:=by
 cases t with
 | k c=>
  simp only [okL,Ztl,Bool.or_eq_true,Zfs,Zmc,beq_iff_eq,Zvr,decide_eq_true_eq] at h
  simp only [Ty.hd,List.mem_cons,List.not_mem_nil,or_false]
  omega
 | u c a=>
  simp only [okL,Bool.and_eq_true,Bool.or_eq_true,beq_iff_eq] at h
  simp only [Ty.hd,List.mem_cons,List.not_mem_nil,or_false]
  omega
 | w c a b=>
  simp only [okL,Bool.and_eq_true,beq_iff_eq] at h
  simp only [Ty.hd,List.mem_cons,List.not_mem_nil,or_false]
  omega
theorem Zos {t:Ty} (h:okL Ztl t=true) (hv:V12 t.hd=true):t=.k t.hd:=by
 cases t with
 | k c=>rfl
 | u c a=>
  simp only [okL,Bool.and_eq_true,Bool.or_eq_true,beq_iff_eq] at h
  simp only [Ty.hd] at hv
  rcases h.1 with e | e <;> rw [e] at hv <;> exact absurd hv (by decide)
 | w c a b=>
  simp only [okL,Bool.and_eq_true,beq_iff_eq] at h
  simp only [Ty.hd] at hv
  rw [h.1.1] at hv; exact absurd hv (by decide)
theorem Zpn {c:Nat} (h:V12 c=true):∃ k:Nat,k < 12∧Zgm[k]?=some c∧Zqx Zgm c=(k:Int):=by
 simp only [V12,Bool.or_eq_true,Zmc,Zvr,decide_eq_true_eq] at h
 have:c=88 ∨ c=89 ∨ c=90 ∨ c=120 ∨ c=121 ∨ c=122 ∨ c=49 ∨ c=50 ∨ c=51 ∨ c=52 ∨ c=53 ∨ c=54:=by omega
 rcases this with rfl | rfl | rfl | rfl | rfl | rfl | rfl | rfl | rfl | rfl | rfl | rfl
 ·exact ⟨0,by omega,rfl,rfl⟩
 ·exact ⟨1,by omega,rfl,rfl⟩
 ·exact ⟨2,by omega,rfl,rfl⟩
 ·exact ⟨3,by omega,rfl,rfl⟩
 ·exact ⟨4,by omega,rfl,rfl⟩
 ·exact ⟨5,by omega,rfl,rfl⟩
 ·exact ⟨6,by omega,rfl,rfl⟩
 ·exact ⟨7,by omega,rfl,rfl⟩
 ·exact ⟨8,by omega,rfl,rfl⟩
 ·exact ⟨9,by omega,rfl,rfl⟩
 ·exact ⟨10,by omega,rfl,rfl⟩
 ·exact ⟨11,by omega,rfl,rfl⟩
theorem Zwi {t:Ty} (h:okL Ztl t=true) (hv:V12 t.hd=false):Zqx Zgm t.hd=-1:=by
 apply Zuu
 have:=Zst h
 simp only [List.mem_cons,List.not_mem_nil,or_false] at this
 rcases this with e | e | e | e | e | e | e | e | e | e | e | e | e | e | e | e | e | e <;> rw [e] at hv ⊢ <;> first | (exact absurd hv (by decide)) | decide
theorem Yrs {k v:Nat} (h:Zgm[k]?=some v):V12 v=true:=by
 have:=List.mem_of_getElem? h
 simp only [Zgm,List.mem_cons,List.not_mem_nil,or_false] at this
 rcases this with rfl | rfl | rfl | rfl | rfl | rfl | rfl | rfl | rfl | rfl | rfl | rfl <;> decide
theorem Ybq:Zgm.Nodup:=by decide
def Zsn (S:Nat→Prop) (h:Zaa) (i:Nat) (σ:Nat→Option Ty):Prop:=∃ rows:List (Zas × Zas),rows.length=12∧h[i]?=some (.cells Zcj (Zdq eR rows) false) ∧
 ∀ (k:Nat) (x:Zas × Zas) (v:Nat),rows[k]?=some x→Zgm[k]?=some v→match σ v with | some t=>Zew S h t (eR x) | none=>x=(.int .u8 0,.slice none 0 0 true)
section
variable {S:Nat→Prop} {h h':Zaa} {i:Nat} {σ:Nat→Option Ty} {F:Nat→Ty}
theorem Zsn.lt (r:Zsn S h i σ):i < h.length:=by obtain ⟨_,_,h2,_⟩:=r; exact Own.lt h2
theorem Zsn.keep (r:Zsn S h i σ) (hi:h'[i]?=h[i]?) (hh:∀ j,S j→j < h.length→h'[j]?=h[j]?):Zsn S h' i σ:=by
 obtain ⟨rows,h1,h2,h3⟩:=r
 refine ⟨rows,h1,by rw [hi]; exact h2,fun k x v hx hv=>?_⟩
 have:=h3 k x v hx hv
 split at this
 ·exact this.keep hh
 ·exact this
theorem Zsn.same (r:Zsn S h i σ) (s:Zbe h.length h h'):Zsn S h' i σ:=r.keep (s.eq i r.lt) fun j _ hj=>s.eq j hj
theorem Zsn.get (r:Zsn S h i σ) {k v:Nat} (hk:Zgm[k]?=some v):∃ x:Zas × Zas,Zai h (.ptr (some (i,0 + k * 2 + 0)))=some x.1∧Zan h (.ptr (some (i,0 + k * 2))) 2=some [x.1,x.2] ∧
  match σ v with | some t=>Zew S h t [x.1,x.2] | none=>x=(.int .u8 0,.slice none 0 0 true):=by
 obtain ⟨rows,h1,h2,h3⟩:=r
 have hk12:k < 12:=(List.getElem?_eq_some_iff.1 hk).1
 have hrow:Row h.length h (some (i,0)) (12 * 2) (Zdq eR rows):=⟨by rw [Zay Zkc,h1],.inr ⟨i,0,_,_,_,rfl,Own.lt h2,h2,by rw [Zay Zkc,h1]; simp,by rw [List.drop_zero,List.take_of_length_le (by rw [Zay Zkc,h1]; simp)]⟩⟩
 obtain ⟨i',o',hk',he,_,hr,hc⟩:=Row.el Zkc hrow h1 hk12 (by omega)
 cases he
 exact ⟨rows[k],by have:=hc 0 (by omega); simpa [eR] using this,hr,h3 k _ v (List.getElem?_eq_getElem hk') hk⟩
theorem Zsn.nil (hi:h[i]?=some (.cells Zcj (Zdq eR (List.replicate 12 (.int .u8 0,.slice none 0 0 true))) false)):Zsn S h i (fun _=>none):=by
 refine ⟨_,by simp,hi,fun k x v hx _=>?_⟩
 rw [List.getElem?_replicate] at hx
 split at hx
 ·cases hx; rfl
 ·cases hx
theorem Zsn.put (r:Zsn S h i σ) (hSi:∀ j,S j→j≠i) {k v:Nat} (hk:Zgm[k]?=some v) {t:Ty} {x y:Zas} (ht:Zew S h t [x,y]) :
  ∃ h',Zbb h (.ptr (some (i,0 + k * 2))) [x,y]=some h'∧Zdp i h h'∧Zsn S h' i (upd σ v t):=by
 obtain ⟨rows,h1,h2,h3⟩:=r
 have hk12:k < 12:=(List.getElem?_eq_some_iff.1 hk).1
 have hput:putRow (Zdq eR rows) (k * 2) (eR (x,y))=Zdq eR (rows.set k (x,y)):=Zvz Zkc (by omega)
 refine ⟨h.set i (.cells Zcj (Zdq eR (rows.set k (x,y))) false),?_,Zdp.set _ _ _,?_⟩
 ·rw [Nat.zero_add,Zba h2 (by rw [Zay Zkc,h1]; simp; omega),← hput]; rfl
 ·have hkeep:∀ j,S j→j < h.length→(h.set i (.cells Zcj (Zdq eR (rows.set k (x,y))) false))[j]?=h[j]?:=fun j hj _=>Zbl (fun e=>hSi j hj e.symm)
  refine ⟨_,by simp [h1],Zbv h2,fun k' x' v' hx' hv'=>?_⟩
  by_cases e:k=k'
  ·subst e
   rw [hk] at hv'
   cases hv'
   rw [List.getElem?_set_self (by omega)] at hx'
   cases hx'
   simp only [upd,if_true]
   exact ht.keep hkeep
  ·rw [List.getElem?_set_ne e] at hx'
   have:=h3 k' x' v' hx' hv'
   have hne:v'≠v:=fun e'=>by
    subst e'
    have h5:=List.getElem?_eq_some_iff.1 hk
    have h6:=List.getElem?_eq_some_iff.1 hv'
    exact e ((List.getElem_inj (h₀:=h5.1) (h₁:=h6.1) Ybq).1 (h5.2.trans h6.2.symm))
   rw [show upd σ v t v'=σ v' by simp [upd,hne]]
   split at this
   ·exact this.keep hkeep
   ·exact this
theorem Zsv (m:Zsn S h i σ) (hSi:∀ j,S j→j < h.length∧j≠i) (hdom:∀ c u,σ c=some u→V12 c=true∧okL Ztl u=true) {n:Nat} {t t':Ty} (ht:okL Ztl t=true) (hw:Wlk σ n t t') {vs:List Zas} (r:Zew S h t vs) :
  Zah pg Zif [.ptr (some (i,0)),.agg vs] h fun v h'=>Zbe h.length h h'∧∃ vs',v=.agg vs'∧Zew S h' t' vs':=by
 obtain ⟨a,c,e,rfl⟩:=r.shape
 have hil:=m.lt
 apply Zgy.call
 simp only [Zax]
 generalize hh0:h ++ [Zcc.cells Zab [.int .u8 (t.hd:Int),.slice a t.ps.length c e] false]=h0
 generalize hh1:h0 ++ [Zcc.cells Zab [.int .u8 0,.slice none 0 0 true] false]=h1
 have s0:Zbe h.length h h0:=by rw [← hh0]; exact Zao
 have s1:Zbe h0.length h0 h1:=by rw [← hh1]; exact Zao
 have o0:h0[h.length]?=some (.cells Zab [.int .u8 (t.hd:Int),.slice a t.ps.length c e] false):=by rw [← hh0]; simp
 have oa:=s1.get o0 (Own.lt o0)
 have oz:h1[h0.length]?=some (.cells Zab [.int .u8 0,.slice none 0 0 true] false):=by rw [← hh1]; simp
 have S1:=s0.cat s1
 have l0:h0.length=h.length + 1:=by rw [← hh0]; simp
 have l1:h1.length=h.length + 2:=by rw [← hh1]; simp [l0]
 simp only [Zak oa,Nat.zero_add,List.getElem?_cons_zero,Zaq]
 refine (Zki t.hd).mono ?_
 rintro v h2 ⟨rfl,rfl⟩
 simp only [Zaq]
 refine Zgy.L2ind (J:=fun (g:Nat) x5 h'=>∃ (u:Ty) (us:List Zas),Wlk σ g u t'∧okL Ztl u=true∧Zew S h u us∧x5=Zqx Zgm u.hd∧Zbe h.length h h'∧h'[h.length]?=some (.cells Zab us false)∧h'[h0.length]?=some (.cells Zab [.int .u8 0,.slice none 0 0 true] false)∧h2.length≤h'.length) (m:=fun g=>g) (hr:=?_) (g:=n)
  (hj:=⟨t,_,hw,ht,r,rfl,S1,oa,oz,Nat.le_refl _⟩)
 rintro g x5 h3 ⟨u,us,hwu,hu,ru,rfl,S3,ou,oz3,l3⟩ R hR
 unfold Zgy.L2t
 obtain ⟨ua,uc,ue,rfl⟩:=ru.shape
 have stop:t'=u→Zgy.A2x0 (fun v h'=>Zbe h.length h h'∧∃ vs',v=.agg vs'∧Zew S h' t' vs') h.length 0 h0.length 0 h3:=by
  rintro rfl
  apply Zgy.A2x0i
  rw [Zbk ou]
  simp only [Zau,Zaj,Zar,Zaq,Zaf]
  rw [Zba oz3 (by simp)]
  simp only [Zat,putRow,List.take_zero,List.length_cons,List.length_nil,List.drop_succ_cons,List.drop_zero,List.drop_nil,List.cons_append,List.nil_append,List.append_nil,Nat.zero_add]
  rw [Zbk (Zbv oz3)]
  simp only [Zau,Zaj,Zar,Zaq,Zaf]
  have S4:Zbe h.length h (h3.set h0.length (.cells Zab [.int .u8 (t'.hd:Int),.slice ua t'.ps.length uc ue] false)):=⟨by simp; exact S3.le,fun j hj=>by rw [Zbl (by omega)]; exact S3.eq j hj⟩
  exact ⟨S4,_,rfl,ru.same S4⟩
 have mm:=m.same S3
 cases hv:V12 u.hd with
 | false=>
  rw [Zwi hu hv]
  refine Zav (fun h=>by omega) (fun _=>stop ?_)
  cases hwu with
  | stop _=>rfl
  | step h1 _=>have:=(hdom _ _ h1).1; simp only [Ty.hd] at hv; rw [this] at hv; cases hv
 | true=>
  obtain ⟨k,hk,hkv,hix⟩:=Zpn hv
  have huk:=Zos hu hv
  rw [hix]
  refine Zav (fun _=>?_) (fun h=>by omega)
  obtain ⟨x,hx1,hx2,hx3⟩:=mm.get hkv
  simp only [Zaw,Int.toNat_natCast,hx1]
  cases hs:σ u.hd with
  | none=>
   rw [hs] at hx3
   simp only at hx3
   subst hx3
   simp only [Zaq,show ((0:Int) == 0)=true from rfl,Bool.not_true,Zbj]
   refine ⟨by omega,stop ?_⟩
   rw [huk] at hwu ⊢
   cases hwu with
   | stop _=>rfl
   | step h1 _=>rw [hs] at h1; cases h1
  | some w=>
   rw [hs] at hx3
   simp only at hx3
   have hwok:=(hdom _ _ hs).2
   obtain ⟨wa,wc,we,hwx⟩:=hx3.shape
   simp only [List.cons.injEq,and_true] at hwx
   obtain ⟨hw1,hw2⟩:=hwx
   have hne:((w.hd:Int) == 0)=false:=by
    have:=Zst hwok
    have hne:w.hd≠0:=fun e=>by rw [e] at this; simp at this
    simp; omega
   rw [hw1,hw2] at hx2 hx3
   rw [hw1]
   simp only [Zaq,hne,Bool.not_false,Zby]
   refine ⟨by omega,?_⟩
   apply Zgy.J4i
   simp only [Zaw,Int.toNat_natCast,hx2,Zau,Zaj,Zar,Zaq,Zaf]
   rw [Zba ou (by simp)]
   simp only [Zat,putRow,List.take_zero,List.length_cons,List.length_nil,List.drop_succ_cons,List.drop_zero,List.drop_nil,List.cons_append,List.nil_append,List.append_nil,Nat.zero_add]
   have og:=Zbv ou (x:=.cells Zab [.int .u8 (w.hd:Int),.slice wa w.ps.length wc we] false)
   simp only [Zak og,List.getElem?_cons_zero,Zaq]
   refine ⟨by omega,(Zki w.hd).mono ?_⟩
   rintro v h4 ⟨rfl,rfl⟩
   simp only [Zaq]
   have S4:Zbe h.length h (h3.set h.length (.cells Zab [.int .u8 (w.hd:Int),.slice wa w.ps.length wc we] false)):=⟨by simp; exact S3.le,fun j hj=>by rw [Zbl (by omega)]; exact S3.eq j hj⟩
   rw [huk] at hwu
   cases hwu with
   | stop h1=>rw [h1 _ rfl] at hs; cases hs
   | step h1 h2=>
    rw [hs] at h1
    cases h1
    refine hR _ _ _ (Nat.lt_succ_self _) ⟨w,_,h2,hwok,hx3.agree (fun j hj=>(S3.eq j (hSi j hj).1).symm),rfl,S4,og,by rw [Zbl (by omega)]; exact oz3,by simpa using l3⟩
end
end Go.Sim
