/- A part of the proof of a statement of this seat: see the text that holds the theorem. No condition. -/
import Derived.Test.YtflfcofeedjblaaGreatDoorPTCSApply
import Derived.Test.YtflfcofeedjblaaGreatDoorCDrawT
import Derived.Test.YtflfcofeedjblaaGreatDoorPAskL
import Derived.Test.YtflfcofeedjblaaGreatDoorCSrch
import Derived.Test.YtflfcofeedjblaaGreatDoorNm
set_option linter.unusedVariables false
set_option linter.unusedSimpArgs false
set_option linter.all false
set_option linter.unusedVariables false
set_option linter.unusedSimpArgs false
set_option maxRecDepth 20000
namespace Go.Sim
open Go Go.RowKit

theorem Ytq (w:Wd):∀ n x,x∈(wk w).cand n→0≤x:=by
 intro n x hx
 obtain ⟨k,_,rfl,_⟩:=Yey hx
 omega
theorem Ybj {w:Wd} {n:Nd} {sp:Bool} {y:List Nat} {m:Nd} (h:Zhs w n sp=.no y m):y≠[]:=by
 unfold Zhs at h
 split at h
 ·exact Ysw (Yky (Ytq w) 31 [] n y m h)
 ·cases h; decide
def DRQ (h:Zaa) (v:Zat) (h':Zaa):Prop:=∃ a0 n0 c0 e0 a1 n1 c1 e1 w,∃ nd:Nd,v=.tup [.agg [.slice a0 n0 c0 e0,.slice a1 n1 c1 e1],.agg [.str nd.1,.str nd.2]]∧Zba h.length h h'∧Zlx h' a0 n0 c0 a1 n1 c1 w∧WB w∧nd.1.length≤1000∧nd.2.length≤1000
theorem Yds {h:Zaa} {a:Pt} {n c:Nat} {e:Bool} {l:List Nat} (r:Row h.length h a n (Zdg eB l)) (hb:∀ b∈l,b < 256) (hnc:n≤c) :
  Zaj pg Zjj [.slice a n c e] (h ++ [.cells Zad [.slice none 0 0 true,.slice none 0 0 true] false] ++ [.cells Zab [.str [],.str []] false]) fun v_2 h_3=>
   Zgm (some v_2) fun a_4=>Zaj pg Zkn [.ptr a_4] h_3 fun v_5 h_6=>
   Zjx v_5 fun cs_7=>Zai cs_7 fun c_8 r_9=>Zob c_8 fun cs_10=>Zai cs_10 fun c_11 r_12=>xSl (some c_11) fun a_13 n_14 c_15 e_16=>Zai r_12 fun c_17 r_18=>xSl (some c_17) fun a_19 n_20 c_21 e_22=>Zbu r_18 (Zai r_9 fun c_23 r_24=>Zob c_23 fun cs_25=>Zai cs_25 fun c_26 r_27=>Zbc (some c_26) fun s_28=>Zai r_27 fun c_29 r_30=>Zbc (some c_29) fun s_31=>Zbu r_30 (Zbu r_24 (Zbn (Zaz h_6 (.ptr (some (List.length h,0))) [.slice a_13 n_14 c_15 e_16,.slice a_19 n_20 c_21 e_22]) fun h_32=>Zbn (Zaz h_32 (.ptr (some (List.length (h ++ [.cells Zad [.slice none 0 0 true,.slice none 0 0 true] false]),0))) [.str s_28,.str s_31]) fun h_33=>Zcn (Zbj h_33 (.ptr (some (List.length h,0))) 2) fun cs_34=>Zai cs_34 fun c_35 r_36=>xSl (some c_35) fun a_37 n_38 c_39 e_40=>Zai r_36 fun c_41 r_42=>xSl (some c_41) fun a_43 n_44 c_45 e_46=>Zbu r_42 (Zcn (Zbj h_33 (.ptr (some (List.length (h ++ [.cells Zad [.slice none 0 0 true,.slice none 0 0 true] false]),0))) 2) fun cs_47=>Zai cs_47 fun c_48 r_49=>Zbc (some c_48) fun s_50=>Zai r_49 fun c_51 r_52=>Zbc (some c_51) fun s_53=>Zbu r_52 (DRQ h (.tup [.agg [.slice a_37 n_38 c_39 e_40,.slice a_43 n_44 c_45 e_46],.agg [.str s_50,.str s_53]]) h_33))))):=by
 generalize hg0:h ++ [Zby.cells Zad [.slice none 0 0 true,.slice none 0 0 true] false]=g0
 have s0:Zba h.length h g0:=by rw [← hg0]; exact Zam
 have w0:g0[h.length]?=some (.cells Zad [.slice none 0 0 true,.slice none 0 0 true] false):=by rw [← hg0]; simp
 have l0:g0.length=h.length + 1:=by rw [← hg0]; simp
 generalize hg1:g0 ++ [Zby.cells Zab [.str [],.str []] false]=g1
 have s1:Zba g0.length g0 g1:=by rw [← hg1]; exact Zam
 have w1:=s1.get w0 (Own.lt w0)
 have n1':g1[g0.length]?=some (.cells Zab [.str [],.str []] false):=by rw [← hg1]; simp
 have l1:g1.length=g0.length + 1:=by rw [← hg1]; simp
 have S1:=s0.cat s1
 refine (Ykk (r.same' S1) hb hnc).mono ?_
 rintro v g2 ⟨rfl,s2,R2,l2⟩
 simp only [Zeg]
 have w2:=s2.get w1 (Own.lt w1)
 have n2:=s2.get n1' (Own.lt n1')
 refine (Yoq R2 (by omega)).mono ?_
 rintro v g3 ⟨u,w,nd,rfl,⟨a0,n0,c0,e0,q,n1,c1,e1,ys,rfl,d⟩,ws,hn1,hn2,K3,p3,_,_,R3⟩
 have w3:=K3.get w2 (by omega)
 have n3:=K3.get n2 (by omega)
 simp only [Zci,Zaf,Zdq,Zah,Zag,Zao]
 rw [Zbd w3 (by simp)]
 simp only [Zar,putRow,List.take_zero,List.length_cons,List.length_nil,List.drop_succ_cons,List.drop_zero,List.drop_nil,List.cons_append,List.nil_append,List.append_nil,Nat.zero_add]
 have w4:=Zbx w3 (x:=.cells Zad [.slice a0 n0 c0 e0,.slice (some (q,0)) n1 c1 e1] false)
 have n4:(g3.set h.length (.cells Zad [.slice a0 n0 c0 e0,.slice (some (q,0)) n1 c1 e1] false))[g0.length]?=some (.cells Zab [.str [],.str []] false):=by rw [Zbo (by omega)]; exact n3
 rw [Zbd n4 (by simp)]
 simp only [Zar,putRow,List.take_zero,List.length_cons,List.length_nil,List.drop_succ_cons,List.drop_zero,List.drop_nil,List.cons_append,List.nil_append,List.append_nil,Nat.zero_add]
 have w5:((g3.set h.length (.cells Zad [.slice a0 n0 c0 e0,.slice (some (q,0)) n1 c1 e1] false)).set g0.length (.cells Zab [.str nd.1,.str nd.2] false))[h.length]?=some (.cells Zad [.slice a0 n0 c0 e0,.slice (some (q,0)) n1 c1 e1] false):=by rw [Zbo (by omega)]; exact w4
 rw [Zbb w5,Zbb (Zbx n4)]
 simp only [Zap,Zaf,Zao,Zah,Zag]
 have K3l:=K3.le
 exact ⟨a0,n0,c0,e0,_,n1,c1,e1,w,nd,rfl,⟨by simp; omega,fun j hj=>by rw [Zbo (by omega),Zbo (by omega),K3.eq j (by omega) (by omega),s2.eq j (by omega)]; exact S1.eq j hj⟩,((d.setN (by omega)).setN (by omega)).rep,ws.wb (by omega),hn1,hn2⟩
theorem Yfc {h:Zaa} {a:Pt} {n c:Nat} {e:Bool} {l:List Nat} (r:Row h.length h a n (Zdg eB l)) (hb:∀ b∈l,b < 256) (hnc:n≤c):Zaj pg Zjz [.slice a n c e] h (DRQ h):=by
 apply Zng.call
 simp only [Zax]
 exact Yds r hb hnc
end Go.Sim

set_option linter.unusedVariables false
set_option linter.unusedSimpArgs false
set_option maxRecDepth 20000
namespace Go.Sim
open Go Go.RowKit

end Go.Sim

set_option linter.unusedVariables false
set_option linter.unusedSimpArgs false
set_option maxRecDepth 20000
namespace Go.Sim
open Go Go.RowKit
theorem Zdd.off {α:Type} {ty:TypeId} {enc:α→List Zat} {b:Nat} {h h':Zaa} {a:Pt} {n:Nat} {l:List α} (f:Zdd ty enc b h a n l) (hk:∀ i,a=some (i,0)→n≠0→i < h.length→h'[i]?=h[i]?):Zdd ty enc b h' a n l:=by
 obtain ⟨hl,h0 | ⟨i,ha,hb,hi⟩⟩:=f
 ·exact ⟨hl,.inl h0⟩
 ·by_cases hn:n=0
  ·exact ⟨hl,.inl hn⟩
  ·exact ⟨hl,.inr ⟨i,ha,hb,by rw [hk i ha hn (Own.lt hi)]; exact hi⟩⟩
structure Ywo (H:Nat) (a0:Pt) (n0:Nat) (a1:Pt) (n1:Nat) (ys:List EI):Prop where
 cls:∀ i,a0=some (i,0)→n0≠0→i < H
 ins:∀ i,a1=some (i,0)→n1≠0→i < H
 need:∀ (q:Nat) (x:EI),ys[q]?=some x→∀ j,x.a=some (j,0)→x.n≠0→j < H
theorem Zqu.bel {b:Nat} {h:Zaa} {a0 a1:Pt} {n0 n1:Nat} {ys:List EI} {w:Wd} (f:Zqu b h a0 n0 a1 n1 ys w):Ywo h.length a0 n0 a1 n1 ys:=
 ⟨fun i hi hn=>(f.cls.in i hi hn).2,fun i hi hn=>(f.ins.in i hi hn).2,fun q x hx j hj hn=>by
  have hq:=(List.getElem?_eq_some_iff.1 hx).1
  exact ((f.need q x (w.is[q]'(by have:=f.len; omega)) hx (List.getElem?_eq_getElem _)).2.2.in j hj hn).2⟩
end Go.Sim

set_option linter.unusedVariables false
namespace Go.Sim
open Go Go.RowKit
theorem Ywn {h:Zaa} {b n:Nat} {a:Pt} {l:List Int} (f:Zdd Zix eI b h a n l):Row h.length h a n (Zdg eI l):=by simpa using f.row Znv
theorem Ywq {h:Zaa} {b n:Nat} {a:Pt} {l:List Nd} (f:Zdd Zab eP b h a n l):Row h.length h a (n * 2) (Zdg eP l):=f.row Zcz
end Go.Sim

set_option linter.unusedVariables false
set_option linter.unusedSimpArgs false
set_option maxRecDepth 20000
namespace Go.Sim
open Go Go.RowKit

theorem lawFFind {h:Zaa} {a:Pt} {n c:Nat} {e:Bool} {l:List Nat} (r:Row h.length h a n (Zdg eB l)) (hb:∀ b∈l,b < 256) (hnc:n≤c) :
  Zaj pg Zpk [.slice a n c e] h fun v _=>v=.bool true:=by
 apply Zdy.call
 refine Zau (fun _=>rfl) (fun _=>?_)
 refine (Yfc r hb hnc).mono ?_
 rintro v h1 ⟨a0,n0,c0,e0,a1,n1,c1,e1,w,nd,rfl,s1,rep,wb,hn1,hn2⟩
 simp only [Zci,Zaf,Zdq,Zah,Zag,Zao,Zax]
 generalize hgA:h1 ++ [Zby.cells Zad [.slice none 0 0 true,.slice none 0 0 true] false]=gA
 have sA:Zba h1.length h1 gA:=by rw [← hgA]; exact Zam
 have wA:gA[h1.length]?=some (.cells Zad [.slice none 0 0 true,.slice none 0 0 true] false):=by rw [← hgA]; simp
 have lA:gA.length=h1.length + 1:=by rw [← hgA]; simp
 generalize hgB:gA ++ [Zby.cells Zab [.str [],.str []] false]=gB
 have sB:Zba gA.length gA gB:=by rw [← hgB]; exact Zam
 have wB:=sB.get wA (Own.lt wA)
 have nB:gB[gA.length]?=some (.cells Zab [.str [],.str []] false):=by rw [← hgB]; simp
 have lB:gB.length=gA.length + 1:=by rw [← hgB]; simp
 rw [Zbd wB (by simp)]
 simp only [Zar,putRow,List.take_zero,List.length_cons,List.length_nil,List.drop_succ_cons,List.drop_zero,List.drop_nil,List.cons_append,List.nil_append,List.append_nil,Nat.zero_add]
 have wC:=Zbx wB (x:=.cells Zad [.slice a0 n0 c0 e0,.slice a1 n1 c1 e1] false)
 have nC:(gB.set h1.length (.cells Zad [.slice a0 n0 c0 e0,.slice a1 n1 c1 e1] false))[gA.length]?=some (.cells Zab [.str [],.str []] false):=by rw [Zbo (by omega)]; exact nB
 rw [Zbd nC (by simp)]
 simp only [Zar,putRow,List.take_zero,List.length_cons,List.length_nil,List.drop_succ_cons,List.drop_zero,List.drop_nil,List.cons_append,List.nil_append,List.append_nil,Nat.zero_add]
 have x0:((gB.set h1.length (.cells Zad [.slice a0 n0 c0 e0,.slice a1 n1 c1 e1] false)).set gA.length (.cells Zab [.str nd.1,.str nd.2] false))[h1.length]?=some (.cells Zad [.slice a0 n0 c0 e0,.slice a1 n1 c1 e1] false):=by rw [Zbo (by omega)]; exact wC
 have y0:=Zbx nC (x:=.cells Zab [.str nd.1,.str nd.2] false)
 have S0:Zba h1.length h1 ((gB.set h1.length (.cells Zad [.slice a0 n0 c0 e0,.slice a1 n1 c1 e1] false)).set gA.length (.cells Zab [.str nd.1,.str nd.2] false)):=((sA.cat sB).set' (Nat.le_refl _)).set' (by omega)
 generalize (gB.set h1.length (.cells Zad [.slice a0 n0 c0 e0,.slice a1 n1 c1 e1] false)).set gA.length (.cells Zab [.str nd.1,.str nd.2] false)=g0 at x0 y0 S0 ⊢
 have R0:=rep.same S0
 rw [Zbb x0,Zbb y0]
 simp only [Zap,Zaf,Zao,Zah,Zag]
 refine (Zpy (nd:=nd) R0 wb).mono ?_
 rintro v g1 ⟨rfl,t1⟩
 simp only [Zci,Zaf,Zag,Zao]
 have x1:=t1.get x0 (Own.lt x0)
 have y1:=t1.get y0 (Own.lt y0)
 have R1:=R0.same t1
 rw [Zbb x1,Zbb y1]
 simp only [Zap,Zaf,Zao,Zah,Zag]
 refine (Ycr (nd:=nd) R1 wb (by omega)).mono ?_
 rintro v g2 ⟨rfl,t2⟩
 simp only [Zci,Zaf,Zag,Zao,decide_true,Bool.not_true,Zbz]
 have x2:=t2.get x1 (Own.lt x1)
 have y2:=t2.get y1 (Own.lt y1)
 have R2:=R1.same t2
 rw [Zbb x2,Zbb y2]
 simp only [Zap,Zaf,Zao,Zah,Zag]
 refine (Zzi (nd:=nd) R2 wb).mono ?_
 rintro v g3 ⟨rfl,t3⟩
 simp only [Zaq]
 have x3:=t3.get x2 (Own.lt x2)
 have y3:=t3.get y2 (Own.lt y2)
 have R3:=R2.same t3
 have hhas:Ywh w nd=decide (Yer (Zhs w nd false)=[]):=rfl
 rw [hhas]
 simp only [beq_self_eq_true,Bool.not_true,Zbz]
 apply Zdy.J8i
 cases hf:Zhs w nd false with
 | no y m=>
  have:=Ybj hf
  simp [Yer,Yac,this]
 | ok s=>
  simp only [Yer,Yac,decide_true,Bool.not_true,Zbz]
  have hc:(Zdv w && Zfp w nd)=true:=by
   cases hc:(Zdv w && Zfp w nd) with
   | true=>rfl
   | false=>unfold Zhs at hf; rw [hc] at hf; cases hf
  have hc':=hc
  simp only [Bool.and_eq_true] at hc'
  have hfa:(Zkc (wk w) false Znh 31 [] nd).1=.ok s:=by unfold Zhs at hf; rw [if_pos hc] at hf; exact hf
  obtain ⟨ms,hx,hms,ps,hpl,hps,hs⟩:=Yef (k:=wk w) (sp:=false) (dec:=Znh) (f:=30) (asked:=[]) (n:=nd) (s:=s) (a':=(Zkc (wk w) false Znh 31 [] nd).2) (by rw [← hfa])
  -- the one candidate
  have hcand:∃ x,Zhx w nd=[x]∧(Zeh (wk w) false nd).1=x:=by
   unfold Zeh at hx ⊢
   have e:(wk w).cand nd=Zhx w nd:=rfl
   rw [e] at hx ⊢
   match hcw:Zhx w nd with
   | []=>rw [hcw] at hx; simp at hx
   | [x]=>exact ⟨x,rfl,rfl⟩
   | x :: y :: r=>rw [hcw] at hx; simp at hx
  obtain ⟨x,hcx,hpx⟩:=hcand
  obtain ⟨k,hk,hxk,_⟩:=Yey (f:=Zmx nd) (l:=w.is) (x:=x) (show x∈Zhx w nd by rw [hcx]; simp)
  subst hxk
  rw [hpx] at hms hs
  have hl10:w.is.length≤10:=Zte hc'.1
  have hCL:Zrm w nd=[(k:Int)]:=by unfold Zrm; rw [if_pos hc,hcx]
  rw [Zbb x3,Zbb y3]
  simp only [Zap,Zaf,Zao,Zah,Zag]
  refine (Zza (nd:=nd) R3 wb).mono ?_
  rintro v g4 ⟨t4,ca,cm,cc,ce,rfl,f4⟩
  rw [hCL] at f4
  have hcm:cm=1:=by have:=f4.1; simpa using this.symm
  subst hcm
  have x4:=t4.get x3 (Own.lt x3)
  have y4:=t4.get y3 (Own.lt y3)
  have R4:=R3.same t4
  obtain ⟨ii,oo,hkk,hca,hii,hcell⟩:=Row.el1 Znv (Ywn f4) (k:=0) (by omega)
  subst hca
  simp only [Zci,Zaf,Zah,Zaq,Zao]
  simp only [show (((1:Nat):Int) == 1)=true from rfl,Bool.not_true,Zbz]
  refine ⟨⟨by omega,by omega⟩,?_⟩
  rw [Zbb x4]
  simp only [Zaw,Zap,Zaf,Zao,Zah,show Int.toNat 0=0 from rfl,hcell,eI,List.getElem_cons_zero,List.getElem?_cons_zero,Zas,Zal y4,List.getElem?_cons_succ,Zag,true_and,Nat.zero_add]
  refine (Ykj (x:=(k:Int)) (t:=nd.2) R4 wb).mono ?_
  rintro v g5 ⟨t5,na,nn,nc,ne,rfl,f5⟩
  have hno:Zrs w (k:Int) nd.2=some ms:=by
   unfold Zrs
   have:Ygt w (k:Int)=true:=by unfold Ygt; simp; omega
   rw [hc'.1,this]
   exact hms
  rw [hno] at f5 ⊢
  simp only [Option.isSome_some,Option.getD_some] at f5 ⊢
  have x5:=t5.get x4 (Own.lt x4)
  have R5:=R4.same t5
  have hcell5:Zae g5 (.ptr (some (ii,oo + 0 * 1)))=Zae g4 (.ptr (some (ii,oo + 0 * 1))):=by simp only [Zae,t5.eq ii hii]
  simp only [Zci,Zaf,Zah,Zaq,Zao]
  refine ⟨⟨by omega,by omega⟩,⟨by omega,by omega⟩,?_⟩
  rw [hcell5,hcell]
  simp only [eI,List.getElem_cons_zero,List.getElem?_cons_zero,Zas,true_and]
  rw [Zbq (by omega)]
  have hnl:=f5.1
  have hsub:sub [48,49,50,51,52,53,54,55,56,57] (k:Int) ((k + 1:Nat):Int)=[48 + k]:=by
   have:k < 10:=by omega
   match k,this with
   | 0,_ | 1,_ | 2,_ | 3,_ | 4,_ | 5,_ | 6,_ | 7,_ | 8,_ | 9,_=>rfl
  rw [hsub]
  refine ⟨⟨by omega,by omega,by simp; omega⟩,?_⟩
  have hneeds:=Zxy hc'.1 hk (n:=nd) (ms:=ms) (by have:=hms; rw [show (wk w).needs (k:Int) nd.2=Zhb (Zmm w (k:Int)) nd.2 from rfl,Zry hk] at this; exact this)
  have hsl:s.length≤3000:=by have:=Yle (w:=w) (n:=nd) (sp:=false); rw [hf] at this; simpa [Yac] using this
  have hdec:Znh (k:Int)=[48 + k]:=by simp [Znh]
  rw [hdec] at hs
  -- the parts so far
  have htk:∀ g,((48 + k) :: (((ps.take g).zipIdx 0).flatMap fun p=>Znr p.2 :: p.1)).length≤s.length:=by
   intro g
   rw [hs]
   have:(((ps.take g).zipIdx 0).flatMap fun p=>Znr p.2 :: p.1).length≤((ps.zipIdx 0).flatMap fun p=>Znr p.2 :: p.1).length:=by
    have e:ps.zipIdx 0=(ps.take g).zipIdx 0 ++ (ps.drop g).zipIdx (0 + (ps.take g).length):=by rw [← List.zipIdx_append,List.take_append_drop]
    rw [e,List.flatMap_append,List.length_append]; omega
   simp only [List.length_append,List.length_cons,List.length_nil]; omega
  refine Zdy.L16ind (J:=fun (g:Nat) x13 x87 h'=>x87=(g:Int)∧g≤nn∧Zba g5.length g5 h'∧x13=(48 + k) :: (((ps.take g).zipIdx 0).flatMap fun p=>Znr p.2 :: p.1)) (m:=fun g=>nn - g) (hr:=?_) (g:=0) (hj:=⟨rfl,by omega,Zba.refl _ _,by simp⟩) ..
  rintro g x13 x87 h6 ⟨rfl,hg,t6,rfl⟩ R hR
  unfold Zdy.L16t
  refine Zau (fun hlt=>?_) (fun hge=>?_)
  ·obtain ⟨ij,oj,hkj,hja,hjl,hrj,_⟩:=(Ywq (f5.same t6)).pr (k:=g) (by omega)
   have x6:=t6.get x5 (Own.lt x5)
   have R6:=R5.same t6
   simp only [hja,Zaw,Int.toNat_natCast,hrj,Zap,Zaf,Zao,Zag,Zax]
   rw [← hja,Zgb]
   simp only [Zar]
   refine ⟨by omega,?_⟩
   generalize hh7:h6 ++ [Zby.cells Zab [.str ms[g].1,.str ms[g].2] false]=h7
   have t7:Zba h6.length h6 h7:=by rw [← hh7]; exact Zam
   have m7:h7[h6.length]?=some (.cells Zab [.str ms[g].1,.str ms[g].2] false):=by rw [← hh7]; simp
   have x7:=t7.get x6 (Own.lt x6)
   rw [Zbb x7,Zbb m7]
   simp only [Zap,Zaf,Zao,Zah,Zag]
   refine (Zpy (nd:=ms[g]) (R6.same t7) wb).mono ?_
   rintro v h8 ⟨rfl,t8⟩
   have hgp:g < ps.length:=by omega
   have hfm:Zhs w ms[g] false=.ok ps[g]:=by
    unfold Zhs
    rw [hc'.1,hneeds.2 _ (List.getElem_mem hkj)]
    simp only [Bool.and_self,if_true]
    exact hps g ms[g] ps[g] (List.getElem?_eq_getElem hkj) (List.getElem?_eq_getElem hgp) 31 (by omega)
   rw [hfm]
   simp only [Yac,Yer,Zci,Zaf,Zag,Zao,decide_true,Bool.not_true,Zbz]
   have hstep:(48 + k) :: (((ps.take (g + 1)).zipIdx 0).flatMap fun p=>Znr p.2 :: p.1)=((48 + k) :: (((ps.take g).zipIdx 0).flatMap fun p=>Znr p.2 :: p.1)) ++ [Znr g] ++ ps[g]:=by
    rw [List.take_succ_eq_append_getElem hgp,List.zipIdx_append,List.flatMap_append]
    simp [List.length_take,Nat.min_eq_left (Nat.le_of_lt hgp)]
   have hb1:=htk (g + 1)
   rw [hstep] at hb1
   simp only [List.length_append,List.length_cons,List.length_nil] at hb1
   have go:∀ (mk:Nat),Znr g=mk→List.length ((48 + k) :: (((ps.take g).zipIdx 0).flatMap fun p=>Znr p.2 :: p.1)) + List.length [mk]≤9223372036854775807∧(List.length (((48 + k) :: (((ps.take g).zipIdx 0).flatMap fun p=>Znr p.2 :: p.1)) ++ [mk]) + List.length ps[g]≤9223372036854775807∧(Zdy.J24 (fun v _=>v=.bool true) R (g:Int) ((nn:Nat):Int) na nn nc ne h1.length 0 ((((48 + k) :: (((ps.take g).zipIdx 0).flatMap fun p=>Znr p.2 :: p.1)) ++ [mk]) ++ ps[g]) na nn nc ne true s h8)):=by
    intro mk hmk
    refine ⟨by simp only [List.length_cons,List.length_nil]; omega,by simp only [List.length_append,List.length_cons,List.length_nil]; omega,?_⟩
    apply Zdy.J24i
    rw [Zbq (by omega),← hmk,← hstep]
    exact hR (g + 1) _ _ _ (by omega) ⟨rfl,by omega,(t6.cat t7).cat t8,rfl⟩
   refine Zcs (fun h0=>go 40 (by unfold Znr; rw [if_pos (by omega)])) (fun h0=>go 44 (by unfold Znr; rw [if_neg (by omega)]))
  ·have hgn:g=nn:=by omega
   subst hgn
   rw [List.take_of_length_le (by omega)]
   apply Zdy.A16x0i
   have hb2:=htk g
   rw [List.take_of_length_le (by omega)] at hb2
   refine Zau (fun hp=>?_) (fun hp=>?_)
   ·have hne:ms≠[]:=fun e=>by rw [e] at hnl; simp at hnl; omega
    rw [if_neg hne] at hs
    refine ⟨by simp only [List.length_cons,List.length_nil] at hb2 ⊢; omega,?_⟩
    apply Zdy.J27i
    rw [Zcp,hs]
    simp
   ·have he:ms=[]:=List.eq_nil_of_length_eq_zero (by omega)
    rw [if_pos he] at hs
    apply Zdy.J27i
    rw [Zcp,hs]
    simp
end Go.Sim

set_option linter.unusedVariables false
set_option linter.unusedSimpArgs false
set_option maxRecDepth 20000
namespace Go.Sim
open Go Go.RowKit
theorem Yip {P:Program} {h:Zaa} {f:Nat} {e:TypeId} (he:P.underlying e=some (.int .u8)):∀ (vs:List (List Zat)) (ds:List Dt),ds.length=vs.length→(∀ (i:Nat) (v:List Zat) (x:Dt),vs[i]?=some v→ds[i]?=some x→v.length=P.cellsOf e∧rd P h (f + 1) e v x) →
  ∃ l:List Nat,vs.flatten=Zdg eB l∧∀ z∈l,z < 256
 | [],_,_,_=>⟨[],rfl,by simp⟩
 | v :: vs,[],h,_=>by simp at h
 | v :: vs,d :: ds,hl,hall=>by
  obtain ⟨l,hfl,hs⟩:=Yip he vs ds (by simpa using hl) fun i v x hv hx=>hall (i + 1) v x (by simpa using hv) (by simpa using hx)
  have h0:=(hall 0 v d rfl rfl).2
  simp only [rd,he] at h0
  obtain ⟨z,rfl,_,hw⟩:=h0
  simp [Lit.wf,IntKind.min,IntKind.max,IntKind.signed,IntKind.bits] at hw
  refine ⟨z.toNat :: l,?_,fun x hx=>?_⟩
  ·simp [hfl,eB]; omega
  ·rcases List.mem_cons.1 hx with rfl | hx
   ·omega
   ·exact hs x hx
theorem rd_bytes {P:Program} {h:Zaa} {f:Nat} {t e:TypeId} {cs:List Zat} {d:Dt} (ht:P.underlying t=some (.slice e)) (he:P.underlying e=some (.int .u8)) (hc:P.cellsOf e=1) (hr:rd P h (f + 2) t cs d) :
  ∃ a n c ex,∃ l:List Nat,cs=[.slice a n c ex]∧Row h.length h a n (Zdg eB l)∧∀ z∈l,z < 256:=by
 unfold rd at hr
 rw [ht] at hr
 obtain ⟨a,n,c,ex,ds,vs,rfl,rfl,hdl,hn,hvl,hrow,hall⟩:=hr
 obtain ⟨l,hfl,hs⟩:=Yip (f:=f) he vs ds (by omega) hall
 rw [hc,Nat.mul_one,hfl] at hrow
 exact ⟨a,n,c,ex,l,rfl,hrow,hs⟩
end Go.Sim
