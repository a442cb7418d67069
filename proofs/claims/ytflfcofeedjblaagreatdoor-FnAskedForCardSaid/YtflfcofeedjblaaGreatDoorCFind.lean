/- A part of the proof of a statement of this seat: see the text that holds the theorem. No condition. -/
import Derived.Test.YtflfcofeedjblaaGreatDoorCMost
import Derived.Test.YtflfcofeedjblaaGreatDoorPTCSApply
import Derived.Test.YtflfcofeedjblaaGreatDoorCWVar2
import Derived.Test.YtflfcofeedjblaaGreatDoorPTCDrawU
import Derived.Test.YtflfcofeedjblaaGreatDoorPTCAll
import Derived.Test.YtflfcofeedjblaaGreatDoorCSTy
set_option linter.unusedVariables false
set_option linter.unusedSimpArgs false
set_option linter.all false
set_option linter.unusedSimpArgs false
set_option linter.unusedVariables false
namespace Go.Sim

theorem Ytt {l:List Nd} {t u:List Nat} (h:Zgz l t=some u):Zoq u=true:=by
 unfold Zgz at h
 split at h
 ·rename_i hc
  cases h
  simp only [Bool.and_eq_true,decide_eq_true_eq] at hc
  obtain ⟨a,ha⟩:=Zwj hc.1.2
  obtain ⟨h1,h2,h3⟩:=Zgu.1 ha
  have:=Zrl hc.1.1 h1
  rw [← h2] at this
  exact Zuz.2 ⟨_,this.2,this.1,hc.2⟩
 ·cases h
theorem Ynz {i:Ins} {t:List Nat} {ms:List Nd} (h:Zjg i t=some ms):ms.length=i.2.length∧∀ m∈ms,Zoq m.2=true∧∃ n∈i.2,m.1=n.1:=by
 unfold Zjg at h
 split at h
 ·cases h
 ·rename_i b hb
  split at h
  ·rename_i hall
   cases h
   refine ⟨by simp,fun m hm=>?_⟩
   obtain ⟨n,hn,rfl⟩:=List.mem_map.1 hm
   have:=List.all_eq_true.1 hall n hn
   obtain ⟨u,hu⟩:=Option.isSome_iff_exists.1 this
   have h2:=Ytt hu
   unfold Zgz at hu
   split at hu
   ·cases hu; exact ⟨h2,n,hn,rfl⟩
   ·cases hu
  ·cases h
theorem Ypo {w:Wd} (hw:Zcz w=true) {i:Ins} (hi:i∈w.is) {t:List Nat} {ms:List Nd} (h:Zjg i t=some ms):ms.length≤3∧∀ m∈ms,Zdq w m=true:=by
 obtain ⟨h1,h2⟩:=Ynz h
 unfold Zcz at hw
 simp only [Bool.and_eq_true,List.all_eq_true] at hw
 have h3:=hw.2 i hi
 unfold Zoz at h3
 simp only [Bool.and_eq_true,List.all_eq_true,decide_eq_true_eq] at h3
 refine ⟨by omega,fun m hm=>?_⟩
 obtain ⟨h4,n,hn,he⟩:=h2 m hm
 have h5:=h3.2 n hn
 unfold Zkz at h5
 simp only [Bool.and_eq_true] at h5
 unfold Zdq
 rw [h4,he,h5.1.1.1]; rfl
end Go.Sim

set_option linter.unusedVariables false
set_option linter.unusedSimpArgs false
set_option maxRecDepth 20000
namespace Go.Sim
open Go Go.RowKit

noncomputable def Yty (l:List Nd):Bd:=l.map fun p=>(p.1.headD 0,(Zkt p.2).getD default)
theorem Yem {l:List Nd} (h:Zjx l=true) {p:Nd} (hp:p∈l):∃ v t,p.1=[v]∧Zee v=true∧Zkt p.2=some t:=by
 obtain ⟨h1,h2⟩:=Zux h hp
 obtain ⟨t,ht⟩:=Zwj h2
 match hq:p.1 with
 | []=>rw [hq] at h1; cases h1
 | [v]=>rw [hq] at h1; exact ⟨v,t,rfl,h1,ht⟩
 | _ :: _ :: _=>rw [hq] at h1; cases h1
theorem Yip:∀ {l:List Nd},(∀ p∈l,∃ v t,p.1=[v]∧Zee v=true∧Zkt p.2=some t)→∀ c,Zht (Yty l) c=Zts l c
 | [],_,c=>rfl
 | p :: l,h,c=>by
  obtain ⟨v,t,h1,h2,h3⟩:=h p (by simp)
  have ih:=Yip (l:=l) (fun q hq=>h q (by simp [hq])) c
  unfold Yty Zts at ih ⊢
  simp only [List.map_cons,Zht,h1,List.headD_cons,h3,Option.getD_some,List.find?_cons]
  by_cases e:v=c
  ·subst e; simp [h3]
  ·have:¬ ([v]:List Nat)=[c]:=fun x=>e (by simpa using x)
   simp only [e,if_false,this,decide_false]
   exact ih
theorem Yqp {l:List Nd} (h:Zjx l=true):∀ (g:Nat) (hg:g < l.length) (k:Nat) (hk:k < g),(l[k]'(by omega)).1.headD 0 < l[g].1.headD 0
 | 0,_,k,hk=>by omega
 | g + 1,hg,k,hk=>by
  have h1:=(Ycn h hg).2.2
  rcases h1 with h1 | h1
  ·omega
  ·rw [Nat.add_sub_cancel,Zgh (by omega)] at h1
   obtain ⟨v,t,hv,_⟩:=Yem h (List.getElem_mem (h:=hg))
   obtain ⟨u,t',hu,_⟩:=Yem h (List.getElem_mem (l:=l) (n:=g) (h:=by omega))
   rw [hv,hu,Ybm] at h1
   have h2:u < v:=of_decide_eq_true h1
   by_cases e:k=g
   ·subst e; rw [hv,hu]; exact h2
   ·have:=Yqp h g (by omega) k (by omega)
    rw [hu] at this; rw [hv]
    simp only [List.headD_cons] at this ⊢; omega
theorem Yoc {l:List Nd} (h:Zjx l=true) {g v:Nat} (hg:g < l.length) (hv:l[g].1=[v]):Zht (Yty (l.take g)) v=none:=by
 rw [Zxg]
 intro hm
 unfold Yty at hm
 rw [List.map_map] at hm
 obtain ⟨p,hp,he⟩:=List.mem_map.1 hm
 obtain ⟨k,hk,rfl⟩:=List.getElem_of_mem hp
 simp only [List.length_take] at hk
 have:=Yqp h g hg k (by omega)
 rw [hv] at this
 simp only [Function.comp_def,List.getElem_take,List.headD_cons] at he this
 omega
theorem Zwh.mono {S S':Nat→Prop} {h:Zaa} {i:Nat} {m:Bd} (r:Zwh S h i m) (hs:∀ j,S j→S' j):Zwh S' h i m:=by
 obtain ⟨rows,h1,h2,h3⟩:=r
 refine ⟨rows,h1,h2,fun k x hx=>?_⟩
 have:=h3 k x hx
 split at this
 ·exact this.mono hs
 ·exact this
theorem Zwh.below {S:Nat→Prop} {h:Zaa} {i:Nat} {m:Bd} (r:Zwh S h i m):Zwh (fun j=>S j∧j < h.length) h i m:=by
 obtain ⟨rows,h1,h2,h3⟩:=r
 refine ⟨rows,h1,h2,fun k x hx=>?_⟩
 have:=h3 k x hx
 split at this
 ·exact Zji.below this
 ·exact this
theorem Zyq {h:Zaa} {a:Pt} {n c:Nat} {e:Bool} {l:List Nd} {t:List Nat} (r:Row h.length h a (n * 2) (Zdb eP l)) (hn:n≤1048576) (hb:∀ p∈l,p.2.length≤1048576) (hb1:∀ p∈l,∀ x∈p.1,x < 256) (ht:t.length≤1048576) :
  Zak pg Zkj [.slice a n c e,.str t] h fun v h'=>v=Zpy l t∧Zbc h.length h h':=by
 have hl:l.length=n:=by have:=r.1; rw [Zat Zcr] at this; omega
 apply Zga.call
 refine (Zqg t (by omega) h).mono ?_
 rintro v h1 ⟨s1,vs1,rfl,r1⟩
 obtain ⟨d1,a1,n1,c1,e1,rfl⟩:=Zum r1
 simp only [Zco,Zae,Zdt,Zax,Zaj,Zam,Zaq,Zaw]
 rw [Zfb]
 generalize hh2:h1 ++ [Zcb.cells Zap [.int .u8 d1,.slice a1 n1 c1 e1] false]=h2
 have s2:Zbc h1.length h1 h2:=by rw [← hh2]; exact Zal
 have o2:h2[h1.length]?=some (.cells Zap [.int .u8 d1,.slice a1 n1 c1 e1] false):=by rw [← hh2]; simp
 have S2:=s1.cat s2
 simp only [Zas]
 cases hto:Zoq t with
 | false=>
  simp only [Bool.not_false,Zcv]
  exact ⟨by unfold Zpy Zgz; rw [hto]; simp,S2⟩
 | true=>
 simp only [Bool.not_true,Zca]
 obtain ⟨u,hu⟩:=Zwj hto
 obtain ⟨hu1,hu2,hu3⟩:=Zgu.1 hu
 rw [hu] at r1
 simp only at r1
 refine (Zxt (r.same' S2) hn hb hb1).mono ?_
 rintro v h3 ⟨rfl,s3⟩
 simp only [Zaq]
 have S3:=S2.cat s3
 refine Zbs (fun b1=>⟨by unfold Zpy Zgz; rw [b1]; rfl,S3⟩) (fun b1=>?_)
 apply Zga.J4i
 simp only [Zaw]
 rw [← Yqr]
 generalize hh4:h3 ++ [Zcb.cells Zdo (Zdb eR (List.replicate 12 (Zay.int .u8 0,Zay.slice none 0 0 true))) false]=h4
 have s4:Zbc h3.length h3 h4:=by rw [← hh4]; exact Zal
 have o4:h4[h3.length]?=some (.cells Zdo (Zdb eR (List.replicate 12 (Zay.int .u8 0,Zay.slice none 0 0 true))) false):=by rw [← hh4]; simp
 have l4:h4.length=h3.length + 1:=by rw [← hh4]; simp
 have hone:∀ p∈l,∃ v t,p.1=[v]∧Zee v=true∧Zkt p.2=some t:=fun p hp=>Yem b1 hp
 have o3:=s3.get o2 (Own.lt o2)
 refine Zga.L6ind _ _ _ _ _ _ _ _ _ _ (J:=fun (g:Nat) x28 h'=>x28=(g:Int)∧g≤n∧Zbc h3.length h3 h'∧h4.length≤h'.length∧Zwh (fun j=>j≠h3.length) h' h3.length (Yty (l.take g))) (fun g=>n - g) ?_ 0 _ _ ⟨rfl,by omega,s4,Nat.le_refl _,Zwh.nil o4⟩
 rintro g x28 h' ⟨rfl,hg,hS,hl4,rm⟩ R hR
 have SS:=S3.cat hS
 unfold Zga.L6t
 refine Zar (fun hlt=>?_) (fun hge=>?_)
 ·obtain ⟨i,o,hgl,rfl,hi,hr,_,_⟩:=(r.same SS).pr (k:=g) (by omega)
  obtain ⟨v,tt,hv1,hv2,hv3⟩:=hone _ (List.getElem_mem hgl)
  obtain ⟨ht1,ht2,ht3⟩:=Zgu.1 hv3
  simp only [Zau,Int.toNat_natCast,hr,Zao,Zae,Zam,Zah,Zaw]
  rw [Zfb]
  generalize hq:h' ++ [Zcb.cells Zbv [.str l[g].1,.str l[g].2] false]=hq'
  have sq:Zbc h'.length h' hq':=by rw [← hq]; exact Zal
  have oq:hq'[h'.length]?=some (.cells Zbv [.str l[g].1,.str l[g].2] false):=by rw [← hq]; simp
  have hlq:=sq.le
  rw [hv1] at oq
  simp only [Zas,Zan oq,Nat.zero_add,List.getElem?_cons_succ,List.getElem?_cons_zero,Zah]
  refine ⟨by omega,by simp,?_⟩
  simp only [Int.toNat_zero,List.getD_cons_zero]
  refine (Zxv v).mono ?_
  rintro v' h5 ⟨rfl,rfl⟩
  obtain ⟨k,hk6,hkv,hix⟩:=Ybf hv2
  simp only [hix,Zax,Zan oq,List.getElem?_cons_succ,List.getElem?_cons_zero,true_and]
  refine (Zqg l[g].2 (by omega) h5).mono ?_
  rintro v' h6 ⟨s6,vs6,rfl,r6⟩
  obtain ⟨d6,a6,n6,c6,e6,rfl⟩:=Zum r6
  rw [hv3] at r6
  simp only at r6
  have hl6:=s6.le
  have ho6:Zag h6 (.ptr (some (h'.length,0)))=Zag h5 (.ptr (some (h'.length,0))):=by simp only [Zag,s6.eq _ (Own.lt oq)]
  simp only [Zco,Zae,Zdt,Zax,Zaj,Zam,Zaq,ho6,true_and]
  have rm6:=(rm.same sq).same s6
  obtain ⟨h7,hst,hK,rm7⟩:=rm6.put (fun j hj=>hj) hkv (Yoc b1 hgl hv1) (r6.mono fun j hj=>by have:=hj.1; omega)
  rw [Int.toNat_natCast,Nat.zero_add] at *
  rw [hst]
  simp only [Zas]
  rw [Zbm (by omega)]
  have hK7:=hK.le
  refine ⟨by rw [Zan oq]; rfl,⟨by omega,by omega⟩,hR (g + 1) _ _ (by omega) ⟨rfl,by omega,⟨by omega,fun j hj=>?_⟩,by omega,?_⟩⟩
  ·rw [hK.eq j (by omega) (by omega),s6.eq j (by omega),sq.eq j (by omega),hS.eq j hj]
  ·have:Yty (l.take (g + 1))=Yty (l.take g) ++ [(v,tt)]:=by
    unfold Yty
    rw [List.take_succ_eq_append_getElem hgl,List.map_append]
    simp [hv1,hv3]
   rw [this]; exact rm7
 ·apply Zga.A6x0i
  have:g=n:=by omega
  subst this
  rw [List.take_of_length_le (by omega)] at rm
  have hS3:=S3.le
  have h31:h1.length≤h3.length:=(s2.cat s3).le
  have o5:=hS.get o3 (Own.lt o3)
  simp only [Zew o5 (show 0 + 2≤_ by simp),List.drop_zero,List.take_succ_cons,List.take_zero,Zao,Zae,Zam,Zax,Zaj]
  have hbm:∀ c,Zht (Yty l) c=Zts l c:=Yip hone
  have rt:=(((r1.same s2).same s3).same hS).mono (S':=fun j=>j≠h3.length) (fun j hj=>by have:=hj.2; omega)
  refine (Yeo _ (Nat.le_refl _) hu1 (S:=fun j=>j≠h3.length∧j < h'.length) (fun j hj=>⟨hj.2,hj.1⟩) rt.below rm.below.w (fun v w hw=>?_) (fun v hv=>?_)).mono ?_
  ·rw [hbm] at hw; exact ((Zyi b1 v).2 w hw).1
  ·rw [hbm]; exact (Zxe b1 hv).2
  rintro v h6 ⟨s6,nv,rfl,hn6⟩
  rw [show Zht (Yty l)=Zts l from funext hbm] at hn6
  obtain ⟨na,nc,ne,rfl⟩:=hn6.shape
  have hat:=Zrl b1 hu1
  rw [← hu2] at hat
  have hal:=Zyl b1 t
  simp only [Zdt,Zae,Zax,Zaj,Zam,Zaw]
  rw [Zfb]
  generalize hh7:h6 ++ [Zcb.cells Zap [.int .u8 ((subst (Zts l) u).hd:Int),.slice na (subst (Zts l) u).ps.length nc ne] false]=h7
  have s7:Zbc h6.length h6 h7:=by rw [← hh7]; exact Zal
  have o7:h7[h6.length]?=some (.cells Zap [.int .u8 ((subst (Zts l) u).hd:Int),.slice na (subst (Zts l) u).ps.length nc ne] false):=by rw [← hh7]; simp
  have S7:=(SS.cat s6).cat s7
  simp only [Zas,Zew o7 (show 0 + 2≤_ by simp),List.drop_zero,List.take_succ_cons,List.take_zero,Zao,Zae,Zam,Zax,Zaj]
  refine (Zsl _ (Nat.le_refl _) (by rw [← hat.1]; omega) (hn6.same s7)).mono ?_
  rintro v h8 ⟨rfl,s8⟩
  have o8:=s8.get o7 (Own.lt o7)
  simp only [Zax]
  rw [← hat.1]
  refine Zar (fun hbig=>⟨by unfold Zpy Zgz; rw [if_neg (by simp; omega)],S7.cat s8⟩) (fun hsm=>?_)
  simp only [Zew o8 (show 0 + 2≤_ by simp),List.drop_zero,List.take_succ_cons,List.take_zero,Zao,Zae,Zam,Zax,Zaj]
  refine (Zrv _ (Nat.le_refl _) (by rw [← hat.1]; omega) hat.2 ((hn6.same s7).same s8)).mono ?_
  rintro v h9 ⟨rfl,s9⟩
  simp only [Zah]
  refine ⟨?_,(S7.cat s8).cat s9⟩
  unfold Zpy Zgz
  rw [if_pos (by rw [b1,hto]; simp; omega),hat.1]
theorem Yfm (p s:List Nat):(∀ q∈Zmu p s,q.2.length≤1048576)∧(∀ q∈Zmu p s,∀ x∈q.1,x < 256)∧(Zmu p s).length≤6:=by
 unfold Zmu
 cases hm:Zmq p s with
 | none=>simp
 | some m=>
  have b:=Ycl hm
  refine ⟨fun q hq=>?_,fun q hq x hx=>?_,Ypu m⟩
  ·have hq':=Zux (Yom b) hq
   have:=Zzs hq'.2; omega
  ·simp only [Yma,List.mem_map,List.mem_filter] at hq
   obtain ⟨v,⟨hv,_⟩,rfl⟩:=hq
   simp at hx; subst hx
   have:=(Ztx x).1 hv
   simp only [Zee,Bool.or_eq_true,beq_iff_eq] at this; omega
theorem Yqz {h:Zaa} {a:Pt} {n c:Nat} {e:Bool} {i:Ins} {t:List Nat} (r:Row h.length h a (n * 2) (Zdb eP i.2)) (hn:n≤1048576) (hi:i.1.2.length≤1048576) (ht:t.length≤1048576) (hns:∀ p∈i.2,p.2.length≤1048576) :
  Zak pg Zjb [.agg [.str i.1.1,.str i.1.2,.slice a n c e],.str t] h (Ypj i t h):=by
 have hl:i.2.length=n:=by have:=r.1; rw [Zat Zcr] at this; omega
 apply Zku.call
 simp only [Zaw]
 generalize hh0:h ++ [Zcb.cells Zad [.str i.1.1,.str i.1.2,.slice a n c e] false]=h0
 generalize hh1:h0 ++ [Zcb.cells Zab [] false]=h1
 have s0:Zbc h.length h h0:=by rw [← hh0]; exact Zal
 have s1:Zbc h0.length h0 h1:=by rw [← hh1]; exact Zal
 have o0:h0[h.length]?=some (.cells Zad [.str i.1.1,.str i.1.2,.slice a n c e] false):=by rw [← hh0]; simp
 have x1:=s1.get o0 (Own.lt o0)
 have o1:h1[h0.length]?=some (.cells Zab [] false):=by rw [← hh1]; simp
 have l0:h0.length=h.length + 1:=by rw [← hh0]; simp
 simp only [Zan x1,Nat.zero_add,List.getElem?_cons_succ,List.getElem?_cons_zero,Zah]
 refine (Zwq i.1.2 t hi ht h1).mono ?_
 rintro v h2 ⟨s2,ma,mn,mc,me,rfl,hmc,fm⟩
 simp only [Zco,Zae,Zaj,Zaq,Zam]
 have S2:=(s0.cat s1).cat s2
 have o2:=s2.get o1 (Own.lt o1)
 have x2:=s2.get x1 (Own.lt x1)
 obtain ⟨hmb1,hmb2,hml⟩:=Yfm i.1.2 t
 have hmn:=fm.1
 have hS1le:h.length≤h1.length:=(s0.cat s1).le
 have hnw0:Zti i.1.2 t=false→Zjg i t=none:=fun hno=>by
  unfold Zjg Zti at *
  cases hm:Zmq i.1.2 t with
  | none=>rfl
  | some m=>rw [hm] at hno; cases hno
 refine Zbs (fun b1=>⟨S2,_,0,0,true,by rw [hnw0 b1]; rfl,by rw [hnw0 b1]; exact ⟨rfl,.inl rfl⟩⟩) (fun b1=>?_)
 simp only [Zan x2,List.getElem?_cons_succ,List.getElem?_cons_zero,Zaj]
 have hnw:Zjg i t=if i.2.all (fun p=>(Zgz (Zmu i.1.2 t) p.2).isSome) then some (i.2.map (Yww (Zmu i.1.2 t))) else none:=by
  unfold Zjg Zti at *
  cases hm:Zmq i.1.2 t with
  | none=>rw [hm] at b1; cases b1
  | some m=>
   have hml':Zmu i.1.2 t=bdL m:=by unfold Zmu; rw [hm]
   simp only [hml']
   by_cases hall:i.2.all (fun p=>(Zgz (bdL m) p.2).isSome)=true
   ·rw [if_pos hall,if_pos hall,Ymn hall]
   ·rw [if_neg hall,if_neg hall]
 generalize Zmu i.1.2 t=ml at *
 refine Zku.L6ind _ _ _ _ _ _ _ _ _ _ (J:=fun (g:Nat) a8 n8 c8 e8 x28 h'=>x28=(g:Int)∧g≤n∧Zbc h.length h h'∧h2.length≤h'.length∧Row h'.length h' ma (mn * 2) (Zdb eP ml)∧(i.2.take g).all (fun p=>(Zgz ml p.2).isSome)=true∧n8=g∧Vec Zab h' a8 n8 c8 (Zdb eP ((i.2.take g).map (Yww ml)))∧(∀ j,a8=some (j,0)→j=h0.length ∨ h2.length≤j)) (fun g=>n - g) ?_ 0 _ _ _ _ _ _
  ⟨rfl,by omega,S2,Nat.le_refl _,fm.row Zcr,rfl,rfl,Vec.mk1 (by simpa using o2),fun j hj=>by cases hj; exact .inl rfl⟩
 rintro g a8 n8 c8 e8 x28 h' ⟨rfl,hg,hS,hl1,hrm,hall,rfl,hv,ha⟩ R hR
 unfold Zku.L6t
 have hl2:h1.length≤h2.length:=s2.le
 refine Zar (fun hlt=>?_) (fun hge=>?_)
 ·obtain ⟨j,o,hgl,rfl,hj,hr,_,_⟩:=(r.same hS).pr (k:=n8) (by omega)
  simp only [Zau,Int.toNat_natCast,hr,Zao,Zae,Zam,Zah,Zaw]
  rw [Zfb]
  generalize hq:h' ++ [Zcb.cells Zab [.str i.2[n8].1,.str i.2[n8].2] false]=hq'
  have sq:Zbc h'.length h' hq':=by rw [← hq]; exact Zal
  have oq:hq'[h'.length]?=some (.cells Zab [.str i.2[n8].1,.str i.2[n8].2] false):=by rw [← hq]; simp
  simp only [Zas,Zan oq,Nat.zero_add,List.getElem?_cons_succ,List.getElem?_cons_zero,Zah]
  refine ⟨by omega,(Zyq (hrm.same' sq) (by omega) hmb1 hmb2 (hns _ (List.getElem_mem hgl))).mono ?_⟩
  rintro v h3 ⟨rfl,s3⟩
  have hshape:Zpy ml i.2[n8].2=.tup [.str ((Zgz ml i.2[n8].2).getD []),.bool (Zgz ml i.2[n8].2).isSome]:=by
   unfold Zpy; cases Zgz ml i.2[n8].2 <;> rfl
  rw [hshape]
  simp only [Zco,Zae,Zah,Zaq,Zam]
  have S3:=(hS.cat sq).cat s3
  have o3:=s3.get oq (Own.lt oq)
  refine Zbs (fun b2=>?_) (fun b2=>?_)
  ·have:Zjg i t=none:=by rw [hnw,Zqz hgl b2]; rfl
   exact ⟨S3.cat Zal,_,0,0,true,by rw [this]; rfl,by rw [this]; exact ⟨rfl,.inl rfl⟩⟩
  ·simp only [Zan o3,List.getElem?_cons_zero,Zah]
   refine ((hv.same sq).same s3).pushN Yig Yth Ytj Ysj (by rw [Zat Zcr]; simp; omega) rfl (by omega) rfl (by omega) (fun h6 hl6 hi6 hk6=>?_)
   simp only [Zaj]
   rw [Zbm (by omega)]
   have hle:=S3.le
   have hlq:=sq.le
   have hl3:=s3.le
   have hb8:∀ j,a8=some (j,0)→h.length≤j:=fun j hj=>by rcases ha j hj with hh | hh <;> omega
   have hlast:∀ j,(some (h3.length + 1,0):Pt)=some (j,0)→j=h0.length ∨ h2.length≤j:=fun j hj=>by
    cases hj
    exact .inr (by omega)
   refine hR (n8 + 1) _ _ _ _ _ _ (by omega) ⟨rfl,by omega,⟨by omega,fun j hj=>?_⟩,by omega,?_,Zgp hgl hall b2,rfl,Vec.mk1 ?_,hlast⟩
   ·rw [hk6 j (by omega) fun q hq=>by have:=hb8 q hq; omega]; exact S3.eq j hj
   ·have hr3:=(hrm.same' sq).same' s3
    obtain ⟨hx1,hx2⟩:=hr3
    rcases fm.2 with h0' | ⟨q2,hq2,hqb2,hq3⟩
    ·exact ⟨hx1,.inl (by omega)⟩
    ·refine ⟨hx1,hx2.imp id ?_⟩
     rintro ⟨q,o',ty,all,ro,hqa,hqb,hqg,hq4,hq5⟩
     refine ⟨q,o',ty,all,ro,hqa,by omega,?_,hq4,hq5⟩
     rw [hk6 q hqb fun q' hq'=>?_]
     ·exact hqg
     ·intro e
      subst e
      rw [hqa] at hq2; cases hq2
      have:=Own.lt hq3
      rcases ha _ hq' with hh | hh
      ·have:=Own.lt o1; omega
      ·omega
   ·rw [hi6,List.take_succ_eq_append_getElem hgl,List.map_append,Zgw]; rfl
 ·apply Zku.A6x0i
  have:n8=n:=by omega
  subst this
  rw [show i.2.take n8=i.2 from List.take_of_length_le (by omega)] at hv hall
  have:Zjg i t=some (i.2.map (Yww ml)):=by rw [hnw,hall]; rfl
  refine ⟨hS,a8,n8,c8,e8,by rw [this]; rfl,?_⟩
  rw [this]
  exact hv.fresh (b:=h.length) (by simp; omega) fun j hj=>by rcases ha j hj with hh | hh <;> omega
end Go.Sim

set_option linter.unusedVariables false
set_option linter.unusedSimpArgs false
set_option maxRecDepth 20000
namespace Go.Sim
open Go Go.RowKit

end Go.Sim

set_option linter.unusedSimpArgs false
set_option linter.unusedVariables false
namespace Go.Sim

def Up (cs:List Nd) (a b:Nat):Prop:=∃ i,∃ h:i < cs.length,cs[i].1=[a]∧b∈cs[i].2
inductive Rch (cs:List Nd) (a:Nat):Nat→Prop
 | one {b:Nat}:Up cs a b→Rch cs a b
 | more {b c:Nat}:Rch cs a b→Up cs b c→Rch cs a c
theorem Yex {cs:List Nd} (h:Zit cs=true) {i:Nat} (hi:i < cs.length):Ydc cs i=true:=by
 unfold Zit at h
 simp only [Bool.and_eq_true,List.all_eq_true] at h
 exact h.1 i (List.mem_range.2 hi)
theorem Zqk {cs:List Nd} (h:Zit cs=true) {i:Nat} (hi:i < cs.length):∃ d,cs[i].1=[d]∧65≤d∧d≤84:=by
 have:=Yex h hi
 unfold Ydc at this
 rw [Zgh hi] at this
 simp only [Bool.and_eq_true] at this
 have h1:=this.1.1
 unfold Zwk at h1
 split at h1
 ·rename_i d hd; exact ⟨d,hd,by simpa using h1⟩
 ·cases h1
theorem Yit {cs:List Nd} (h:Zit cs=true) {i:Nat} (hi:i + 1 < cs.length) {a b:Nat} (ha:cs[i].1=[a]) (hb:cs[i + 1].1=[b]):a < b:=by
 have:=Yex h hi
 unfold Ydc at this
 rw [Zgh hi,Nat.add_sub_cancel,Zgh (by omega),ha,hb] at this
 simp only [Bool.and_eq_true] at this
 have h1:=this.1.2
 simpa [Zfo] using h1
theorem Zzw {cs:List Nd} (h:Zit cs=true):∀ (k i:Nat) (hi:i + k + 1 < cs.length) {a b:Nat},cs[i].1=[a]→cs[i + k + 1].1=[b]→a < b
 | 0,i,hi,a,b,ha,hb=>Yit h hi ha hb
 | k + 1,i,hi,a,b,ha,hb=>by
  obtain ⟨d,hd,_⟩:=Zqk h (show i + k + 1 < cs.length by omega)
  have h1:=Zzw h k i (by omega) ha hd
  have h2:=Yit h (i:=i + k + 1) (by omega) hd hb
  omega
theorem Ybq {cs:List Nd} (h:Zit cs=true) {i j:Nat} (hi:i < cs.length) (hj:j < cs.length) {a:Nat} (ha:cs[i].1=[a]) (hb:cs[j].1=[a]):i=j:=by
 rcases Nat.lt_trichotomy i j with hl | he | hl
 ·obtain ⟨k,rfl⟩:∃ k,j=i + k + 1:=⟨j - i - 1,by omega⟩
  have:=Zzw h k i hj ha hb; omega
 ·exact he
 ·obtain ⟨k,rfl⟩:∃ k,i=j + k + 1:=⟨i - j - 1,by omega⟩
  have:=Zzw h k j hi hb ha; omega
theorem Ztp {cs:List Nd} (h:Zit cs=true) {i:Nat} (hi:i < cs.length) {b:Nat} (hb:b∈cs[i].2):∃ j,∃ hj:j < i,cs[j].1=[b]:=by
 have:=Yex h hi
 unfold Ydc at this
 rw [Zgh hi] at this
 simp only [Bool.and_eq_true] at this
 have h1:=this.2
 unfold Yhe at h1
 rw [List.all_eq_true] at h1
 obtain ⟨k,hk,rfl⟩:=List.mem_iff_getElem.1 hb
 have h2:=h1 k (List.mem_range.2 hk)
 unfold Ydh at h2
 rw [Zgh hk] at h2
 simp only [Bool.and_eq_true] at h2
 have h3:=h2.1
 unfold Zgg at h3
 rw [List.any_eq_true] at h3
 obtain ⟨x,hx,he⟩:=h3
 obtain ⟨j,hj,rfl⟩:=List.mem_iff_getElem.1 hx
 rw [List.length_take] at hj
 exact ⟨j,by omega,by simpa using he⟩
theorem Up.ix {cs:List Nd} (h:Zit cs=true) {a b i:Nat} (u:Up cs a b) (hi:i < cs.length) (ha:cs[i].1=[a]):b∈cs[i].2:=by
 obtain ⟨j,hj,hja,hb⟩:=u
 have:=Ybq h hi hj ha hja
 subst this; exact hb
theorem Rch.ix {cs:List Nd} (h:Zit cs=true) {a b i:Nat} (r:Rch cs a b) (hi:i < cs.length) (ha:cs[i].1=[a]):∃ j,∃ hj:j < i,cs[j].1=[b]:=by
 induction r with
 | one u=>exact Ztp h hi (u.ix h hi ha)
 | more _ u ih=>
  obtain ⟨j,hj,hb⟩:=ih
  obtain ⟨k,hk,hc⟩:=Ztp h (show j < cs.length by omega) (u.ix h (by omega) hb)
  exact ⟨k,by omega,hc⟩
structure Zyh (cs:List Nd) (a:Nat) (i:Nat) (ab:List Nat):Prop where
 sound:∀ d∈ab,Rch cs a d
 done:∀ j,i≤j→∀ hj:j < cs.length,(cs[j].1=[a] ∨ ∃ d,cs[j].1=[d]∧d∈ab)→∀ b∈cs[j].2,b∈ab
theorem Zyh.step {cs:List Nd} (h:Zit cs=true) {a i:Nat} {ab:List Nat} (D:Zyh cs a (i + 1) ab) (hi:i < cs.length) (hc:cs[i].1=[a] ∨ ∃ d,cs[i].1=[d]∧d∈ab):Zyh cs a i (ab ++ cs[i].2):=by
 refine ⟨fun d hd=>?_,fun j hj hjl hcj b hb=>?_⟩
 ·rcases List.mem_append.1 hd with hd | hd
  ·exact D.sound d hd
  ·rcases hc with hc | ⟨e,he,hm⟩
   ·exact .one ⟨i,hi,hc,hd⟩
   ·exact .more (D.sound e hm) ⟨i,hi,he,hd⟩
 ·by_cases hji:j=i
  ·subst hji; exact List.mem_append_right _ hb
  ·refine List.mem_append_left _ (D.done j (by omega) hjl ?_ b hb)
   rcases hcj with hcj | ⟨e,he,hm⟩
   ·exact .inl hcj
   ·rcases List.mem_append.1 hm with hm | hm
    ·exact .inr ⟨e,he,hm⟩
    ·exfalso
     obtain ⟨k,hk,hke⟩:=Ztp h hi hm
     have:=Ybq h hjl (show k < cs.length by omega) he hke
     omega
theorem Zyh.skip {cs:List Nd} {a i:Nat} {ab:List Nat} (D:Zyh cs a (i + 1) ab) (hc:∀ hi:i < cs.length,¬ (cs[i].1=[a] ∨ ∃ d,cs[i].1=[d]∧d∈ab)):Zyh cs a i ab:=
 ⟨D.sound,fun j hj hjl hcj b hb=>by
  by_cases hji:j=i
  ·subst hji; exact absurd hcj (hc hjl)
  ·exact D.done j (by omega) hjl hcj b hb⟩
theorem Zyh.all {cs:List Nd} (h:Zit cs=true) {a i:Nat} {ab:List Nat} (D:Zyh cs a 0 ab) (hi:i < cs.length) (ha:cs[i].1=[a]) (d:Nat):d∈ab ↔ Rch cs a d:=by
 refine ⟨D.sound d,fun r=>?_⟩
 induction r with
 | one u=>exact D.done i (by omega) hi (.inl ha) _ (u.ix h hi ha)
 | more r u ih=>
  obtain ⟨j,hj,hb⟩:=r.ix h hi ha
  exact D.done j (by omega) (by omega) (.inr ⟨_,hb,ih⟩) _ (u.ix h (by omega) hb)
structure Yvc (cs:List Nd) (a i:Nat) (r:Nat) (ab:List Nat):Prop where
 sound:∀ d∈ab,Rch cs a d
 first:∀ d,Up cs a d→d∈ab
 near:∀ j,j < i→i≤j + 1 + r→∀ hj:j < cs.length,∀ d,cs[j].1=[d]→Rch cs a d→d∈ab
theorem Yvc.next {cs:List Nd} (h:Zit cs=true) {a i r:Nat} {ab ab':List Nat} (R:Yvc cs a i r ab) (hi:i < cs.length) (ha:cs[i].1=[a])
  (hs:∀ d∈ab',d∈ab ∨ ∃ e∈ab,Up cs e d) (hc:∀ d,(d∈ab ∨ ∃ e∈ab,Up cs e d)→d∈ab'):Yvc cs a i (r + 1) ab':=by
 refine ⟨fun d hd=>?_,fun d u=>hc d (.inl (R.first d u)),fun j hj hn hjl d hd rc=>?_⟩
 ·rcases hs d hd with hd | ⟨e,he,u⟩
  ·exact R.sound d hd
  ·exact .more (R.sound e he) u
 ·cases rc with
  | one u=>exact hc d (.inl (R.first d u))
  | more rc u=>
   rename_i e
   obtain ⟨k,hk,hb⟩:=rc.ix h hi ha
   have hjk:j < k:=by
    obtain ⟨q,hq,hcq⟩:=Ztp h (show k < cs.length by omega) (u.ix h (by omega) hb)
    have:=Ybq h hjl (show q < cs.length by omega) hd hcq
    omega
   exact hc d (.inr ⟨e,R.near k hk (by omega) (by omega) e hb rc,u⟩)
theorem Yvc.all {cs:List Nd} (h:Zit cs=true) {a i r:Nat} {ab:List Nat} (R:Yvc cs a i r ab) (hi:i < cs.length) (ha:cs[i].1=[a]) (hr:i≤r + 1) (d:Nat):d∈ab ↔ Rch cs a d:=by
 refine ⟨R.sound d,fun rc=>?_⟩
 obtain ⟨j,hj,hd⟩:=rc.ix h hi ha
 exact R.near j hj (by omega) (by omega) d hd rc
end Go.Sim

set_option linter.unusedVariables false
set_option linter.unusedSimpArgs false
set_option maxRecDepth 20000
namespace Go.Sim
open Go Go.RowKit

end Go.Sim

set_option linter.unusedVariables false
set_option linter.unusedSimpArgs false
set_option maxRecDepth 20000
namespace Go.Sim
open Go Go.RowKit

end Go.Sim

set_option linter.unusedVariables false
set_option linter.unusedSimpArgs false
set_option maxRecDepth 20000
namespace Go.Sim
open Go Go.RowKit

structure Ybg (b:Nat) (h:Zaa) (a:Pt) (n c:Nat) (l:List Nd):Prop where
 vec:Vec Zab h a n c (Zdb eP l)
 len:l.length=n
 low:∀ i,a=some (i,0)→b≤i
 cap:n≤c
theorem Ybg.row {b:Nat} {h:Zaa} {a:Pt} {n c:Nat} {l:List Nd} (f:Ybg b h a n c l):Row h.length h a (n * 2) (Zdb eP l):=f.vec.row (by rw [Zat Zcr,f.len])
theorem Ybg.same {b:Nat} {h h':Zaa} {a:Pt} {n c:Nat} {l:List Nd} (f:Ybg b h a n c l) (s:Zbc h.length h h'):Ybg b h' a n c l:=⟨f.vec.same s,f.len,f.low,f.cap⟩
def But (a:Pt) (h h':Zaa):Prop:=h.length≤h'.length∧∀ j,j < h.length→(∀ i,a=some (i,0)→j≠i)→h'[j]?=h[j]?
theorem But.of {a:Pt} {h h':Zaa} (s:Zbc h.length h h'):But a h h':=⟨s.le,fun j hj _=>s.eq j hj⟩
theorem But.below {a:Pt} {b:Nat} {h h':Zaa} (s:But a h h') (hb:b≤h.length) (hl:∀ i,a=some (i,0)→b≤i):Zbc b h h':=⟨s.1,fun j hj=>s.2 j (by omega) fun i hi=>by have:=hl i hi; omega⟩
end Go.Sim

set_option linter.unusedSimpArgs false
set_option linter.unusedVariables false
namespace Go.Sim

structure Wk where
 cand:Nd→List Int
 needs:Int→List Nat→Option (List Nd)
 most:List Int→Int
inductive Fnd where
 | ok (s:List Nat)
 | no (why:List Nat) (n:Nd)
def Yfj (i:Nat):Nat:=if i=0 then 40 else 44
def Yfr:List Nat:=[108,111,110,103]
def Yto:List Nat:=[100,101,101,112]
def Ykj:List Nat:=[110,111,110,101]
def Zzj:List Nat:=[109,97,110,121]
def Yzg:List Nat:=[98,105,103]
def Zty:List Nat:=[119,114,111,110,103]
def Zfa (k:Wk) (sp:Bool) (n:Nd):Int × List Nat:=
 match k.cand n with
 | []=>(-1,Ykj)
 | [x]=>(x,[])
 | l=>if sp && decide (0≤k.most l) then (k.most l,[]) else (-1,Zzj)
def Zgf (g:List Nd→Nd→Fnd × List Nd) (r:(Fnd × List Nd) × Nat) (m:Nd):(Fnd × List Nd) × Nat:=
 match r.1.1 with
 | .no y n=>r
 | .ok out=>(match g r.1.2 m with
  | (.ok d,a)=>((.ok (out ++ Yfj r.2 :: d),a),r.2 + 1)
  | (.no y n,a)=>((.no y n,a),r.2))
def Zli (k:Wk) (sp:Bool) (dec:Int→List Nat):Nat→List Nd→Nd→Fnd × List Nd
 | f,asked,n=>
  if 300≤asked.length then (.no Yfr n,asked) else
  match f with
  | 0=>(.no Yto n,asked ++ [n])
  | f + 1=>
   match Zfa k sp n with
   | (x,y)=>if x < 0 then (.no y n,asked ++ [n]) else
    match k.needs x n.2 with
    | none=>(.no Yzg n,asked ++ [n])
    | some ms=>
     (match (ms.foldl (Zgf (Zli k sp dec f)) ((.ok (dec x),asked ++ [n]),0)).1 with
     | (.ok out,a)=>(.ok (if ms=[] then out else out ++ [41]),a)
     | r=>r)
theorem Zrx (g:List Nd→Nd→Fnd × List Nd):∀ (l:List Nd) (y:List Nat) (n:Nd) (a:List Nd) (q:Nat),l.foldl (Zgf g) ((.no y n,a),q)=((.no y n,a),q)
 | [],_,_,_,_=>rfl
 | m :: l,y,n,a,q=>by simp only [List.foldl_cons,Zgf]; exact Zrx g l y n a q
theorem Yta (g:List Nd→Nd→Fnd × List Nd) (l:List Nd) (z:(Fnd × List Nd) × Nat) (q:Nat) (hq:q < l.length):(l.take (q + 1)).foldl (Zgf g) z=Zgf g ((l.take q).foldl (Zgf g) z) l[q]:=by
 rw [List.take_succ_eq_append_getElem hq,List.foldl_append]; rfl
theorem Ypt (g:List Nd→Nd→Fnd × List Nd) (l:List Nd) (z:(Fnd × List Nd) × Nat) (q:Nat) {y:List Nat} {n:Nd} {a:List Nd} {i:Nat} (h:(l.take q).foldl (Zgf g) z=((.no y n,a),i)):l.foldl (Zgf g) z=((.no y n,a),i):=by
 conv=>lhs; rw [← List.take_append_drop q l]
 rw [List.foldl_append,h,Zrx]
end Go.Sim

set_option linter.unusedVariables false
set_option linter.unusedSimpArgs false
set_option maxRecDepth 20000
namespace Go.Sim
open Go Go.RowKit

noncomputable def wk (w:Wd):Wk:=⟨Zjl w,fun x t=>Zjg (Zpe w x) t,Zrc w⟩
structure FrS (i:Nat) (qa:Pt) (h h':Zaa) (qa':Pt):Prop where
 le:h.length≤h'.length
 eq:∀ j,j < h.length→j≠i→(∀ q,qa=some (q,0)→j≠q)→h'[j]?=h[j]?
 pt:qa'=qa ∨ ∀ q,qa'=some (q,0)→h.length≤q
theorem FrS.of_same {i:Nat} {qa:Pt} {h h':Zaa} (s:Zbc h.length h h'):FrS i qa h h' qa:=⟨s.le,fun j hj _ _=>s.eq j hj,.inl rfl⟩
theorem FrS.refl (i:Nat) (qa:Pt) (h:Zaa):FrS i qa h h qa:=.of_same (Zbc.refl _ _)
theorem FrS.ne {i:Nat} {qa qa':Pt} {h h':Zaa} (f:FrS i qa h h' qa') {j:Nat} (hj:j < h.length) (hq:∀ q,qa=some (q,0)→j≠q):∀ q,qa'=some (q,0)→j≠q:=by
 intro q hq'
 rcases f.pt with e | e
 ·exact hq q (e ▸ hq')
 ·have:=e q hq'; omega
theorem FrS.trans {i:Nat} {qa qa1 qa2:Pt} {h h1 h2:Zaa} (f:FrS i qa h h1 qa1) (g:FrS i qa1 h1 h2 qa2):FrS i qa h h2 qa2:=by
 have:=f.le; have:=g.le
 refine ⟨by omega,fun j hj hi hq=>?_,?_⟩
 ·rw [g.eq j (by omega) hi (f.ne hj hq)]; exact f.eq j hj hi hq
 ·rcases g.pt with e | e
  ·rcases f.pt with e' | e'
   ·exact .inl (e.trans e')
   ·exact .inr fun q hq=>e' q (e ▸ hq)
  ·exact .inr fun q hq=>by have:=e q hq; omega
theorem FrS.set {i:Nat} {qa:Pt} {h:Zaa} {x:Zcb}:FrS i qa h (h.set i x) qa:=⟨by simp,fun j _ hi _=>Zbw (fun e=>hi e.symm),.inl rfl⟩
theorem FrS.get {i:Nat} {qa qa':Pt} {h h':Zaa} (f:FrS i qa h h' qa') {j:Nat} {x:Zcb} (hj:h[j]?=some x) (hi:j≠i) (hq:∀ q,qa=some (q,0)→j≠q):h'[j]?=some x:=by rw [f.eq j (Own.lt hj) hi hq]; exact hj
theorem FrS.row {i:Nat} {qa qa':Pt} {h h':Zaa} (f:FrS i qa h h' qa') {a:Pt} {n:Nat} {cs:List Zay} (r:Row h.length h a n cs) (hn:∀ j o,n≠0→a=some (j,o)→j≠i∧∀ q,qa=some (q,0)→j≠q):Row h'.length h' a n cs:=by
 obtain ⟨hl,r⟩:=r
 by_cases h0:n=0
 ·exact ⟨hl,.inl h0⟩
 ·refine ⟨hl,r.imp id ?_⟩
  rintro ⟨j,o',t,all,ro,ha,hi,hg,x⟩
  have:=f.le
  obtain ⟨h1,h2⟩:=hn j o' h0 ha
  exact ⟨j,o',t,all,ro,ha,by omega,by rw [f.eq j hi h1 h2]; exact hg,x⟩
theorem FrS.below {i b:Nat} {qa qa':Pt} {h h':Zaa} (f:FrS i qa h h' qa') (hb:b≤h.length) (hi:b≤i) (hq:∀ q,qa=some (q,0)→b≤q):Zbc b h h':=⟨f.le,fun j hj=>f.eq j (by omega) (by omega) fun q hq'=>by have:=hq q hq'; omega⟩
theorem Yco {w:Wd} (hw:Zcz w=true) {n:Nd} {k:Nat} (hk:k < w.is.length) {ms:List Nd} (h:Zjg w.is[k] n.2=some ms):ms.length≤3∧∀ m∈ms,Zdq w m=true:=by
 have:=Ypo hw (List.getElem_mem hk) h
 exact ⟨this.1,this.2⟩
theorem Ydx {w:Wd} {n:Nd} (h:Zdq w n=true):Zoq n.2=true∧n.2.length≤60:=by
 have:Zoq n.2=true:=by
  unfold Zdq at h
  simp only [Bool.and_eq_true] at h
  exact h.2
 exact ⟨this,(Zzs this)⟩
end Go.Sim

set_option linter.unusedSimpArgs false
set_option linter.unusedVariables false
namespace Go.Sim

def Yxn:Fnd→List Nat | .ok s=>s | .no _ _=>[]
def Yjh:Fnd→List Nat | .ok _=>[] | .no y _=>y
def Zwx (ms:List Nd) (r:Fnd × List Nd):Fnd × List Nd:=match r with | (.ok out,a)=>(.ok (if ms=[] then out else out ++ [41]),a) | r=>r
section
variable {k:Wk} {sp:Bool} {dec:Int→List Nat}
theorem Zpd {f:Nat} {asked:List Nd} {n:Nd} (h:300≤asked.length):Zli k sp dec f asked n=(.no Yfr n,asked):=by cases f <;> (unfold Zli; rw [if_pos h])
theorem Zpc {asked:List Nd} {n:Nd} (h:¬ 300≤asked.length):Zli k sp dec 0 asked n=(.no Yto n,asked ++ [n]):=by unfold Zli; rw [if_neg h]
theorem Zmf {f:Nat} {asked:List Nd} {n:Nd} (h:¬ 300≤asked.length) (hx:(Zfa k sp n).1 < 0):Zli k sp dec (f + 1) asked n=(.no (Zfa k sp n).2 n,asked ++ [n]):=by
 unfold Zli; rw [if_neg h]; simp only; rw [if_pos hx]
theorem Zse {f:Nat} {asked:List Nd} {n:Nd} (h:¬ 300≤asked.length) (hx:¬ (Zfa k sp n).1 < 0) (hn:k.needs (Zfa k sp n).1 n.2=none):Zli k sp dec (f + 1) asked n=(.no Yzg n,asked ++ [n]):=by
 unfold Zli; rw [if_neg h]; simp only; rw [if_neg hx,hn]
theorem Zvg {f:Nat} {asked:List Nd} {n:Nd} {ms:List Nd} (h:¬ 300≤asked.length) (hx:¬ (Zfa k sp n).1 < 0) (hn:k.needs (Zfa k sp n).1 n.2=some ms) :
  Zli k sp dec (f + 1) asked n=Zwx ms (ms.foldl (Zgf (Zli k sp dec f)) ((.ok (dec (Zfa k sp n).1),asked ++ [n]),0)).1:=by
 conv=>lhs; unfold Zli
 rw [if_neg h]; simp only; rw [if_neg hx,hn]; rfl
def Xbu (asked:List Nd) (r:Fnd × List Nd):Prop:=asked.length≤r.2.length∧r.2.length≤300∧∀ s,r.1=.ok s→s.length + 10 * asked.length + 2≤10 * r.2.length
theorem Zxz {g:List Nd→Nd→Fnd × List Nd} (hg:∀ a m,a.length≤300→Xbu a (g a m)) (A:Nat):∀ (l:List Nd) (z:(Fnd × List Nd) × Nat),z.1.2.length≤300→A≤z.1.2.length→(∀ s,z.1.1=.ok s→s.length + 10 * A + 3≤10 * z.1.2.length) →
  let r:=l.foldl (Zgf g) z; A≤r.1.2.length∧r.1.2.length≤300∧∀ s,r.1.1=.ok s→s.length + 10 * A + 3≤10 * r.1.2.length
 | [],z,h1,h2,h3=>⟨h2,h1,h3⟩
 | m :: l,z,h1,h2,h3=>by
  simp only [List.foldl_cons]
  have key:(Zgf g z m).1.2.length≤300∧A≤(Zgf g z m).1.2.length∧∀ s,(Zgf g z m).1.1=.ok s→s.length + 10 * A + 3≤10 * (Zgf g z m).1.2.length:=by
   obtain ⟨⟨x,a⟩,q⟩:=z
   cases x with
   | no y n=>exact ⟨h1,h2,fun s hs=>by cases hs⟩
   | ok out=>
    have hb:=hg a m h1
    have h3':=h3 out rfl
    simp only at h1 h2 h3'
    unfold Zgf
    simp only
    rcases hgm:g a m with ⟨d,a'⟩
    rw [hgm] at hb
    obtain ⟨b1,b2,b3⟩:=hb
    simp only at b1 b2 b3
    cases d with
    | no y n=>exact ⟨b2,by simp only; omega,fun s hs=>by cases hs⟩
    | ok d=>
     have:=b3 d rfl
     refine ⟨b2,by simp only; omega,fun s hs=>?_⟩
     cases hs
     simp only [List.length_append,List.length_cons]
     omega
  exact Zxz hg A l _ key.1 key.2.1 key.2.2
theorem Ybo (hd:∀ x,(dec x).length≤6):∀ (f:Nat) (asked:List Nd) (n:Nd),asked.length≤300→Xbu asked (Zli k sp dec f asked n)
 | f,asked,n,h=>by
  by_cases h3:300≤asked.length
  ·rw [Zpd h3]; exact ⟨Nat.le_refl _,h,fun s hs=>by cases hs⟩
  ·match f with
   | 0=>rw [Zpc h3]; exact ⟨by simp,by simp; omega,fun s hs=>by cases hs⟩
   | f + 1=>
    by_cases hx:(Zfa k sp n).1 < 0
    ·rw [Zmf h3 hx]; exact ⟨by simp,by simp; omega,fun s hs=>by cases hs⟩
    ·cases hn:k.needs (Zfa k sp n).1 n.2 with
     | none=>rw [Zse h3 hx hn]; exact ⟨by simp,by simp; omega,fun s hs=>by cases hs⟩
     | some ms=>
      rw [Zvg h3 hx hn]
      have:=Zxz (g:=Zli k sp dec f) (fun a m ha=>Ybo hd f a m ha) asked.length ms ((.ok (dec (Zfa k sp n).1),asked ++ [n]),0) (by simp; omega) (by simp) (fun s hs=>by
       cases hs; have:=hd (Zfa k sp n).1; simp; omega)
      simp only at this
      generalize (ms.foldl (Zgf (Zli k sp dec f)) ((.ok (dec (Zfa k sp n).1),asked ++ [n]),0)).1=z at this ⊢
      obtain ⟨x,a⟩:=z
      obtain ⟨t1,t2,t3⟩:=this
      simp only at t1 t2 t3
      cases x with
      | no y n=>exact ⟨t1,t2,fun s hs=>by cases hs⟩
      | ok out=>
       refine ⟨t1,t2,fun s hs=>?_⟩
       have:=t3 out rfl
       simp only [Zwx,Fnd.ok.injEq] at hs
       subst hs
       split <;> simp [Zwx] <;> omega
theorem Yvv {g:List Nd→Nd→Fnd × List Nd} (l:List Nd) (z:(Fnd × List Nd) × Nat) {out:List Nat}:(l.foldl (Zgf g) z).1.1=.ok out→(l.foldl (Zgf g) z).2=z.2 + l.length:=by
 induction l generalizing z with
 | nil=>intro _; rfl
 | cons m l ih=>
  intro h
  simp only [List.foldl_cons] at h ⊢
  rw [ih _ h]
  obtain ⟨⟨x,a⟩,q⟩:=z
  have hno:∀ y n a q,(l.foldl (Zgf g) ((.no y n,a),q)).1.1≠.ok out:=fun y n a q=>by rw [Zrx]; simp
  cases x with
  | no y n=>exact absurd h (hno y n a q)
  | ok o=>
   unfold Zgf at h ⊢
   simp only at h ⊢
   rcases hgm:g a m with ⟨d,a'⟩
   rw [hgm] at h
   cases d with
   | no y n=>exact absurd h (hno y n a' q)
   | ok d=>simp only [List.length_cons]; omega
end
end Go.Sim

set_option linter.unusedVariables false
set_option linter.unusedSimpArgs false
set_option maxRecDepth 20000
namespace Go.Sim
open Go Go.RowKit

theorem Yrh {g:FuncId} {caps:List Zay} {K:FuncId→List Zay→Prop}:Yzq (.fn g caps) K=K g caps:=rfl
theorem Vec.app0 {P:Program} {t ty:TypeId} {h:Zaa} {i n c sz:Nat} {e:Bool} {xa:Pt} {m c':Nat} {e':Bool} {cs new:List Zay} {K:Zay→Zaa→Prop} (hi:h[i]?=some (.cells ty cs false))
  (hu:P.underlying t=some (.slice ty)) (hc:P.cellsOf ty=sz) (hok:P.okElem ty=true) (hby:P.bytesOf ty≤127) (hn:cs.length=n * sz) (hx:rowOf h xa (m * sz)=some new) (hl:new.all Zay.leaf=true)
  (hle:n + m≤1099511627776) (hk:∀ h',h'.length=h.length + 1→h'[h.length]?=some (.cells ty (cs ++ new) false)→(∀ j,j < h.length→j≠i→h'[j]?=h[j]?) →
   K (.slice (some (h.length,0)) (n + m) (n + m) false) h'):Zci P t h (.slice (some (i,0)) n c e) (.slice xa m c' e') K:=by
 unfold Zci
 simp only [hu,hc,hx,Zao]
 refine ⟨⟨hok,?_,hl⟩,.inl ⟨by trivial,?_⟩⟩
 ·have:(n + m) * (P.bytesOf ty + 1)≤(n + m) * 128:=Nat.mul_le_mul_left _ (by omega)
  omega
 ·simp only [Ztn,hi,true_and]
  refine ⟨hn,hk _ (by simp) (by rw [List.getElem?_append_right (by simp)]; simp) fun j hj hne=>?_⟩
  rw [List.getElem?_append_left (by simpa using hj),List.getElem?_set_ne (fun e=>hne e.symm)]
theorem Ybw {h:Zaa} {a:Pt} {n c:Nat} {e:Bool} {l:List Nd} (r:Row h.length h a (n * 2) (Zdb eP l)) (he:a=none→e=true) (hn:n≤1048576) :
  Zak pg Zdm [.slice a n c e] h fun v h'=>∃ a' c' e',v=.slice a' n c' e'∧Ybg h.length h' a' n c' l∧Zbc h.length h h'∧(a'=none→e'=true):=by
 have hl:l.length=n:=by have:=r.1; rw [Zat Zcr] at this; omega
 apply Zhe.call
 refine ⟨he,?_⟩
 match a with
 | none=>
  have h0:n=0:=by
   rcases r.2 with h0 | ⟨i,o,t,all,ro,ha,_⟩
   ·omega
   ·cases ha
  subst h0
  have:l=[]:=List.eq_nil_of_length_eq_zero hl
  subst this
  exact ⟨none,0,true,rfl,⟨.inl ⟨rfl,rfl,rfl,rfl⟩,rfl,fun i hi=>(by cases hi),Nat.le_refl _⟩,Zbc.refl _ _,fun _=>rfl⟩
 | some (i,o)=>
  simp only [Option.isNone_some,Zaw]
  generalize hh0:h ++ [Zcb.cells Zab [] false]=h0
  have s0:Zbc h.length h h0:=by rw [← hh0]; exact Zal
  have o0:h0[h.length]?=some (.cells Zab [] false):=by rw [← hh0]; simp
  have l0:h0.length=h.length + 1:=by rw [← hh0]; simp
  refine Zdj (fun h=>by cases h) (fun _=>?_)
  refine Vec.app0 (n:=0) o0 Zhi Zng Zni Znh (by simp) (r.same' s0).rowOf (Zjw (enc:=eP) (fun _=>rfl) l) (by omega) (fun h1 hl1 hi1 hk1=>?_)
  simp only [Zaj,Nat.zero_add]
  exact ⟨_,_,_,rfl,⟨Vec.mk1 (by simpa using hi1),hl,fun j hj=>by cases hj; omega,Nat.le_refl _⟩,⟨by omega,fun j hj=>by rw [hk1 j (by omega) (by omega)]; exact s0.eq j hj⟩,fun h=>by cases h⟩
structure Yfx (hb:Zaa) (i:Nat) (u v:Zay) (sp:Bool) (h:Zaa) (qa:Pt) (asked:List Nd) (fl:Nd):Prop where
 same:Zbc hb.length hb h
 ge:hb.length≤i
 ob:∃ qn qc qe x7,h[i]?=some (.cells Zfc [u,v,.bool sp,.fn Zdf [],.slice qa qn qc qe,.str fl.1,.str fl.2,x7] false)∧Ybg hb.length h qa qn qc asked
 ne:∀ q,qa=some (q,0)→q≠i
section
variable {hb:Zaa} {i:Nat} {u v:Zay} {sp:Bool} {h:Zaa} {qa:Pt} {asked:List Nd} {fl:Nd}
theorem Yfx.step {h':Zaa} (r:Yfx hb i u v sp h qa asked fl) (k:Zbc h.length h h'):Yfx hb i u v sp h' qa asked fl:=by
 obtain ⟨qn,qc,qe,x7,ho,hv⟩:=r.ob
 exact ⟨r.same.trans (k.mono r.same.le),r.ge,⟨qn,qc,qe,x7,k.get ho (Own.lt ho),hv.same k⟩,r.ne⟩
theorem Yfx.lt (r:Yfx hb i u v sp h qa asked fl):i < h.length:=by obtain ⟨_,_,_,_,ho,_⟩:=r.ob; exact Own.lt ho
theorem Yfx.low (r:Yfx hb i u v sp h qa asked fl):∀ q,qa=some (q,0)→hb.length≤q∧q < h.length:=by
 obtain ⟨qn,qc,qe,x7,ho,hv⟩:=r.ob
 exact fun q hq=>⟨hv.low q hq,hv.vec.lt' hq⟩
theorem Yfx.write {qa':Pt} {qn qc:Nat} {qe:Bool} {x7:Zay} {x:Zcb} {l:List Nd} {fl':Nd} (sm:Zbc hb.length hb h) (ge:hb.length≤i) (ho:h[i]?=some x)
  (hv:Ybg hb.length h qa' qn qc l) (ne:∀ q,qa'=some (q,0)→q≠i):Yfx hb i u v sp (h.set i (.cells Zfc [u,v,.bool sp,.fn Zdf [],.slice qa' qn qc qe,.str fl'.1,.str fl'.2,x7] false)) qa' l fl':=by
 refine ⟨⟨by simp; exact sm.le,fun j hj=>by rw [Zbw (by omega)]; exact sm.eq j hj⟩,ge,⟨qn,qc,qe,x7,Zce ho,⟨?_,hv.len,hv.low,hv.cap⟩⟩,ne⟩
 exact hv.vec.agree fun j hj=>Zbw (fun e=>ne j hj e.symm)
def Ypc (hb:Zaa) (i:Nat) (u v:Zay) (sp:Bool) (h:Zaa) (qa:Pt) (r:Fnd × List Nd) (x:Zay) (h':Zaa):Prop:=
 ∃ qa' fl',x=.tup [.str (Yxn r.1),.str (Yjh r.1)]∧Yfx hb i u v sp h' qa' r.2 fl'∧FrS i qa h h' qa'∧∀ y n,r.1=.no y n→(y≠[]∧y≠Zty)∧fl'=n
theorem Ypc.of {h0:Zaa} {qa0:Pt} {r:Fnd × List Nd} {x:Zay} {h':Zaa} (F:FrS i qa0 h0 h qa) (q:Ypc hb i u v sp h qa r x h'):Ypc hb i u v sp h0 qa0 r x h':=by
 obtain ⟨qa',fl',e,a,f,z⟩:=q
 exact ⟨qa',fl',e,a,F.trans f,z⟩
theorem Yla (y:List Nat) (hy:y≠[]∧y≠Zty) (rd:Yfx hb i u v sp h qa asked fl) {n:Nd} {p0 p1 p2:Nat} {a:Pt} {m c:Nat} {e:Bool} {st:List Nd} (hp0:h[p0]?=some (.cells Zfw [.ptr (some (i,0))] false))
  (hp1:h[p1]?=some (.cells Zab [.str n.1,.str n.2] false)) (hp2:h[p2]?=some (.cells Zbo [.slice a m c e] false)) (row:Row h.length h a (m * 2) (Zdb eP st)) (he:a=none→e=true) (hm:m≤1048576) (hne:p0≠i) :
  Zak pg Zde [.str y,.ptr (some (p1,0)),.ptr (some (p2,0)),.ptr (some (p0,0))] h (Ypc hb i u v sp h qa (.no y n,asked)):=by
 apply Znb.call
 simp only [Zan hp0,Zaz hp1,Zan hp2,List.getElem?_cons_zero,Zer,Zao,Zae,Zam,Zah,Zaj,true_and]
 refine (Ybw row he hm).mono ?_
 rintro x h2 ⟨a',c',e',rfl,nv,s2,_⟩
 have q0:=s2.get hp0 (Own.lt hp0)
 have q1:=s2.get hp1 (Own.lt hp1)
 have rd2:=rd.step s2
 obtain ⟨qn,qc,qe,x7,ho,hv⟩:=rd2.ob
 simp only [Zan q0,Zaz q1,List.getElem?_cons_zero,Zaj,Zau,true_and]
 rw [Zbg ho (by simp)]
 simp only [Zas,putRow,List.take_succ_cons,List.take_zero,List.length_cons,List.length_nil,List.drop_succ_cons,List.drop_zero,List.drop_nil,List.cons_append,List.nil_append,List.append_nil]
 refine ⟨by rw [Zan (by rw [Zbw hne.symm]; exact q0)]; rfl,?_⟩
 rw [Zbg (Zce ho) (by simp)]
 simp only [Zas,putRow,List.take_succ_cons,List.take_zero,List.length_cons,List.length_nil,List.drop_succ_cons,List.drop_zero,List.drop_nil,List.cons_append,List.nil_append,List.append_nil,List.set_set]
 refine ⟨qa,n,rfl,Yfx.write rd2.same rd.ge ho hv rd.ne,(FrS.of_same s2).trans FrS.set,fun y' n' hyn=>?_⟩
 cases hyn
 exact ⟨hy,rfl⟩
end
def Zqx (x:Int):List Nat:=[48 + x.toNat]
def Xat (f:Nat) (hb:Zaa) (a0 a1:Pt) (n0 c0 n1 c1:Nat) (e0 e1:Bool) (w:Wd) (sp:Bool):Prop:=∀ {h:Zaa} {i:Nat} {qa:Pt} {asked:List Nd} {fl n:Nd} {a2:Pt} {n2 c2:Nat} {e2:Bool} {st:List Nd},Yfx hb i (.slice a0 n0 c0 e0) (.slice a1 n1 c1 e1) sp h qa asked fl→asked.length≤300→n2 + f=31 →
   Row h.length h a2 (n2 * 2) (Zdb eP st)→(a2=none→e2=true)→(∀ j o,n2≠0→a2=some (j,o)→j≠i∧∀ q,qa=some (q,0)→j≠q) →
   Zak pg Zhz [.ptr (some (i,0)),.agg [.str n.1,.str n.2],.slice a2 n2 c2 e2] h (Ypc hb i (.slice a0 n0 c0 e0) (.slice a1 n1 c1 e1) sp h qa (Zli (wk w) sp Zqx f asked n))
theorem Ysi {k:Nat} (h:k < 10):Ygn k=Zqx k:=by rw [Ybl h]; rfl
theorem Yag {w:Wd} (h:Zcz w=true):w.is.length≤10:=by
 unfold Zcz at h
 simp only [Bool.and_eq_true,decide_eq_true_eq] at h
 exact h.1.2
noncomputable def Zhj (w:Wd) (sp:Bool) (f:Nat) (k:Nat) (asked:List Nd) (n:Nd) (ms:List Nd) (g:Nat):(Fnd × List Nd) × Nat:=(ms.take g).foldl (Zgf (Zli (wk w) sp Zqx f)) ((.ok (Zqx k),asked ++ [n]),0)
theorem Zqn {w:Wd} {sp:Bool} {f k:Nat} {asked:List Nd} {n:Nd} {ms:List Nd} (h:¬ 300≤asked.length) (g:Nat) :
  (Zhj w sp f k asked n ms g).1.2.length≤300∧∀ s,(Zhj w sp f k asked n ms g).1.1=.ok s→s.length≤3000:=by
 have:=Zxz (g:=Zli (wk w) sp Zqx f) (fun a m ha=>Ybo (fun x=>by simp [Zqx]) f a m ha) asked.length (ms.take g) ((.ok (Zqx k),asked ++ [n]),0) (by simp; omega) (by simp) (fun s hs=>by
  cases hs; simp [Zqx]; omega)
 simp only at this
 exact ⟨this.2.1,fun s hs=>by have:=this.2.2 s hs; have:=this; omega⟩
theorem Yeh {w:Wd} {sp:Bool} {f k:Nat} {asked:List Nd} {n:Nd} {ms:List Nd} {g:Nat} (hg:g≤ms.length) {out:List Nat} (h:(Zhj w sp f k asked n ms g).1.1=.ok out):(Zhj w sp f k asked n ms g).2=g:=by
 have:=Yvv (ms.take g) ((.ok (Zqx k),asked ++ [n]),0) h
 unfold Zhj
 rw [this]; simp; omega
theorem Ybn {w:Wd} {sp:Bool} {f k:Nat} {asked:List Nd} {n:Nd} {ms:List Nd} {g:Nat} (hg:g < ms.length):Zhj w sp f k asked n ms (g + 1)=Zgf (Zli (wk w) sp Zqx f) (Zhj w sp f k asked n ms g) ms[g]:=Yta _ ms _ g hg
theorem Yat {w:Wd} {sp:Bool} {f k:Nat} {asked:List Nd} {n:Nd} {ms:List Nd} {g:Nat} {y:List Nat} {m:Nd} {a:List Nd} {q:Nat} (h:Zhj w sp f k asked n ms g=((.no y m,a),q)):Zhj w sp f k asked n ms ms.length=((.no y m,a),q):=by
 have:=Ypt (Zli (wk w) sp Zqx f) ms ((.ok (Zqx k),asked ++ [n]),0) g h
 unfold Zhj
 rw [List.take_length]; exact this
theorem Xbe {hb:Zaa} {a0 a1:Pt} {n0 c0 n1 c1:Nat} {e0 e1:Bool} {w:Wd} (r:Zkr hb a0 n0 c0 a1 n1 c1 w) (b:WB w) (hw:Zcz w=true) (sp:Bool) (f:Nat) (ih:Xat f hb a0 a1 n0 c0 n1 c1 e0 e1 w sp)
  {h:Zaa} {i:Nat} {qa:Pt} {asked:List Nd} {fl n:Nd} {a2:Pt} {n2 c2:Nat} {e2:Bool} {st:List Nd} (rd:Yfx hb i (.slice a0 n0 c0 e0) (.slice a1 n1 c1 e1) sp h qa (asked ++ [n]) fl) (h300:¬ 300≤asked.length) (hf:n2 + (f + 1)=31)
  (row:Row h.length h a2 (n2 * 2) (Zdb eP st)) (he2:a2=none→e2=true) {p0 p1 p2:Nat} (hp0:h[p0]?=some (.cells Zfw [.ptr (some (i,0))] false)) (hp1:h[p1]?=some (.cells Zab [.str n.1,.str n.2] false))
  (hp2:h[p2]?=some (.cells Zbo [.slice a2 n2 c2 e2] false)) (hi0:p0≠i) (hq0:∀ q,qa=some (q,0)→p0≠q) {k:Nat} (hk:k < w.is.length) (hpick:(Zfa (wk w) sp n).1=(k:Int)) (Q:QT)
  (hQ:∀ x h',Ypc hb i (.slice a0 n0 c0 e0) (.slice a1 n1 c1 e1) sp h qa (Zli (wk w) sp Zqx (f + 1) asked n) x h'→Q x h'):Zda.J18 Q p0 0 (k:Int) p1 0 p1 0 p2 0 p0 0 p2 0 h:=by
 have hstl:st.length=n2:=by have:=row.1; rw [Zat Zcr] at this; omega
 have hl10:=Yag hw
 have hl1:=r.len1
 obtain ⟨qn,qc,qe,x7,ho,hv⟩:=rd.ob
 have hlow:=rd.low
 have hil:=rd.lt
 apply Zda.J18i
 obtain ⟨ii,oi,hki,na,nn,ncp,ne,rfl,_,hri,_,_,_,hrow,hnl⟩:=(r.same rd.same).inst (k:=k) (by omega)
 have hbk:=b.is _ (List.getElem_mem hk)
 simp only [Zan hp0,Zan hp1,Zan ho,Nat.zero_add,List.getElem?_cons_succ,List.getElem?_cons_zero,Zer,Zau,Zaj,Int.toNat_natCast,hri,Zao,Zae,Zam,Zah,true_and]
 refine ⟨by omega,?_⟩
 refine (Yuc (i:=w.is[k]) (t:=n.2) hrow (by omega)).mono ?_
 rintro v h2 ⟨s2,ma,mn,mc,me,rfl,fm⟩
 have rd2:=rd.step s2
 have F2:FrS i qa h h2 qa:=FrS.of_same s2
 have q0:=s2.get hp0 (Own.lt hp0)
 have q1:=s2.get hp1 (Own.lt hp1)
 have q2:=s2.get hp2 (Own.lt hp2)
 have o2:=s2.get ho (Own.lt ho)
 have row2:=row.same' s2
 have l2:=s2.le
 have hneeds:(wk w).needs (k:Int) n.2=Zjg w.is[k] n.2:=by show Zjg (Zpe w (k:Int)) n.2=_; rw [Zxh hk]
 simp only [Zco,Zae,Zaj,Zaq,Zam,Zan q0,Zan o2,List.getElem?_cons_succ,List.getElem?_cons_zero,true_and]
 refine Zbs (fun hok=>?_) (fun hok=>?_)
 ·have hask:=Zse (k:=wk w) (sp:=sp) (dec:=Zqx) (f:=f) (n:=n) h300 (by rw [hpick]; omega) (by rw [hpick,hneeds]; cases hh:Zjg w.is[k] n.2 with | none=>rfl | some _=>rw [hh] at hok; cases hok)
  refine (Yla Yzg (by decide) rd2 q0 q1 q2 row2 he2 (by omega) hi0).mono ?_
  rintro x h' q
  obtain ⟨qa',fl',rfl,z⟩:=Ypc.of F2 q
  simp only [Zco,Zae,Zah,Zam]
  exact hQ _ _ (by rw [hask]; exact ⟨qa',fl',rfl,z⟩)
 obtain ⟨ms,hms⟩:=Option.isSome_iff_exists.1 hok
 have hms3:=Yco hw hk hms
 rw [hms] at fm
 simp only [Option.getD_some] at fm
 have hmn:=fm.1
 have hask:=Zvg (k:=wk w) (sp:=sp) (dec:=Zqx) (f:=f) (n:=n) (asked:=asked) h300 (by rw [hpick]; omega) (by rw [hpick,hneeds]; exact hms)
 rw [hpick] at hask
 have hask:Zli (wk w) sp Zqx (f + 1) asked n=Zwx ms (Zhj w sp f k asked n ms ms.length).1:=by rw [hask]; unfold Zhj; rw [List.take_length]
 have key:∀ (hL:Zaa) (qs cs:Nat) (es:Bool),Zbc h2.length h2 hL→Row hL.length hL (some (qs,0)) ((n2 + 1) * 2) (Zdb eP (st ++ [n]))→h2.length≤qs→qs < hL.length →
   Zda.L24 Q p0 0 ma mn mc me (Zqx k) (some (qs,0)) (n2 + 1) cs es ma mn mc me (((mn:Nat):Int)) 0 hL:=by
  intro hL qs cs es sL rowL hqs1 hqs2
  have rdL:=rd2.step sL
  have FL:=F2.trans (FrS.of_same sL)
  have fmL:=fm.same sL
  have z0:=sL.get q0 (Own.lt q0)
  have lL:=sL.le
  refine Zda.L24ind _ _ _ _ _ _ _ _ _ _ _ _ _ _ _ _ (J:=fun (g:Nat) x15 x8 h'=>x8=(g:Int)∧g≤mn∧(Zhj w sp f k asked n ms g).1.1=.ok x15∧∃ qa' fl',Yfx hb i (.slice a0 n0 c0 e0) (.slice (some (ii,oi)) n1 c1 e1) sp h' qa' (Zhj w sp f k asked n ms g).1.2 fl'∧FrS i qa hL h' qa') (fun g=>mn - g) ?_ 0 _ _ _ ⟨rfl,by omega,rfl,qa,fl,rdL,FrS.refl _ _ _⟩
  rintro g x15 x8 h' ⟨rfl,hg,hout,qa',fl',rdg,Fg⟩ R hR
  obtain ⟨hb1,hb2⟩:=Zqn (w:=w) (sp:=sp) (f:=f) (k:=k) (n:=n) (ms:=ms) h300 g
  have hb2:=hb2 _ hout
  have hidx:=Yeh (by omega) hout
  have hne0:∀ j,h.length≤j→j < hL.length→j≠i∧∀ q,qa=some (q,0)→j≠q:=fun j hj1 hj2=>⟨by omega,fun q hq=>by have:=(hlow q hq).2; omega⟩
  unfold Zda.L24t
  refine Zar (fun hlt=>?_) (fun hge=>?_)
  ·have fmg:Row h'.length h' ma (mn * 2) (Zdb eP ms):=Fg.row (fmL.row Zcr) fun j o hn ha=>by
    obtain ⟨_,h0 | ⟨j',hj',hb',hjj⟩⟩:=fmL
    ·omega
    ·rw [ha] at hj'
     cases hj'
     exact hne0 _ hb' (Own.lt hjj)
   obtain ⟨im,om,hgl,rfl,_,hrm,_⟩:=fmg.pr (k:=g) (by omega)
   simp only [Zau,Int.toNat_natCast,hrm,Zao,Zae,Zam,Zah,Zaw]
   rw [Zfb]
   generalize hh7:h' ++ [Zcb.cells Zab [.str ms[g].1,.str ms[g].2] false]=h7
   have s7:Zbc h'.length h' h7:=by rw [← hh7]; exact Zal
   have o7:h7[h'.length]?=some (.cells Zab [.str ms[g].1,.str ms[g].2] false):=by rw [← hh7]; simp
   have zg:=Fg.get z0 hi0 hq0
   have z7:=s7.get zg (Own.lt zg)
   simp only [Zas,Zan z7,Zaz o7,List.getElem?_cons_zero,Zer,Zao,Zae,Zam,Zah]
   refine ⟨by omega,?_⟩
   have rowg:Row h'.length h' (some (qs,0)) ((n2 + 1) * 2) (Zdb eP (st ++ [n])):=Fg.row rowL fun j o hn ha=>by cases ha; exact hne0 _ (by omega) hqs2
   have hgle:=Fg.le
   refine (ih (n:=ms[g]) (rdg.step s7) hb1 (by omega) (rowg.same' s7) (fun hh=>by cases hh) (fun j o hn ha=>?_)).mono ?_
   ·cases ha
    refine ⟨by omega,fun q hq=>?_⟩
    rcases Fg.pt with e | e
    ·rw [e] at hq; have:=(hlow q hq).2; omega
    ·have:=e q hq; omega
   rintro v h8 ⟨qa8,fl8,rfl,rd8,F8,hno⟩
   have F8':=(Fg.trans (FrS.of_same s7)).trans F8
   have hsucc:=Ybn (w:=w) (sp:=sp) (f:=f) (k:=k) (asked:=asked) (n:=n) (ms:=ms) hgl
   have hPg:Zhj w sp f k asked n ms g=((.ok x15,(Zhj w sp f k asked n ms g).1.2),g):=Prod.ext (Prod.ext hout rfl) hidx
   rw [hPg] at hsucc
   unfold Zgf at hsucc
   simp only at hsucc
   simp only [Zco,Zae,Zah,Zam]
   rcases hr:Zli (wk w) sp Zqx f (Zhj w sp f k asked n ms g).1.2 ms[g] with ⟨x,a'⟩
   rw [hr] at hsucc rd8 hno
   cases x with
   | no y m=>
    obtain ⟨hy,rfl⟩:=hno y m rfl
    simp only at hsucc
    have hall:=Yat hsucc
    refine Zbs (fun hd=>?_) (fun hd=>absurd (of_decide_eq_true hd) hy.1)
    refine hQ _ _ ?_
    rw [hask,hall]
    refine ⟨qa8,fl8,rfl,rd8,FL.trans F8',fun y' n' hyn=>?_⟩
    cases hyn
    exact ⟨hy,rfl⟩
   | ok d=>
    refine Zbs (fun hd=>absurd rfl (of_decide_eq_false hd)) (fun hd=>?_)
    simp only at hsucc
    obtain ⟨hc1,hc2⟩:=Zqn (w:=w) (sp:=sp) (f:=f) (k:=k) (n:=n) (ms:=ms) h300 (g + 1)
    have hc2:=hc2 _ (by rw [hsucc])
    simp only [List.length_append,List.length_cons] at hc2
    have fin:∀ m3,m3=Yfj g→Zda.J32 Q R x15 [m3] d (g:Int) (((mn:Nat):Int)) (some (im,om)) mn mc me p0 0 (some (qs,0)) (n2 + 1) cs es (some (im,om)) mn mc me h8:=by
     rintro m3 rfl
     apply Zda.J32i
     refine ⟨by simp; omega,by simp; omega,?_⟩
     apply Zda.J33i
     rw [Zbm (by omega)]
     refine hR (g + 1) _ _ _ (by omega) ⟨rfl,by omega,by rw [hsucc]; simp,qa8,fl8,by rw [hsucc]; exact rd8,F8'⟩
    refine Zcw (fun h0=>fin _ (by unfold Yfj; rw [if_pos (by omega)])) (fun h0=>fin _ (by unfold Yfj; rw [if_neg (by omega)]))
  ·apply Zda.A24x0i
   have:g=mn:=by omega
   subst this
   have hend:Zhj w sp f k asked n ms ms.length=((.ok x15,(Zhj w sp f k asked n ms g).1.2),g):=by rw [hmn]; exact Prod.ext (Prod.ext hout rfl) hidx
   have he:Zli (wk w) sp Zqx (f + 1) asked n=(.ok (if ms=[] then x15 else x15 ++ [41]),(Zhj w sp f k asked n ms g).1.2):=by rw [hask,hend]; rfl
   refine Zar (fun hpos=>⟨by simp; omega,?_⟩) (fun hpos=>?_)
   ·apply Zda.J36i
    refine hQ _ _ ?_
    rw [he,if_neg (fun hm=>by rw [hm] at hmn; simp at hmn; omega)]
    exact ⟨qa',fl',rfl,rdg,FL.trans Fg,fun y n h=>by cases h⟩
   ·apply Zda.J36i
    refine hQ _ _ ?_
    rw [he,if_pos (List.eq_nil_of_length_eq_zero (by omega))]
    exact ⟨qa',fl',rfl,rdg,FL.trans Fg,fun y n h=>by cases h⟩
 refine (Yes (i:=k) (by omega)).mono ?_
 rintro v h3 ⟨rfl,rfl⟩
 rw [Ysi (by omega)]
 simp only [Zah,Zan q2,Zaz q1,List.getElem?_cons_zero,Zaj,Zao,Zae,Zam]
 refine ⟨?_,?_⟩
 ·refine (Ybw row2 he2 (by omega)).mono ?_
  rintro v h4 ⟨a',c',e',rfl,nv,s4,_⟩
  have w1:=s4.get q1 (Own.lt q1)
  have w2:=s4.get q2 (Own.lt q2)
  have s5:Zbc h4.length h4 (h4 ++ [Zcb.cells Zab [.str n.1,.str n.2] false]):=Zal
  simp only [Zaj,Zaz w1,Zaw,true_and]
  refine ⟨by rw [Zan (s5.get w2 (Own.lt w2)),Zan w2],?_⟩
  refine nv.vec.pushN Zhi Zng Zni Znh (by rw [Zat Zcr,nv.len]) rfl (by omega) rfl (by omega) (fun h6 hl6 hi6 hk6=>?_)
  have hs4:=s4.le
  have S6:Zbc h3.length h3 h6:=⟨by omega,fun j hj=>by rw [hk6 j (by omega) fun q hq=>by have:=nv.low q hq; omega]; exact s4.eq j hj⟩
  have x1:=S6.get q1 (Own.lt q1)
  have x2:=S6.get q2 (Own.lt q2)
  simp only [Zaj]
  refine ⟨by rw [Zaz x1,Zaz (s5.get w1 (Own.lt w1))],by rw [Zan x2,Zan (s5.get w2 (Own.lt w2))],?_⟩
  refine key h6 _ _ _ S6 ?_ (by omega) (by omega)
  exact ⟨by rw [Zat Zcr]; simp [hstl],.inr ⟨_,_,_,_,_,rfl,by omega,hi6,by simp [Zat Zcr,hstl,eP]; omega,by
   rw [List.drop_zero,List.take_of_length_le (by simp [Zat Zcr,hstl,eP]; omega)]; simp [Zdb,eP]⟩⟩
 ·have s5:Zbc h3.length h3 (h3 ++ [Zcb.cells Zab [.str n.1,.str n.2] false]):=Zal
  have b5:(h3 ++ [Zcb.cells Zab [.str n.1,.str n.2] false])[h3.length]?=some (Zcb.cells Zab [.str n.1,.str n.2] false):=by simp
  simp only [Zaw]
  refine ⟨by rw [Zan (s5.get q2 (Own.lt q2))]; rfl,?_⟩
  refine (Ybw (row2.same' s5) he2 (by omega)).mono ?_
  rintro v h4 ⟨a',c',e',rfl,nv,s4,_⟩
  have S4:=s5.cat s4
  have w1:=S4.get q1 (Own.lt q1)
  have w2:=S4.get q2 (Own.lt q2)
  have b4:=s4.get b5 (Own.lt b5)
  simp only [Zaj]
  refine ⟨by rw [Zaz w1,Zaz (s5.get q1 (Own.lt q1))],?_⟩
  have hs4:=s4.le
  simp only [List.length_append,List.length_cons,List.length_nil] at hs4
  have hr4:Row h4.length h4 (some (h3.length,0)) (1 * 2) (Zdb eP [n]):=⟨rfl,.inr ⟨h3.length,0,_,_,_,rfl,by omega,b4,by simp,by simp [eP]⟩⟩
  refine nv.vec.app Zhi Zng Zni Znh (by rw [Zat Zcr,nv.len]) hr4.rowOf (Zjw (enc:=eP) (fun _=>rfl) _) (by omega) (by omega) (fun h6 hl6 hi6 hk6=>?_)
  have hnl:=nv.low
  simp only [List.length_append,List.length_cons,List.length_nil] at hnl
  have S6:Zbc h3.length h3 h6:=⟨by omega,fun j hj=>by rw [hk6 j (by omega) fun q hq=>by have:=hnl q hq; omega]; exact S4.eq j hj⟩
  have x1:=S6.get q1 (Own.lt q1)
  have x2:=S6.get q2 (Own.lt q2)
  simp only [Zaj]
  refine ⟨by rw [Zaz x1,Zaz w1],by rw [Zan x2,Zan w2],?_⟩
  refine key h6 _ _ _ S6 ?_ (by omega) (by omega)
  exact ⟨by rw [Zat Zcr]; simp [hstl],.inr ⟨_,_,_,_,_,rfl,by omega,hi6,by simp [Zat Zcr,hstl,eP]; omega,by
   rw [List.drop_zero,List.take_of_length_le (by simp [Zat Zcr,hstl,eP]; omega)]; simp [Zdb,eP]⟩⟩
theorem Ylq {hb:Zaa} {a0 a1:Pt} {n0 c0 n1 c1:Nat} {e0 e1:Bool} {w:Wd} (r:Zkr hb a0 n0 c0 a1 n1 c1 w) (b:WB w) (hw:Zcz w=true) (sp:Bool) (f:Nat)
  (ih:∀ f',f=f' + 1→Xat f' hb a0 a1 n0 c0 n1 c1 e0 e1 w sp):Xat f hb a0 a1 n0 c0 n1 c1 e0 e1 w sp:=by
 intro h i qa asked fl n a2 n2 c2 e2 st rd hlen hf row he2 hst
 apply Zda.call
 simp only [Zaw]
 generalize hh0:h ++ [Zcb.cells Zfw [.ptr (some (i,0))] false]=h0
 generalize hh1:h0 ++ [Zcb.cells Zab [.str n.1,.str n.2] false]=h1
 generalize hh2:h1 ++ [Zcb.cells Zbo [.slice a2 n2 c2 e2] false]=h2
 have s0:Zbc h.length h h0:=by rw [← hh0]; exact Zal
 have s1:Zbc h0.length h0 h1:=by rw [← hh1]; exact Zal
 have s2:Zbc h1.length h1 h2:=by rw [← hh2]; exact Zal
 have l0:h0.length=h.length + 1:=by rw [← hh0]; simp
 have l1:h1.length=h0.length + 1:=by rw [← hh1]; simp
 have l2:h2.length=h1.length + 1:=by rw [← hh2]; simp
 have p0:h0[h.length]?=some (.cells Zfw [.ptr (some (i,0))] false):=by rw [← hh0]; simp
 have p0:=s2.get (s1.get p0 (Own.lt p0)) (by have:=Own.lt p0; omega)
 have p1:h1[h0.length]?=some (.cells Zab [.str n.1,.str n.2] false):=by rw [← hh1]; simp
 have p1:=s2.get p1 (Own.lt p1)
 have p2:h2[h1.length]?=some (.cells Zbo [.slice a2 n2 c2 e2] false):=by rw [← hh2]; simp
 have S2:=(s0.cat s1).cat s2
 have hil:=rd.lt
 have hlow:=rd.low
 have rd2:=rd.step S2
 obtain ⟨qn,qc,qe,x7,ho,hv⟩:=rd2.ob
 simp only [Zan p0,Zaz p1,Zan ho,Nat.zero_add,List.getElem?_cons_succ,List.getElem?_cons_zero,Zer,Zau,Ygj,Zao,Zae,Zam,Zah,Yrh,true_and,List.append_nil]
 apply Zot.call
 simp only [Zaw]
 generalize hh3:h2 ++ [Zcb.cells Zab [.str n.1,.str n.2] false]=h3
 have s3:Zbc h2.length h2 h3:=by rw [← hh3]; exact Zal
 have l3:h3.length=h2.length + 1:=by rw [← hh3]; simp
 have S3:=S2.cat s3
 have p0:=s3.get p0 (Own.lt p0)
 have p1:=s3.get p1 (Own.lt p1)
 have p2:=s3.get p2 (Own.lt p2)
 have rd3:=rd2.step s3
 have ho:=s3.get ho (Own.lt ho)
 have hv:=hv.same s3
 have F3:FrS i qa h h3 qa:=FrS.of_same S3
 have hal:=hv.len
 have row3:Row h3.length h3 a2 (n2 * 2) (Zdb eP st):=row.same' S3
 simp only [Zco,Zae,Zah,Zaq,Zam,Zan p0,Zan ho,Nat.zero_add,List.getElem?_cons_succ,List.getElem?_cons_zero,Zer,Zau,Zaj,true_and]
 refine Zdj (fun hx=>absurd hx (by decide)) (fun _=>?_)
 refine Zar (fun h300=>?_) (fun h300=>?_)
 ·rw [Zpd (by omega)]
  refine Zak.mono ((Yla Yfr (by decide) rd3 p0 p1 p2 row3 he2 (by omega) (by omega)).mono fun x h' q=>Ypc.of F3 q) ?_
  rintro x h' q
  obtain ⟨qa',fl',rfl,q⟩:=q
  simp only [Zco,Zae,Zah,Zam]
  exact ⟨qa',fl',rfl,q⟩
 have h300':¬ 300≤asked.length:=by omega
 have s4:Zbc h3.length h3 (h3 ++ [Zcb.cells Zab [.str n.1,.str n.2] false]):=Zal
 simp only [Zaz p1,Zao,Zae,Zam,Zah,true_and]
 refine ⟨by rw [Zan (s4.get ho (Own.lt ho))]; rfl,by rw [Zan (s4.get p0 (Own.lt p0))]; rfl,by rw [Zan (s4.get p0 (Own.lt p0))]; rfl,?_⟩
 refine hv.vec.pushN Zhi Zng Zni Znh (by rw [Zat Zcr,hv.len]) rfl (by omega) rfl (by omega) (fun h6 hl6 hi6 hk6=>?_)
 have hqk:∀ j,j < h3.length→h.length≤j→h6[j]?=h3[j]?:=fun j hj1 hj2=>hk6 j hj1 fun q hq=>by have:=(hlow q hq).2; omega
 have z0:h6[h.length]?=some (.cells Zfw [.ptr (some (i,0))] false):=by rw [hqk _ (Own.lt p0) (by omega)]; exact p0
 have z1:h6[h0.length]?=some (.cells Zab [.str n.1,.str n.2] false):=by rw [hqk _ (Own.lt p1) (by omega)]; exact p1
 have z2:h6[h1.length]?=some (.cells Zbo [.slice a2 n2 c2 e2] false):=by rw [hqk _ (Own.lt p2) (by omega)]; exact p2
 have zo:h6[i]?=some (.cells Zfc [.slice a0 n0 c0 e0,.slice a1 n1 c1 e1,.bool sp,.fn Zdf [],.slice qa qn qc qe,.str fl.1,.str fl.2,x7] false):=by rw [hk6 i (Own.lt ho) fun q hq=>(rd.ne q hq).symm]; exact ho
 simp only [Zaj,Zan z0,List.getElem?_cons_zero,Zau]
 refine ⟨by rw [Zan (s4.get p0 (Own.lt p0))]; rfl,by rw [Zan (s4.get p0 (Own.lt p0))]; rfl,?_⟩
 rw [Zbg zo (by simp)]
 simp only [Zas,putRow,List.take_succ_cons,List.take_zero,List.length_cons,List.length_nil,List.drop_succ_cons,List.drop_zero,List.drop_nil,List.cons_append,List.nil_append,List.append_nil]
 have hle:=rd.same.le
 have hS3:=S3.le
 have rd7:Yfx hb i (.slice a0 n0 c0 e0) (.slice a1 n1 c1 e1) sp (h6.set i (.cells Zfc [.slice a0 n0 c0 e0,.slice a1 n1 c1 e1,.bool sp,.fn Zdf [],.slice (some (h3.length + 1,0)) (qn + 1) (qn + 1) false,.str fl.1,.str fl.2,x7] false)) (some (h3.length + 1,0)) (asked ++ [n]) fl:=by
  refine Yfx.write ⟨by omega,fun j hj=>?_⟩ rd.ge zo ⟨Vec.mk1 ?_,by rw [List.length_append,hal]; rfl,fun q hq=>by cases hq; omega,Nat.le_refl _⟩ (fun q hq=>by cases hq; omega)
  ·rw [hk6 j (by omega) fun q hq=>by have:=(hlow q hq).1; omega]; exact rd3.same.eq j hj
  ·rw [hi6,Zgw]; rfl
 have F7:FrS i qa h (h6.set i (.cells Zfc [.slice a0 n0 c0 e0,.slice a1 n1 c1 e1,.bool sp,.fn Zdf [],.slice (some (h3.length + 1,0)) (qn + 1) (qn + 1) false,.str fl.1,.str fl.2,x7] false)) (some (h3.length + 1,0)):=by
  refine FrS.trans (qa1:=some (h3.length + 1,0)) ⟨by omega,fun j hj hne hq=>?_,.inr fun q hq=>by cases hq; omega⟩ FrS.set
  rw [hk6 j (by omega) hq]; exact S3.eq j hj
 generalize hh7:h6.set i (.cells Zfc [.slice a0 n0 c0 e0,.slice a1 n1 c1 e1,.bool sp,.fn Zdf [],.slice (some (h3.length + 1,0)) (qn + 1) (qn + 1) false,.str fl.1,.str fl.2,x7] false)=h7 at rd7 F7 ⊢
 have z0:h7[h.length]?=some (.cells Zfw [.ptr (some (i,0))] false):=by rw [← hh7,Zbw (by omega)]; exact z0
 have z1:h7[h0.length]?=some (.cells Zab [.str n.1,.str n.2] false):=by rw [← hh7,Zbw (by omega)]; exact z1
 have z2:h7[h1.length]?=some (.cells Zbo [.slice a2 n2 c2 e2] false):=by rw [← hh7,Zbw (by omega)]; exact z2
 have hl7:h7.length=h3.length + 2:=by rw [← hh7]; simpa using hl6
 have row7:=F7.row row fun j o hn ha=>hst j o (by omega) ha
 have hstl:n2≤31:=by omega
 -- an end of the search
 have bad:∀ (y:List Nat) (h':Zaa),(y≠[]∧y≠Zty)→Zbc h7.length h7 h'→Zli (wk w) sp Zqx f asked n=(.no y n,asked ++ [n])→Zak pg Zde [.str y,.ptr (some (h0.length,0)),.ptr (some (h1.length,0)),.ptr (some (h.length,0))] h' fun v h''=>
   Zle v fun cs=>Zai cs fun c r=>Zbd (some c) fun s=>Zai r fun c' r'=>Zbd (some c') fun s'=>Zbq r' (Ypc hb i (.slice a0 n0 c0 e0) (.slice a1 n1 c1 e1) sp h qa (Zli (wk w) sp Zqx f asked n) (.tup [.str s,.str s']) h''):=by
  intro y h' hy sm he
  refine (Yla y hy (rd7.step sm) (sm.get z0 (Own.lt z0)) (sm.get z1 (Own.lt z1)) (sm.get z2 (Own.lt z2)) (row7.same' sm) he2 (by omega) (by omega)).mono ?_
  rintro x h'' q
  obtain ⟨qa',fl',rfl,z⟩:=Ypc.of (F7.trans (FrS.of_same sm)) q
  simp only [Zco,Zae,Zah,Zam]
  rw [he]
  exact ⟨qa',fl',rfl,z⟩
 simp only [Zan z2,List.getElem?_cons_zero,Zaj]
 refine Zar (fun hd=>?_) (fun hd=>?_)
 ·have:f=0:=by omega
  subst this
  exact bad Yto h7 (by decide) (Zbc.refl _ _) (Zpc h300')
 obtain ⟨f',rfl⟩:∃ f',f=f' + 1:=⟨f - 1,by omega⟩
 have ih:=@ih f' rfl
 obtain ⟨qn7,qc7,qe7,x77,o7,v7⟩:=rd7.ob
 simp only [Zan z0,List.getElem?_cons_zero,Zer,Zau,Zew o7 (show 0 + 0 + 2≤_ by simp),Nat.zero_add,Zaz z1,List.drop_zero,List.take_succ_cons,List.take_zero,Zao,Zae,Zam,Zaj,Zah,true_and]
 refine (Yeq (nd:=n) (r.same rd7.same) b).mono ?_
 rintro v h8 ⟨s8,ca,cn,cc,ce,rfl,fc⟩
 have rd8:=rd7.step s8
 have F8:=F7.trans (FrS.of_same s8)
 have w0:=s8.get z0 (Own.lt z0)
 have w1:=s8.get z1 (Own.lt z1)
 have w2:=s8.get z2 (Own.lt z2)
 have o8:=s8.get o7 (Own.lt o7)
 have l8:=s8.le
 have hcl:=fc.1
 have hcin:=Yfu w n
 have hpk:Zfa (wk w) sp n=match Zjl w n with | []=>(-1,Ykj) | [x]=>(x,[]) | l=>if sp && decide (0≤Zrc w l) then (Zrc w l,[]) else (-1,Zzj):=rfl
 simp only [Zaj,Zan w0,List.getElem?_cons_zero,true_and]
 refine Zcw (fun hc0=>?_) (fun hc0=>?_)
 ·have hc:Zjl w n=[]:=List.eq_nil_of_length_eq_zero (by omega)
  rw [hc] at hpk
  exact bad Ykj h8 (by decide) s8 (by rw [Zmf h300' (by rw [hpk]; simp only; omega),hpk])
 obtain ⟨ic,oc,hkc,rfl,_,hcell⟩:=Row.i64 (l:=Zjl w n) (by simpa using Zds.row Zre fc) (k:=0) (by omega)
 have hcell0:Zag h8 (.ptr (some (ic,oc + (Int.toNat 0) * 1)))=some (.int .i64 (Zjl w n)[0]):=hcell
 obtain ⟨k0,hk0,hk0l⟩:=hcin _ (List.getElem_mem hkc)
 simp only [Zau,hcell0,Zax]
 refine ⟨by omega,?_⟩
 have hqa7:∀ q,some (h3.length + 1,0)=some (q,0)→h.length≠q:=fun q hq=>by cases hq; omega
 have go:∀ (h':Zaa) (k:Nat),Zbc h7.length h7 h'→k < w.is.length→(Zfa (wk w) sp n).1=(k:Int)→Zda.J18 (Ypc hb i (.slice a0 n0 c0 e0) (.slice a1 n1 c1 e1) sp h qa (Zli (wk w) sp Zqx (f' + 1) asked n)) h.length 0 (k:Int) h0.length 0 h0.length 0 h1.length 0 h.length 0 h1.length 0 h':=by
  intro h' k sm hk hp
  exact Xbe r b hw sp f' ih (rd7.step sm) h300' (by omega) (row7.same' sm) he2 (sm.get z0 (Own.lt z0)) (sm.get z1 (Own.lt z1)) (sm.get z2 (Own.lt z2)) (by omega) hqa7 hk hp _ fun x h'' q=>Ypc.of (F7.trans (FrS.of_same sm)) q
 refine Zar (fun h1n=>?_) (fun h1n=>?_)
 ·have hpk:Zfa (wk w) sp n=if sp && decide (0≤Zrc w (Zjl w n)) then (Zrc w (Zjl w n),[]) else (-1,Zzj):=by
   rw [hpk]
   match hc:Zjl w n with
   | []=>rw [hc] at hcl; simp at hcl; omega
   | [x]=>rw [hc] at hcl; simp at hcl; omega
   | x :: y :: l=>rfl
  simp only [Zer,Zau,Zew o8 (show 0 + 2≤_ by simp),List.drop_zero,List.take_succ_cons,List.take_zero,Zao,Zae,Zam,Zaj]
  have hcn:cn≤1048576:=by have:=Yfl (Zpa n) w.is; have:=b.li; unfold Zjl at hcl; omega
  refine (Yvy (r.same rd8.same) (by simpa using Zds.row Zre fc) hcn hcin).mono ?_
  rintro v h9 ⟨rfl,s9⟩
  have v0:=s9.get w0 (Own.lt w0)
  have o9:=s9.get o8 (Own.lt o8)
  have S9:=s8.cat s9
  simp only [Zax,Zan v0,Zan o9,List.getElem?_cons_succ,List.getElem?_cons_zero,Zer,Zau,Zaq]
  refine Zbs (fun hsp=>?_) (fun hsp=>?_)
  ·have hpk:Zfa (wk w) sp n=(-1,Zzj):=by rw [hpk,hsp]; rfl
   exact bad Zzj h9 (by decide) S9 (by rw [Zmf h300' (by rw [hpk]; simp only; omega),hpk])
  ·refine Zar (fun hneg=>?_) (fun hneg=>?_)
   ·have hpk:Zfa (wk w) sp n=(-1,Zzj):=by rw [hpk,hsp,if_neg (by simp; omega)]
    exact bad Zzj h9 (by decide) S9 (by rw [Zmf h300' (by rw [hpk]; simp only; omega),hpk])
   ·have hpk:Zfa (wk w) sp n=(Zrc w (Zjl w n),[]):=by rw [hpk,hsp,if_pos (by simp; omega)]
    obtain ⟨k,hk,hkl⟩:∃ k:Nat,Zrc w (Zjl w n)=k∧k < w.is.length:=by
     unfold Zrc at hneg ⊢
     cases hfi:(Zjl w n).find? (Yho w (Zjl w n)) with
     | none=>rw [hfi] at hneg; simp at hneg
     | some x=>exact hcin x (List.mem_of_find?_eq_some hfi)
    rw [hk]
    exact go h9 k S9 hkl (by rw [hpk]; exact hk)
 ·rw [hk0]
  refine go h8 k0 s8 hk0l ?_
  rw [hpk]
  match hc:Zjl w n,hkc with
  | [x],_=>
   simp only [hc] at hk0
   exact hk0
  | [],hx=>simp at hx
  | x :: y :: l,_=>rw [hc] at hcl; simp at hcl; omega
theorem Ywu {hb:Zaa} {a0 a1:Pt} {n0 c0 n1 c1:Nat} {e0 e1:Bool} {w:Wd} (r:Zkr hb a0 n0 c0 a1 n1 c1 w) (b:WB w) (hw:Zcz w=true) (sp:Bool):∀ f,Xat f hb a0 a1 n0 c0 n1 c1 e0 e1 w sp
 | 0=>Ylq r b hw sp 0 fun f' h=>by omega
 | f + 1=>Ylq r b hw sp (f + 1) fun f' h=>by cases h; exact Ywu r b hw sp f
end Go.Sim

set_option linter.unusedVariables false
set_option linter.unusedSimpArgs false
set_option maxRecDepth 20000
namespace Go.Sim
open Go Go.RowKit

noncomputable def Zjz (w:Wd) (n:Nd) (sp:Bool):Fnd:=if Zcz w && Zdq w n then (Zli (wk w) sp Zqx 31 [] n).1 else .no Zty ([],[])
noncomputable def Zwg (w:Wd) (nd:Nd) (sp:Bool):List Nd:=if Zcz w && Zdq w nd then (Zli (wk w) sp Zqx 31 [] nd).2 else []
theorem Zvw {h:Zaa} {a0 a1:Pt} {n0 c0 n1 c1:Nat} {e0 e1:Bool} {w:Wd} {nd:Nd} {sp:Bool} (r:Zkr h a0 n0 c0 a1 n1 c1 w) (b:WB w) :
  Zak pg Zjq [.agg [.slice a0 n0 c0 e0,.slice a1 n1 c1 e1],.agg [.str nd.1,.str nd.2],.bool sp] h fun x h'=>∃ i fl x4 x7,x=.tup [.ptr (some (i,0)),.str (Yxn (Zjz w nd sp)),.str (Yjh (Zjz w nd sp))]∧Zbc h.length h h' ∧
   h'[i]?=some (.cells Zfc [.slice a0 n0 c0 e0,.slice a1 n1 c1 e1,.bool sp,.fn Zdf [],x4,.str fl.1,.str fl.2,x7] false)∧h.length≤i∧(∀ y m,Zjz w nd sp=.no y m→y≠[]∧(((Zcz w && Zdq w nd)=false∧y=Zty) ∨ ((Zcz w && Zdq w nd)=true∧y≠Zty∧fl=m)))∧∃ qa qn qc qe,x4=.slice qa qn qc qe∧Ybg h.length h' qa qn qc (Zwg w nd sp):=by
 apply Ztt.call
 simp only [Zaw]
 generalize hh0:h ++ [Zcb.cells Zac [.slice a0 n0 c0 e0,.slice a1 n1 c1 e1] false]=h0
 generalize hh1:h0 ++ [Zcb.cells Zab [.str nd.1,.str nd.2] false]=h1
 have s0:Zbc h.length h h0:=by rw [← hh0]; exact Zal
 have s1:Zbc h0.length h0 h1:=by rw [← hh1]; exact Zal
 have w0:h0[h.length]?=some (Zlu a0 n0 c0 e0 a1 n1 c1 e1):=by rw [← hh0]; simp [Zlu]
 have w1:=s1.get w0 (Own.lt w0)
 have p1:h1[h0.length]?=some (.cells Zab [.str nd.1,.str nd.2] false):=by rw [← hh1]; simp
 rw [Zth w1]
 simp only [Zao,Zae,Zam,Zaj]
 generalize hh2:h1 ++ [Zcb.cells Zfc [.slice a0 n0 c0 e0,.slice a1 n1 c1 e1,.bool sp,.fn Zdf [],.slice none 0 0 true,.str [],.str [],.slice none 0 0 true] false]=h2
 have s2:Zbc h1.length h1 h2:=by rw [← hh2]; exact Zal
 have w2:=s2.get w1 (Own.lt w1)
 have p2:=s2.get p1 (Own.lt p1)
 have o2:h2[h1.length]?=some (.cells Zfc [.slice a0 n0 c0 e0,.slice a1 n1 c1 e1,.bool sp,.fn Zdf [],.slice none 0 0 true,.str [],.str [],.slice none 0 0 true] false):=by rw [← hh2]; simp
 have S2:=(s0.cat s1).cat s2
 rw [Zth w2,Zaz p2]
 simp only [Zao,Zae,Zam,Zaj,Zah]
 refine (Yfd (ct:=nd.1) (tt:=nd.2) (r.same S2) b).mono ?_
 rintro v h3 ⟨rfl,s3⟩
 have S3:=S2.cat s3
 have p3:=s3.get p2 (Own.lt p2)
 have o3:=s3.get o2 (Own.lt o2)
 have w3:=s3.get w2 (Own.lt w2)
 have le3:=S3.le
 have l1:h1.length=h0.length + 1:=by rw [← hh1]; simp
 have l0:h0.length=h.length + 1:=by rw [← hh0]; simp
 simp only [Zaq]
 refine Zbs (fun hc=>?_) (fun hc=>?_)
 ·have:Zjz w nd sp=.no Zty ([],[]):=by unfold Zjz; rw [hc]; rfl
  have ha:Zwg w nd sp=[]:=by unfold Zwg; rw [hc]; rfl
  exact ⟨h1.length,([],[]),_,_,by rw [this]; rfl,S3,o3,by omega,fun y m h=>by rw [this] at h; cases h; exact ⟨by decide,.inl ⟨hc,rfl⟩⟩,none,0,0,true,rfl,by rw [ha]; exact ⟨.inl ⟨rfl,rfl,rfl,by simp⟩,rfl,fun q hq=>(by cases hq),Nat.le_refl _⟩⟩
 rw [Zaz p3]
 simp only [Zao,Zae,Zam,Zah]
 have hc':=hc
 simp only [Bool.and_eq_true] at hc'
 have rd:Yfx h h1.length (.slice a0 n0 c0 e0) (.slice a1 n1 c1 e1) sp h3 none [] (([],[]):Nd):=
  ⟨S3,by omega,⟨0,0,true,_,o3,⟨.inl ⟨rfl,rfl,rfl,by simp⟩,rfl,fun q hq=>(by cases hq),Nat.le_refl _⟩⟩,fun q hq=>by cases hq⟩
 refine (Ywu r b hc'.1 sp 31 (n:=nd) (st:=[]) rd (by simp) (by omega) (by simpa using Row.nil) (fun _=>rfl) (fun j o h=>by omega)).mono ?_
 rintro v h4 ⟨qa,fl,rfl,rd4,F4,hno⟩
 have hf:Zjz w nd sp=(Zli (wk w) sp Zqx 31 [] nd).1:=by unfold Zjz; rw [hc]; rfl
 have ha:Zwg w nd sp=(Zli (wk w) sp Zqx 31 [] nd).2:=by unfold Zwg; rw [hc]; rfl
 obtain ⟨qn,qc,qe,x7,ho,hv⟩:=rd4.ob
 simp only [Zco,Zae,Zah,Zam]
 refine ⟨h1.length,fl,_,x7,by rw [hf],rd4.same,ho,by omega,fun y m hy=>?_,qa,qn,qc,qe,rfl,by rw [ha]; exact hv⟩
 rw [hf] at hy
 obtain ⟨⟨k1,k2⟩,k3⟩:=hno y m hy
 exact ⟨k1,.inr ⟨hc,k2,k3⟩⟩
def Yzw (w:Wd) (n:Nd) (sp:Bool) (h:Zaa) (v:Zay) (h':Zaa):Prop:=v=.tup [.str (Yxn (Zjz w n sp)),.str (Yjh (Zjz w n sp))]∧Zbc h.length h h'
theorem Ybj {h:Zaa} {a0 a1:Pt} {n0 c0 n1 c1:Nat} {e0 e1:Bool} {w:Wd} {nd:Nd} (r:Zkr h a0 n0 c0 a1 n1 c1 w) (b:WB w) :
  Zak pg Zmk [.agg [.slice a0 n0 c0 e0,.slice a1 n1 c1 e1],.agg [.str nd.1,.str nd.2]] h (Yzw w nd false h):=by
 apply Ztq.call
 simp only [Zaw]
 generalize hh0:h ++ [Zcb.cells Zac [.slice a0 n0 c0 e0,.slice a1 n1 c1 e1] false]=h0
 generalize hh1:h0 ++ [Zcb.cells Zab [.str nd.1,.str nd.2] false]=h1
 have s0:Zbc h.length h h0:=by rw [← hh0]; exact Zal
 have s1:Zbc h0.length h0 h1:=by rw [← hh1]; exact Zal
 have w0:h0[h.length]?=some (Zlu a0 n0 c0 e0 a1 n1 c1 e1):=by rw [← hh0]; simp [Zlu]
 have w1:=s1.get w0 (Own.lt w0)
 have p1:h1[h0.length]?=some (.cells Zab [.str nd.1,.str nd.2] false):=by rw [← hh1]; simp
 rw [Zth w1,Zaz p1]
 simp only [Zao,Zae,Zam,Zaj,Zah]
 refine (Zvw (r.same (s0.cat s1)) b).mono ?_
 rintro v h2 ⟨i,fl,x4,x7,rfl,s2,_⟩
 simp only [Zco,Zae,Zer,Zah,Zam]
 exact ⟨rfl,(s0.cat s1).cat s2⟩
noncomputable def Xbg (w:Wd) (n:Nd):Bool:=decide (Yjh (Zjz w n false)=[])
theorem Ydb {h:Zaa} {a0 a1:Pt} {n0 c0 n1 c1:Nat} {e0 e1:Bool} {w:Wd} {nd:Nd} (r:Zkr h a0 n0 c0 a1 n1 c1 w) (b:WB w) :
  Zak pg Zma [.agg [.slice a0 n0 c0 e0,.slice a1 n1 c1 e1],.agg [.str nd.1,.str nd.2]] h fun v h'=>v=.bool (Xbg w nd)∧Zbc h.length h h':=by
 apply Zql.call
 simp only [Zaw]
 generalize hh0:h ++ [Zcb.cells Zac [.slice a0 n0 c0 e0,.slice a1 n1 c1 e1] false]=h0
 generalize hh1:h0 ++ [Zcb.cells Zab [.str nd.1,.str nd.2] false]=h1
 have s0:Zbc h.length h h0:=by rw [← hh0]; exact Zal
 have s1:Zbc h0.length h0 h1:=by rw [← hh1]; exact Zal
 have w0:h0[h.length]?=some (Zlu a0 n0 c0 e0 a1 n1 c1 e1):=by rw [← hh0]; simp [Zlu]
 have w1:=s1.get w0 (Own.lt w0)
 have p1:h1[h0.length]?=some (.cells Zab [.str nd.1,.str nd.2] false):=by rw [← hh1]; simp
 rw [Zth w1,Zaz p1]
 simp only [Zao,Zae,Zam,Zaj,Zah]
 refine (Ybj (nd:=nd) (r.same (s0.cat s1)) b).mono ?_
 rintro v h2 ⟨rfl,s2⟩
 simp only [Zco,Zae,Zer,Zah,Zam]
 exact ⟨rfl,(s0.cat s1).cat s2⟩
noncomputable def Ztz (w:Wd) (n:Nd):Nd × Bool:=if Zcz w && Zdq w n then (match Zjz w n false with | .ok _=>(([],[]),false) | .no _ m=>(m,true)) else (([],[]),false)
theorem Ycy {h:Zaa} {a0 a1:Pt} {n0 c0 n1 c1:Nat} {e0 e1:Bool} {w:Wd} {nd:Nd} (r:Zkr h a0 n0 c0 a1 n1 c1 w) (b:WB w) :
  Zak pg Zmw [.agg [.slice a0 n0 c0 e0,.slice a1 n1 c1 e1],.agg [.str nd.1,.str nd.2]] h fun v h'=>v=.tup [.agg [.str (Ztz w nd).1.1,.str (Ztz w nd).1.2],.bool (Ztz w nd).2]∧Zbc h.length h h':=by
 apply Zmx.call
 simp only [Zaw]
 generalize hh0:h ++ [Zcb.cells Zac [.slice a0 n0 c0 e0,.slice a1 n1 c1 e1] false]=h0
 generalize hh1:h0 ++ [Zcb.cells Zab [.str nd.1,.str nd.2] false]=h1
 generalize hh2:h1 ++ [Zcb.cells Zab [.str [],.str []] false]=h2
 have s0:Zbc h.length h h0:=by rw [← hh0]; exact Zal
 have s1:Zbc h0.length h0 h1:=by rw [← hh1]; exact Zal
 have s2:Zbc h1.length h1 h2:=by rw [← hh2]; exact Zal
 have w0:h0[h.length]?=some (Zlu a0 n0 c0 e0 a1 n1 c1 e1):=by rw [← hh0]; simp [Zlu]
 have w1:=s1.get w0 (Own.lt w0)
 have w2:=s2.get w1 (Own.lt w1)
 have p1:h1[h0.length]?=some (.cells Zab [.str nd.1,.str nd.2] false):=by rw [← hh1]; simp
 have p2:=s2.get p1 (Own.lt p1)
 have o2:h2[h1.length]?=some (.cells Zab [.str [],.str []] false):=by rw [← hh2]; simp
 have S2:=(s0.cat s1).cat s2
 have l1:h1.length=h0.length + 1:=by rw [← hh1]; simp
 have l0:h0.length=h.length + 1:=by rw [← hh0]; simp
 rw [Zth w2,Zaz p2]
 simp only [Zao,Zae,Zam,Zaj,Zah]
 refine (Zvw (sp:=false) (nd:=nd) (r.same S2) b).mono ?_
 rintro v h3 ⟨i,fl,x4,x7,rfl,s3,ho,hi,hno,_⟩
 have S3:=S2.cat s3
 have o3:=s3.get o2 (Own.lt o2)
 have hset:∀ x,Zbc h.length h (h3.set h1.length x):=fun x=>⟨by simp; exact S3.le,fun j hj=>by rw [Zbw (by omega)]; exact S3.eq j hj⟩
 have hrow:∀ x y:List Nat,Zbe (h3.set h1.length (.cells Zab [.str x,.str y] false)) (.ptr (some (h1.length,0))) 2=some [.str x,.str y]:=fun x y=>Zaz (Zce o3)
 simp only [Zco,Zae,Zer,Zah,Zam]
 cases hf:Zjz w nd false with
 | ok s=>
  have hF:Ztz w nd=(([],[]),false):=by unfold Ztz; rw [hf]; split <;> rfl
  refine Zar (fun _=>?_) (fun hne=>absurd rfl hne)
  rw [Zbg o3 (by simp)]
  simp only [Zas,putRow,List.take_zero,List.length_cons,List.length_nil,List.drop_succ_cons,List.drop_zero,List.drop_nil,List.nil_append,List.append_nil,hrow,Zao,Zae,Zam,Zah]
  exact ⟨by rw [hF],hset _⟩
 | no y m=>
  obtain ⟨hy,hor⟩:=hno y m hf
  refine Zar (fun he=>absurd he hy) (fun _=>?_)
  rcases hor with ⟨hc,rfl⟩ | ⟨hc,hyw,rfl⟩
  ·have hF:Ztz w nd=(([],[]),false):=by unfold Ztz; rw [hc]; rfl
   refine Zar (fun _=>?_) (fun hne=>absurd rfl hne)
   rw [Zbg o3 (by simp)]
   simp only [Zas,putRow,List.take_zero,List.length_cons,List.length_nil,List.drop_succ_cons,List.drop_zero,List.drop_nil,List.nil_append,List.append_nil,hrow,Zao,Zae,Zam,Zah]
   exact ⟨by rw [hF],hset _⟩
  ·have hF:Ztz w nd=(fl,true):=by unfold Ztz; rw [hc,hf]; rfl
   refine Zar (fun he=>absurd he hyw) (fun _=>?_)
   apply Zmx.J4i
   simp only [Zau,Zew ho (show 0 + 5 + 2≤_ by simp),Nat.zero_add,List.drop_succ_cons,List.drop_zero,List.take_succ_cons,List.take_zero,Zao,Zae,Zam,Zah]
   rw [Zbg o3 (by simp)]
   simp only [Zas,putRow,List.take_zero,List.length_cons,List.length_nil,List.drop_succ_cons,List.drop_zero,List.drop_nil,List.nil_append,List.append_nil,hrow,Zao,Zae,Zam,Zah]
   exact ⟨by rw [hF],hset _⟩
end Go.Sim
