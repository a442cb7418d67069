/- A part of the proof of a statement of this seat: see the text that holds the theorem. No condition. -/
import Derived.Test.YtflfcofeedjblaaGreatPTCApply
import Derived.Test.YtflfcofeedjblaaGreatCApply
import Derived.Test.YtflfcofeedjblaaGreatPMatch
import Derived.Test.YtflfcofeedjblaaGreatPTCSup
import Derived.Test.YtflfcofeedjblaaGreatNm
import Derived.Test.YtflfcofeedjblaaGreatCVars
import Derived.Test.YtflfcofeedjblaaGreatPTCText
import Derived.Test.YtflfcofeedjblaaGreatCTy
set_option linter.unusedVariables false
set_option linter.unusedSimpArgs false
set_option linter.all false
set_option linter.unusedVariables false
set_option linter.unusedSimpArgs false
set_option maxRecDepth 20000
namespace Go.Sim
open Go Go.RowKit

theorem Yjm {s:List Nat} (h:((s.length:Nat):Int)≠1):Zla s=false:=by
 match s,h with
 | [],_=>rfl
 | [x],h=>exact absurd rfl h
 | _ :: _ :: _,_=>rfl
theorem Ytu {s:List Nat} (h:((s.length:Nat):Int)=1):∃ v,s=[v]:=by
 match s,h with
 | [],h=>simp at h
 | [x],_=>exact ⟨x,rfl⟩
 | _ :: _ :: _,h=>simp at h; omega
theorem Zvn {h:Zaa} {a:Pt} {n c:Nat} {e:Bool} {l:List Nd} (r:Row h.length h a (n * 2) (Zdn eP l)) (hn:n≤1048576) (hb:∀ p∈l,p.2.length≤1048576) (hb1:∀ p∈l,∀ x∈p.1,x < 256) :
  Zah pg Zix [.slice a n c e] h fun v h'=>v=.bool (Zht l)∧Zbc h.length h h':=by
 have hl:l.length=n:=by have:=r.1; rw [Zay Zeb] at this; omega
 apply Zej.call
 refine Zej.L2ind _ _ _ _ _ _ _ _ _ _ (J:=fun (g:Nat) x7 h'=>x7=(g:Int)∧g≤n∧Zbc h.length h h'∧(List.range g).all (Zry l)=true) (fun g=>n - g) ?_ 0 _ _ ⟨rfl,by omega,Zbc.refl _ _,rfl⟩
 rintro g x7 h' ⟨rfl,hg,hS,hk⟩ R hR
 unfold Zej.L2t
 refine Zat (fun hlt=>?_) (fun hge=>?_)
 ·obtain ⟨i,o,hgl,rfl,hi,hr,_,_⟩:=(r.same hS).pr (k:=g) (by omega)
  have hat:Zry l g=(Zla l[g].1 && Zml l[g].2 && (g == 0 || Zeq (l.getD (g - 1) ([],[])).1 l[g].1)):=by unfold Zry; rw [Zfd hgl]
  have no:Zry l g=false→Zht l=false:=fun hno=>Zkp hgl hno
  have hbg:=hb _ (List.getElem_mem hgl)
  have hbg1:=hb1 _ (List.getElem_mem hgl)
  simp only [Zav,Int.toNat_natCast,hr,Zaq,Zaf,Zan,Zal,Zaw]
  rw [Zfk]
  generalize hq:h' ++ [Zcd.cells Zbj [.str l[g].1,.str l[g].2] false]=hq'
  have sq:Zbc h'.length h' hq':=by rw [← hq]; exact Zam
  have oq:hq'[h'.length]?=some (.cells Zbj [.str l[g].1,.str l[g].2] false):=by rw [← hq]; simp
  have Sq:=hS.cat sq
  simp only [Zas,Zao oq,Nat.zero_add,List.getElem?_cons_succ,List.getElem?_cons_zero,Zal,true_and]
  refine ⟨by omega,Zgo (fun b0=>⟨by rw [no (by rw [hat,Yjm b0]; rfl)],Sq⟩) (fun b0=>?_)⟩
  obtain ⟨v,hv⟩:=Ytu b0
  rw [hv] at hbg1
  have hvl:=hbg1 v (by simp)
  rw [hv]
  refine ⟨by simp,?_⟩
  simp only [Int.toNat_zero,List.getD_cons_zero]
  refine (Zrc v).mono ?_
  rintro v' h2 ⟨rfl,rfl⟩
  simp only [Zap]
  have hiv:Zla l[g].1=Zcs v:=by rw [hv]; rfl
  refine Zbq (fun b1=>⟨by rw [no (by rw [hat,hiv,b1]; rfl)],Sq⟩) (fun b1=>?_)
  simp only [Zao oq,List.getElem?_cons_succ,List.getElem?_cons_zero,Zal]
  refine (Ziq l[g].2 (by omega) h2).mono ?_
  rintro v' h3 ⟨rfl,s3⟩
  simp only [Zap]
  have S3:=Sq.cat s3
  refine Zbq (fun b2=>⟨by rw [no (by rw [hat,b2]; simp)],S3⟩) (fun b2=>?_)
  have go:(g=0 ∨ Zeq (l.getD (g - 1) ([],[])).1 l[g].1=true)→Zej.J6 (fun v h'=>v=.bool (Zht l)∧Zbc h.length h h') R (g:Int) (((n:Nat):Int)) (some (i,o)) n c e (some (i,o)) n c e h3:=by
   intro hz
   apply Zej.J6i
   rw [Zbl (by omega)]
   refine hR (g + 1) _ _ (by omega) ⟨rfl,by omega,S3,Zhe hk ?_⟩
   rw [hat,hiv,b1,b2]
   rcases hz with rfl | hz
   ·rfl
   ·rw [hz]; simp
  refine Zat (fun hpos=>?_) (fun hz=>go (.inl (by omega)))
  have hg0:0 < g:=by omega
  obtain ⟨i',o',hgl',he,_,_,hc',_⟩:=(r.same S3).pr (k:=g - 1) (by omega)
  cases he
  rw [Yaw hg0 (by omega)]
  simp only [Zav,Int.toNat_natCast,Nat.add_zero,hc',Zao (s3.get oq (Own.lt oq)),List.getElem?_cons_zero,Zal,true_and]
  have hgd:l.getD (g - 1) ([],[])=l[g - 1]:=Zfd hgl'
  refine ⟨by omega,Zbq (fun b3=>⟨by rw [no (by rw [hat,hiv,b1,b2,hgd,b3]; simp; omega)],S3⟩) (fun b3=>go (.inr (by rw [hgd]; exact b3)))⟩
 ·apply Zej.A2x0i
  have:g=n:=by omega
  subst this
  exact ⟨by unfold Zht; rw [hl,hk],hS⟩
theorem Zhq.below {S:Nat→Prop} {h:Zaa}:∀ {t:Ty} {v:List Zau},Zhq S h t v→Zhq (fun j=>S j∧j < h.length) h t v
 | .k d,_,h=>h
 | .u d x,_,⟨j,c,e,r,hv,sj,hj,hr⟩=>⟨j,c,e,r,hv,⟨sj,Own.lt hj⟩,hj,hr.below⟩
 | .w d x y,_,⟨j,c,e,r,r',hv,sj,hj,hr,hr'⟩=>⟨j,c,e,r,r',hv,⟨sj,Own.lt hj⟩,hj,hr.below,hr'.below⟩
theorem Yoz {f:Nat→Option Ty} {t:Ty} (h:f t.hd=none ∨ t.ps≠[]):(subst f t).hd=t.hd∧(subst f t).ps=t.ps.map (subst f):=by
 cases t with
 | k c=>
  have:f c=none:=by rcases h with h | h; exact h; exact absurd rfl h
  simp [subst,this,Ty.hd,Ty.ps]
 | u c a=>simp [subst,Ty.hd,Ty.ps]
 | w c a b=>simp [subst,Ty.hd,Ty.ps]
theorem Ygl:pg.underlying Zld=some (.slice Zai):=by kernel_rfl
theorem Ylg:pg.cellsOf Zai=2:=by kernel_rfl
theorem Ylb:pg.okElem Zai=true:=by kernel_rfl
theorem Ymq:pg.bytesOf Zai≤127:=Nat.le_of_ble_eq_true (by kernel_rfl)
theorem Ydz {vs:List (List Zau)} (h:∀ v∈vs,v.length=2):vs.flatten.length=vs.length * 2:=by
 rw [List.length_flatten]
 induction vs with
 | nil=>rfl
 | cons v vs ih=>
  have h1:=h v (by simp)
  have h2:=ih (fun x hx=>h x (by simp [hx]))
  simp only [List.map_cons,List.sum_cons,List.length_cons]; omega
theorem Ybg:∀ (N:Nat) {t:Ty} {S:Nat→Prop} {h:Zaa} {vt:List Zau} {i:Nat} {m:Bd},t.size≤N→t.ok=true→(∀ j,S j→j < h.length∧j≠i)→Zhq S h t vt→Yoi S h i m→(∀ v u,Zff m v=some u→u.ok=true)→(∀ v,Zcs v=false→Zff m v=none) →
  Zah pg Zmk [.ptr (some (i,0)),.agg vt] h fun x h'=>Zbc h.length h h'∧∃ vs,x=.agg vs∧Zhq (fun j=>S j ∨ h.length≤j) h' (subst (Zff m) t) vs
 | 0,t,S,h,vt,i,m,hN,_,_,_,_,_,_=>by have:=t.size_ps; omega
 | N + 1,t,S,h,vt,i,m,hN,ht,hSi,rt,rm,hmo,hmn=>by
  obtain ⟨at',ct,et,vts,rfl,rowt,hSt,hvtl,hvt⟩:=id rt.parts
  have hps2:t.ps.length≤2:=by cases t <;> simp [Ty.ps]
  have hil:=rm.lt
  apply Zhv.call
  simp only [Zaw]
  generalize hh0:h ++ [Zcd.cells Zai [.int .u8 (t.hd:Int),.slice at' t.ps.length ct et] false]=h0
  generalize hh1:h0 ++ [Zcd.cells Zai [.int .u8 0,.slice none 0 0 true] false]=h1
  have s0:Zbc h.length h h0:=by rw [← hh0]; exact Zam
  have s1:Zbc h0.length h0 h1:=by rw [← hh1]; exact Zam
  have o0:h0[h.length]?=some (.cells Zai [.int .u8 (t.hd:Int),.slice at' t.ps.length ct et] false):=by rw [← hh0]; simp
  have oa:=s1.get o0 (Own.lt o0)
  have oz:h1[h0.length]?=some (.cells Zai [.int .u8 0,.slice none 0 0 true] false):=by rw [← hh1]; simp
  have S1:=s0.cat s1
  have l0:h0.length=h.length + 1:=by rw [← hh0]; simp
  have l1:h1.length=h.length + 2:=by rw [← hh1]; simp [l0]
  simp only [Zao oa,Nat.zero_add,List.getElem?_cons_succ,List.getElem?_cons_zero,Zar]
  refine (Zvw t.hd).mono ?_
  rintro v h2 ⟨rfl,rfl⟩
  have rm1:=rm.same S1
  simp only [Zar,Zav]
  -- nothing stands for the letter
  have main:Zff m t.hd=none→Zhv.J4 (fun x h'=>Zbc h.length h h'∧∃ vs,x=.agg vs∧Zhq (fun j=>S j ∨ h.length≤j) h' (subst (Zff m) t) vs) h.length 0 (some (i,0)) h0.length 0 h2:=by
   intro hno
   obtain ⟨hsh,hsp⟩:=Yoz (f:=Zff m) (t:=t) (.inl hno)
   apply Zhv.J4i
   simp only [Zao oa,Nat.zero_add,List.getElem?_cons_succ,List.getElem?_cons_zero,Zar,Zaw]
   generalize hh3:h2 ++ [Zcd.cells Zai [] false]=h3
   have s3:Zbc h2.length h2 h3:=by rw [← hh3]; exact Zam
   have o3:h3[h2.length]?=some (.cells Zai [] false):=by rw [← hh3]; simp
   have l3:h3.length=h2.length + 1:=by rw [← hh3]; simp
   rw [Zfk]
   generalize hh4:h3 ++ [Zcd.cells Zai [.int .u8 (t.hd:Int),.slice (some (h2.length,0)) 0 0 true] false]=h4
   have s4:Zbc h3.length h3 h4:=by rw [← hh4]; exact Zam
   have o4:h4[h3.length]?=some (.cells Zai [.int .u8 (t.hd:Int),.slice (some (h2.length,0)) 0 0 true] false):=by rw [← hh4]; simp
   have l4:h4.length=h3.length + 1:=by rw [← hh4]; simp
   have oa4:=s4.get (s3.get oa (Own.lt oa)) (by have:=Own.lt oa; omega)
   have oz4:=s4.get (s3.get oz (Own.lt oz)) (by have:=Own.lt oz; omega)
   have o34:=s4.get o3 (Own.lt o3)
   have S4:=(S1.cat s3).cat s4
   simp only [Zas,Zao oa4,List.getElem?_cons_succ,List.getElem?_cons_zero,Zae]
   refine Zhv.L6ind _ _ _ _ _ _ _ _ _ _ _ (J:=fun (g:Nat) x35 h'=>x35=(g:Int)∧g≤t.ps.length∧Zbc h.length h h'∧h4.length≤h'.length∧h'[h0.length]?=some (.cells Zai [.int .u8 0,.slice none 0 0 true] false) ∧
    ∃ (a:Pt) (cp:Nat) (e:Bool) (vs:List (List Zau)),h'[h3.length]?=some (.cells Zai [.int .u8 (t.hd:Int),.slice a g cp e] false)∧vs.length=g∧Vec Zai h' a g cp vs.flatten∧(∀ j,a=some (j,0)→j=h2.length ∨ h4.length≤j) ∧
     ∀ (k:Nat) (v:List Zau) (x:Ty),vs[k]?=some v→t.ps[k]?=some x→Zhq (fun j=>(S j ∨ h4.length≤j)∧∀ j0,a=some (j0,0)→j≠j0) h' (subst (Zff m) x) v)
    (fun g=>t.ps.length - g) ?_ 0 _ _ ⟨rfl,by omega,S4,Nat.le_refl _,oz4,some (h2.length,0),0,true,[],o4,rfl,Vec.mk1 (by simpa using o34),fun j hj=>by cases hj; exact .inl rfl,by simp⟩
   rintro g x35 h' ⟨rfl,hg,hS,hl4,hz,a,cp,e,vs,ho,hvl,hv,ha,hp⟩ R hR
   unfold Zhv.L6t
   have hz2:∀ v∈vs,v.length=2:=fun v hv=>by
    obtain ⟨k,hk,rfl⟩:=List.mem_iff_getElem.1 hv
    exact (hp k vs[k] (t.ps[k]'(by omega)) (List.getElem?_eq_getElem hk) (List.getElem?_eq_getElem (by omega))).len
   refine Zat (fun hlt=>?_) (fun hge=>?_)
   ·have hgt:g < t.ps.length:=by omega
    obtain ⟨jt,oft,a4,c4,e4,rfl,hrt,hkt⟩:=Zhq.get (rowt.same' hS) hvtl (fun k w x h1 h2=>(hvt k w x h1 h2).same hS) hgt
    simp only [Zav,Int.toNat_natCast,hrt,Zaq,Zaf,Zan,Zar,Zae,Zaw]
    rw [Zfk]
    generalize hq:h' ++ [Zcd.cells Zai [.int .u8 (t.ps[g].hd:Int),.slice a4 t.ps[g].ps.length c4 e4] false]=hq'
    have sq:Zbc h'.length h' hq':=by rw [← hq]; exact Zam
    have oq:=sq.get ho (Own.lt ho)
    simp only [Zas,Zao oq,Nat.zero_add,List.getElem?_cons_succ,List.getElem?_cons_zero,Zae]
    rw [← hq,Ypr,hq]
    simp only [Zaq,Zaf,Zan,Zar,Zae,true_and]
    have hmt:=List.getElem_mem hgt
    have h1:=Ty.size_part hmt
    have hlq:=sq.le
    have hSle:=hS.le
    refine ⟨by omega,(Ybg N (by omega) (Ty.ok_ps ht _ hmt) (S:=S) (fun j hj=>⟨by have:=(hSi j hj).1; omega,(hSi j hj).2⟩) (hkt.same sq) (rm.same (hS.cat sq)) hmo hmn).mono ?_⟩
    rintro v h5 ⟨s5,nv,rfl,hn5⟩
    obtain ⟨na,nc,ne,hnv⟩:=hn5.shape
    rw [hnv] at hn5
    have o5:=s5.get oq (Own.lt oq)
    simp only [hnv,Zdd,Zaf,Zan,Zar,Zae,Zao o5,List.getElem?_cons_succ,List.getElem?_cons_zero,true_and]
    have hc6:Zag (h5 ++ [Zcd.cells Zai [.int .u8 ((subst (Zff m) t.ps[g]).hd:Int),.slice na (subst (Zff m) t.ps[g]).ps.length nc ne] false]) (.ptr (some (h3.length,1)))=some (.slice a g cp e):=by rw [Zao (Zgl o5)]; rfl
    refine ⟨by rw [hc6],?_⟩
    have v5:=(hv.same sq).same s5
    have hl5:=s5.le
    refine v5.pushN Ygl Ylg Ylb Ymq (by rw [Ydz hz2]; omega) rfl (by omega) rfl (by omega) (fun h7 hl7 hi7 hk7=>?_)
    simp only [Zae]
    have hz5:=s5.get (sq.get hz (Own.lt hz)) (by have:=Own.lt hz; omega)
    have ha5:∀ j,a=some (j,0)→j=h2.length ∨ h4.length≤j:=ha
    have o7:h7[h3.length]?=some (.cells Zai [.int .u8 (t.hd:Int),.slice a g cp e] false):=by
     rw [hk7 _ (Own.lt o5) fun j hj=>by rcases ha j hj with hh | hh <;> omega]; exact o5
    rw [Zbd o7 (by simp)]
    simp only [Zas,putRow,List.take_succ_cons,List.take_zero,List.length_cons,List.length_nil,List.drop_succ_cons,List.drop_nil,List.cons_append,List.nil_append,List.append_nil]
    rw [Zbl (by omega)]
    have hS5:=(hS.cat sq).cat s5
    have h7o:∀ j,j < h5.length→(∀ j0,a=some (j0,0)→j≠j0)→j≠h3.length→(h7.set h3.length (Zcd.cells Zai [.int .u8 (t.hd:Int),.slice (some (h5.length + 1,0)) (g + 1) (g + 1) false] false))[j]?=h5[j]?:=fun j hj hne hne2=>by rw [Zbs (by omega),hk7 j hj hne]
    refine hR (g + 1) _ _ (by omega) ⟨rfl,by omega,⟨by simp; omega,fun j hj=>?_⟩,by simp; omega,?_,some (h5.length + 1,0),g + 1,false,vs ++ [[.int .u8 ((subst (Zff m) t.ps[g]).hd:Int),.slice na (subst (Zff m) t.ps[g]).ps.length nc ne]],Zbz o7,by simp [hvl],Vec.mk1 ?_,fun j hj=>by cases hj; right; omega,?_⟩
    ·rw [h7o j (by omega) (fun j0 hj0=>by rcases ha j0 hj0 with hh | hh <;> omega) (by omega)]; exact hS5.eq j hj
    ·rw [h7o _ (Own.lt hz5) (fun j0 hj0=>by rcases ha j0 hj0 with hh | hh <;> omega) (by omega)]; exact hz5
    ·rw [Zbs (by omega),hi7]; simp
    ·intro k v x hv' hx
     have hkeep:∀ {t':Ty} {v':List Zau},Zhq (fun j=>(S j ∨ h4.length≤j)∧∀ j0,a=some (j0,0)→j≠j0) h5 t' v'→Zhq (fun j=>(S j ∨ h4.length≤j)∧∀ j0,(some (h5.length + 1,0):Pt)=some (j0,0)→j≠j0) (h7.set h3.length (Zcd.cells Zai [.int .u8 (t.hd:Int),.slice (some (h5.length + 1,0)) (g + 1) (g + 1) false] false)) t' v':=by
      intro t' v' hr
      have hr2:=hr.below
      refine Zhq.mono (S:=fun j=>((S j ∨ h4.length≤j)∧∀ j0,a=some (j0,0)→j≠j0)∧j < h5.length) (fun j hj=>⟨hj.1.1,fun j0 e0=>by cases e0; have:=hj.2; omega⟩) (hr2.agree fun j hj=>?_)
      refine h7o j hj.2 hj.1.2 ?_
      rcases hj.1.1 with h8 | h8
      ·have:=(hSi j h8).1; omega
      ·omega
     by_cases hkl:k < vs.length
     ·rw [List.getElem?_append_left hkl] at hv'
      exact hkeep (((hp k v x hv' hx).same sq).same s5)
     ·rw [List.getElem?_append_right (by omega)] at hv'
      have hk0:k=vs.length:=by
       by_cases e:k - vs.length=0
       ·omega
       ·rw [List.getElem?_eq_none (by simp; omega)] at hv'; cases hv'
      subst hk0
      simp at hv'
      subst hv'
      rw [hvl,List.getElem?_eq_getElem hgt] at hx
      cases hx
      refine hkeep (Zhq.mono (S:=fun j=>S j ∨ hq'.length≤j) (fun j hj=>⟨?_,fun j0 e0=>?_⟩) hn5)
      ·rcases hj with h8 | h8
       ·exact .inl h8
       ·exact .inr (by omega)
      ·have hj0:=(hv.same sq).lt' e0
       rcases hj with h8 | h8
       ·have:=(hSi j h8).1
        rcases ha j0 e0 with hh | hh <;> omega
       ·omega
   ·apply Zhv.A6x0i
    have:g=t.ps.length:=by omega
    subst this
    have hrow:=Zeg (o:=0) (n:=2) ho (by simp)
    rw [hrow]
    simp only [List.drop_zero,List.take_succ_cons,List.take_zero,Zaq,Zaf,Zan,Zar,Zae]
    rw [Zbd hz (by simp)]
    simp only [Zas]
    rw [Zeg (Zbz hz) (by simp [putRow])]
    simp only [putRow,List.take_zero,List.nil_append,List.length_cons,List.length_nil,List.cons_append,List.drop_succ_cons,List.drop_zero,List.drop_nil,List.append_nil,List.take_succ_cons,Zaq,Zaf,Zar,Zae,Zan]
    refine ⟨⟨by simp; exact hS.le,fun j hj=>by rw [Zbs (by omega)]; exact hS.eq j hj⟩,_,rfl,?_⟩
    have hget:∀ j,j≠h0.length→(h'.set h0.length (Zcd.cells Zai [.int .u8 (t.hd:Int),.slice a t.ps.length cp e] false))[j]?=h'[j]?:=fun j hj=>Zbs (fun e=>hj e.symm)
    rcases hv with ⟨rfl,h0',_,hvs⟩ | ⟨j0,rfl,hj0⟩
    ·-- no parts
     have hps:t.ps=[]:=List.eq_nil_of_length_eq_zero h0'
     cases t with
     | k d=>
      simp only [subst,show Zff m d=none from hno,Option.getD_none]
      exact ⟨_,_,_,rfl⟩
     | u d x=>simp [Ty.ps] at hps
     | w d x y=>simp [Ty.ps] at hps
    ·have hj0n:j0≠h0.length:=by rcases ha j0 rfl with hh | hh <;> omega
     have hS4:=ha j0 rfl
     have:=Zhq.make (S:=fun j=>S j ∨ h.length≤j) (h:=h'.set h0.length (Zcd.cells Zai [.int .u8 (t.hd:Int),.slice (some (j0,0)) t.ps.length cp e] false)) (t:=subst (Zff m) t) (j:=j0) (n:=t.ps.length) (c:=cp) (e:=e) (vs:=vs)
      (by rw [hsp,List.length_map]) (.inr (by rcases hS4 with hh | hh <;> omega)) (by rw [hget j0 hj0n]; exact hj0) hvl (fun k w x hw hx=>by
       rw [hsp,List.getElem?_map] at hx
       obtain ⟨y,hy,rfl⟩:=Option.map_eq_some_iff.1 hx
       have hr:=hp k w y hw hy
       refine Zhq.mono (S:=fun j=>(S j ∨ h4.length≤j)∧∀ j1,(some (j0,0):Pt)=some (j1,0)→j≠j1) (fun j hj=>hj.1.imp id (fun h=>by omega)) (hr.agree fun j hj=>hget j ?_)
       rcases hj.1 with h8 | h8
       ·have:=(hSi j h8).1; omega
       ·omega)
     rw [hsh] at this
     exact this
  cases hv:Zcs t.hd with
  | true=>
   obtain ⟨k,hk6,hkv,hix⟩:=Zzh hv
   rw [hix]
   obtain ⟨x,hx1,hx2,hx3⟩:=rm1.get (k:=k) hk6
   rw [hkv,Option.bind_some] at hx3
   have hge:decide ((k:Int) ≥ 0)=true:=by simp
   simp only [hge,Zcn,Int.toNat_natCast,hx1,hx2,Zaq,Zaf,Zan]
   refine ⟨by omega,?_⟩
   cases hg:Zff m t.hd with
   | none=>
    rw [hg] at hx3
    simp only at hx3
    subst hx3
    simp only [Zar,show ((0:Int) == 0)=true from rfl,Bool.not_true,Zca]
    exact main hg
   | some u=>
    rw [hg] at hx3
    simp only at hx3
    have hu:=hmo _ _ hg
    obtain ⟨ux,uc,ue,hux⟩:=hx3.shape
    simp only [List.cons.injEq,and_true] at hux
    obtain ⟨hux1,hux2⟩:=hux
    rw [hux1,hux2] at hx3
    rw [hux1,hux2]
    have hu0:(((u.hd:Nat):Int) == 0)=false:=by
     have:=Zuf hu
     have hne:u.hd≠0:=fun e=>by rw [e] at this; simp at this
     simp; omega
    simp only [Zar,Zae,hu0,Bool.not_false,Zcn]
    rw [Zbd oz (by simp)]
    simp only [Zas]
    rw [Zeg (Zbz oz) (by simp [putRow])]
    simp only [putRow,List.take_zero,List.nil_append,List.length_cons,List.length_nil,List.cons_append,List.drop_succ_cons,List.drop_zero,List.drop_nil,List.append_nil,List.take_succ_cons,Zaq,Zaf,Zar,Zae,Zan]
    refine ⟨by omega,⟨by simp; omega,fun j hj=>by rw [Zbs (by omega)]; exact S1.eq j hj⟩,_,rfl,?_⟩
    have hsub:subst (Zff m) t=u:=by rw [Zrs ht hv]; simp [subst,hg]
    rw [hsub]
    refine Zhq.mono (S:=S) (fun j hj=>.inl hj) (hx3.agree fun j hj=>Zbs (by have:=(hSi j hj).1; omega))
  | false=>
   rw [Yda ht hv]
   have hge:decide ((-1:Int) ≥ 0)=false:=by decide
   simp only [hge,Zca]
   exact main (hmn _ hv)
end Go.Sim

set_option linter.unusedVariables false
set_option linter.unusedSimpArgs false
set_option maxRecDepth 20000
namespace Go.Sim
open Go Go.RowKit

end Go.Sim

set_option linter.unusedSimpArgs false
set_option linter.unusedVariables false
namespace Go.Sim

def Zlg:Ty→List Nat
 | .k c=>if Zcs c then [c] else []
 | .u c a=>Zlg a
 | .w c a b=>Zlg a ++ Zlg b
theorem Yri {a t:Ty} (ha:a.ok=true) (ht:t.ok=true) (h:a.hd=t.hd) (hp:a.ps=t.ps):a=t:=by
 cases a <;> cases t <;> simp_all [Ty.hd,Ty.ps]
theorem Zqe {f g:Nat→Option Ty}:∀ {a:Ty},(∀ v∈Zlg a,f v=g v)→(∀ v,Zcs v=false→f v=none∧g v=none)→subst f a=subst g a
 | .k c,h,h0=>by
  simp only [subst]
  by_cases hv:Zcs c=true
  ·rw [h c (by simp [Zlg,hv])]
  ·obtain ⟨h1,h2⟩:=h0 c (by simpa using hv); rw [h1,h2]
 | .u c a,h,h0=>by simp only [subst]; rw [Zqe (a:=a) h h0]
 | .w c a b,h,h0=>by
  simp only [subst]
  rw [Zqe (a:=a) (fun v hv=>h v (by simp [Zlg,hv])) h0,Zqe (a:=b) (fun v hv=>h v (by simp [Zlg,hv])) h0]
structure Yvf (m m':Bd) (a t:Ty):Prop where
 keep:∀ v u,Zff m v=some u→Zff m' v=some u
 sub:subst (Zff m') a=t
 vars:∀ v,(Zff m' v).isSome=true ↔ ((Zff m v).isSome=true ∨ v∈Zlg a)
theorem Yix {m m':Bd} (hk:∀ v u,Zff m v=some u→Zff m' v=some u) (hv:∀ v,Zcs v=false→Zff m' v=none):∀ {a:Ty},(∀ v∈Zlg a,(Zff m v).isSome=true)→subst (Zff m') a=subst (Zff m) a:=by
 intro a h
 refine Zqe (fun v hvv=>?_) (fun v hvv=>⟨hv v hvv,?_⟩)
 ·obtain ⟨u,hu⟩:=Option.isSome_iff_exists.1 (h v hvv)
  rw [hu,hk v u hu]
 ·cases hb:Zff m v with
  | none=>rfl
  | some u=>have:=hk v u hb; rw [hv v hvv] at this; cases this
theorem BOk.novar {n:Nat} {m:Bd} (b:BOk n m):∀ v,Zcs v=false→Zff m v=none:=by
 intro v hv
 cases h:Zff m v with
 | none=>rfl
 | some t=>have:=(b.var _ (Znc h)).1; simp [hv] at this
theorem Zpk {n:Nat}:∀ {a t:Ty} {m m':Bd},a.ok=true→t.ok=true→t.txt.length≤n→BOk n m→matchT m a t=some m'→Yvf m m' a t
 | .k c,t,m,m',ha,ht,hn,b,h=>by
  simp only [matchT] at h
  split at h
  ·rename_i hv
   unfold Zpe at h
   split at h
   ·rename_i u hu
    split at h
    ·rename_i he
     cases h; subst he
     refine ⟨fun v u h=>h,by simp [subst,hu],fun v=>?_⟩
     simp only [Zlg,hv,if_true,List.mem_singleton]
     constructor
     ·exact .inl
     ·rintro (h | rfl)
      ·exact h
      ·rw [hu]; rfl
    ·cases h
   ·rename_i hu
    cases h
    refine ⟨fun v u h=>by rw [Zsu,h],by simp [subst,Zsu,hu],fun v=>?_⟩
    simp only [Zsu,Zlg,hv,if_true,List.mem_singleton]
    cases hb:Zff m v with
    | some u=>simp
    | none=>
     by_cases e:c=v
     ·subst e; simp
     ·have:¬ v=c:=fun e'=>e e'.symm
      simp [e,this]
  ·rename_i hv
   split at h
   ·rename_i he
    cases h
    have hc:Zff m c=none:=b.novar c (by simpa using hv)
    refine ⟨fun v u h=>h,?_,fun v=>by simp [Zlg,hv]⟩
    simp only [subst,hc,Option.getD_none]
    have hl:=Ydu ha ht (by simpa [Ty.hd] using he)
    refine Yri ha ht (by simpa [Ty.hd] using he) ?_
    simp only [Ty.ps,List.length_nil] at hl ⊢
    exact (List.eq_nil_of_length_eq_zero hl.symm).symm
   ·cases h
 | .u c a,t,m,m',ha,ht,hn,b,h=>by
  have ha':=ha
  simp only [Ty.ok,Bool.and_eq_true] at ha
  simp only [matchT] at h
  split at h
  ·rename_i he
   split at h
   ·rename_i x hx
    have hm:x∈t.ps:=by rw [hx]; simp
    have o:=Zpk ha.2 (Ty.ok_ps ht x hm) (Nat.le_trans (Zor hm) hn) b h
    refine ⟨o.keep,?_,o.vars⟩
    simp only [subst,o.sub]
    cases t <;> simp_all [Ty.hd,Ty.ps]
   ·cases h
  ·cases h
 | .w c a a2,t,m,m',ha,ht,hn,b,h=>by
  simp only [Ty.ok,Bool.and_eq_true] at ha
  simp only [matchT] at h
  split at h
  ·rename_i he
   split at h
   ·rename_i x y hx
    have hm:x∈t.ps:=by rw [hx]; simp
    have hm2:y∈t.ps:=by rw [hx]; simp
    split at h
    ·rename_i m1 h1
     have b1:=BOk.matchT ha.1.2 (Ty.ok_ps ht x hm) (Nat.le_trans (Zor hm) hn) b h1
     have b2:=BOk.matchT ha.2 (Ty.ok_ps ht y hm2) (Nat.le_trans (Zor hm2) hn) b1 h
     have o1:=Zpk ha.1.2 (Ty.ok_ps ht x hm) (Nat.le_trans (Zor hm) hn) b h1
     have o2:=Zpk ha.2 (Ty.ok_ps ht y hm2) (Nat.le_trans (Zor hm2) hn) b1 h
     refine ⟨fun v u hv=>o2.keep v u (o1.keep v u hv),?_,fun v=>?_⟩
     ·have hs:subst (Zff m') a=x:=by
       rw [Yix o2.keep b2.novar (fun v hv=>(o1.vars v).2 (.inr hv)),o1.sub]
      simp only [subst,hs,o2.sub]
      cases t <;> simp_all [Ty.hd,Ty.ps]
     ·rw [o2.vars,o1.vars]; simp [Zlg,or_assoc]
    ·cases h
   ·cases h
  ·cases h
theorem Yqi {m:Bd} (v:Nat):(bdL m).find? (fun p=>decide (p.1=[v]))=if v∈Zed then (Zff m v).map (fun t=>([v],t.txt)) else none:=by
 unfold bdL
 have hnd:=Zob
 revert hnd
 induction Zed with
 | nil=>intro _; rfl
 | cons w l ih=>
  intro hnd
  rw [List.nodup_cons] at hnd
  simp only [List.filterMap_cons,List.mem_cons]
  by_cases e:v=w
  ·subst e
   simp only [true_or,if_true]
   cases hb:Zff m v with
   | none=>
    simp only [Option.map_none]
    rw [ih hnd.2,if_neg hnd.1]
   | some t=>simp
  ·simp only [e,false_or]
   cases hb:Zff m w with
   | none=>simp only [Option.map_none]; exact ih hnd.2
   | some t=>
    have:¬ w=v:=fun e'=>e e'.symm
    simp only [Option.map_some,List.find?_cons,List.cons.injEq,this,and_true,decide_false]
    exact ih hnd.2
theorem Ynl {m:Bd} (b:BOk 60 m) (v:Nat):Zqz (bdL m) v=Zff m v:=by
 unfold Zqz
 rw [Yqi]
 by_cases hv:v∈Zed
 ·rw [if_pos hv]
  cases hb:Zff m v with
  | none=>rfl
  | some t=>
   have:=b.var _ (Znc hb)
   exact Ymw this.2.1 this.2.2
 ·rw [if_neg hv]
  have:Zcs v=false:=by cases h:Zcs v with | false=>rfl | true=>exact absurd ((Znv v).2 h) hv
  rw [b.novar v this]
theorem Zyb {a:Ty} (h:a.ok=true) (v:Nat) (hv:Zcs v=true):v∈a.txt ↔ v∈Zlg a:=by
 have h40:¬ v=40:=fun e=>by subst e; simp [Zcs] at hv
 have h41:¬ v=41:=fun e=>by subst e; simp [Zcs] at hv
 have h44:¬ v=44:=fun e=>by subst e; simp [Zcs] at hv
 induction a with
 | k c=>
  simp only [Ty.txt,Zlg,List.mem_singleton]
  constructor
  ·rintro rfl; simp [hv]
  ·intro h; split at h
   ·simpa using h
   ·cases h
 | u c a ih=>
  have hc:=Ynz h
  have:¬ v=c:=fun e=>by subst e; simp [hv] at hc
  simp only [Ty.ok,Bool.and_eq_true] at h
  simp only [Ty.txt,Zlg,List.mem_cons,List.mem_append,this,h40,h41,false_or,List.not_mem_nil,or_false]
  exact ih h.2
 | w c a b iha ihb=>
  have hc:=Ylp h
  have:¬ v=c:=fun e=>by subst e; simp [hv] at hc
  simp only [Ty.ok,Bool.and_eq_true] at h
  simp only [Ty.txt,Zlg,List.mem_cons,List.mem_append,this,h40,h41,h44,false_or,List.not_mem_nil,or_false]
  exact or_congr (iha h.1.2) (ihb h.2)
end Go.Sim

set_option linter.unusedSimpArgs false
set_option linter.unusedVariables false
namespace Go.Sim

structure Ybo (f:Nat→Option Ty):Prop where
 nv:∀ v,Zcs v=false→f v=none
 ok:∀ v t,f v=some t→t.ok=true
theorem Zuu {f:Nat→Option Ty} (hf:Ybo f):∀ {a:Ty},a.ok=true→(subst f a).ok=true
 | .k c,h=>by
  simp only [subst]
  cases hb:f c with
  | none=>exact h
  | some t=>exact hf.ok c t hb
 | .u c a,h=>by
  simp only [Ty.ok,Bool.and_eq_true] at h
  simp only [subst,Ty.ok,Bool.and_eq_true]; exact ⟨h.1,Zuu hf h.2⟩
 | .w c a b,h=>by
  simp only [Ty.ok,Bool.and_eq_true] at h
  simp only [subst,Ty.ok,Bool.and_eq_true]; exact ⟨⟨h.1.1,Zuu hf h.1.2⟩,Zuu hf h.2⟩
theorem Zxb {p s:List Nat} (h:Zlh p s=true):Zml p=true∧Zml s=true:=by
 unfold Zlh Zho at h
 split at h
 ·rename_i a t ha ht; exact ⟨Ybj ha,Ybj ht⟩
 ·cases h
noncomputable def after (f g:Nat→Option Ty) (v:Nat):Option Ty:=if Zcs v then some (subst g ((f v).getD (.k v))) else none
end Go.Sim

set_option linter.unusedVariables false
set_option linter.unusedSimpArgs false
set_option maxRecDepth 20000
namespace Go.Sim
open Go Go.RowKit

noncomputable def Zzu (w:Wd) (x:Int):Bool:=decide (x ≥ 0) && decide (x < (w.is.length:Nat))
theorem Zmo {w:Wd} {k:Nat} (h:k < w.is.length):Zzu w (k:Int)=true:=by unfold Zzu; simp; omega
theorem Zqm {w:Wd} {x:Int} (h:Zzu w x=true):∃ k:Nat,x=k∧k < w.is.length:=by
 unfold Zzu at h; simp at h; exact ⟨x.toNat,by omega,by omega⟩
theorem Zhm {h:Zaa} {a0 a1:Pt} {n0 c0 n1 c1:Nat} {w:Wd} (r:Zmb h a0 n0 c0 a1 n1 c1 w) {k:Nat} (hk:k < w.is.length) :
  ∃ i o a n cp e,a1=some (i,o)∧i < h.length∧Zbi h (.ptr (some (i,o + k * 3))) 3=some [.str w.is[k].1.1,.str w.is[k].1.2,.slice a n cp e]∧Zag h (.ptr (some (i,o + k * 3)))=some (.str w.is[k].1.1)∧Zag h (.ptr (some (i,o + k * 3 + 1)))=some (.str w.is[k].1.2)∧Row h.length h a (n * 2) (Zdn eP w.is[k].2)∧w.is[k].2.length=n:=by
 have hl:=r.len1
 obtain ⟨i,o,hk',a,n,cp,e,h1,h2,h3,h4,h5,h6,h7,h8⟩:=r.inst (k:=k) (by omega)
 exact ⟨i,o,a,n,cp,e,h1,h2,h3,h4,h5,h7,h8⟩
end Go.Sim

set_option linter.unusedVariables false
set_option linter.unusedSimpArgs false
set_option maxRecDepth 20000
namespace Go.Sim
open Go Go.RowKit

end Go.Sim

set_option linter.unusedVariables false
set_option linter.unusedSimpArgs false
set_option maxRecDepth 20000
namespace Go.Sim
open Go Go.RowKit

theorem Zdh.low {α:Type} {ty:TypeId} {enc:α→List Zau} {b b':Nat} {h:Zaa} {a:Pt} {n:Nat} {l:List α} (f:Zdh ty enc b h a n l) (hb:b'≤b):Zdh ty enc b' h a n l:=
 ⟨f.1,f.2.imp id fun ⟨i,ha,hbi,hi⟩=>⟨i,ha,by omega,hi⟩⟩
end Go.Sim

set_option linter.unusedVariables false
set_option linter.unusedSimpArgs false
set_option maxRecDepth 20000
namespace Go.Sim
open Go Go.RowKit

def Zni (w:Wd) (x:Int):Ins:=w.is.getD x.toNat (([],[]),[])
theorem Zlt {w:Wd} {k:Nat} (h:k < w.is.length):Zni w (k:Int)=w.is[k]:=by unfold Zni; rw [Int.toNat_natCast,Zfd h]
theorem Row.i64 {b:Nat} {h:Zaa} {a:Pt} {n:Nat} {l:List Int} (r:Row b h a n (Zdn eI l)) {k:Nat} (hk:k < n):∃ i o,∃ hk':k < l.length,a=some (i,o)∧i < b∧Zag h (.ptr (some (i,o + k * 1)))=some (.int .i64 l[k]):=by
 obtain ⟨i,o,hk',ha,hi,hc⟩:=Row.el1 Zjl r hk
 exact ⟨i,o,hk',ha,hi,hc⟩
end Go.Sim

set_option linter.unusedSimpArgs false
set_option linter.unusedVariables false
namespace Go.Sim

theorem Ylk {l:List Nd} {t u:List Nat} (h:Zfl l t=some u):Zml u=true:=by
 unfold Zfl at h
 split at h
 ·rename_i hc
  cases h
  simp only [Bool.and_eq_true,decide_eq_true_eq] at hc
  obtain ⟨a,ha⟩:=Zku hc.1.2
  obtain ⟨h1,h2,h3⟩:=Zdt.1 ha
  have:=Znl hc.1.1 h1
  rw [← h2] at this
  exact Zsn.2 ⟨_,this.2,this.1,hc.2⟩
 ·cases h
theorem Yav {i:Ins} {t:List Nat} {ms:List Nd} (h:Zke i t=some ms):ms.length=i.2.length∧∀ m∈ms,Zml m.2=true∧∃ n∈i.2,m.1=n.1:=by
 unfold Zke at h
 split at h
 ·cases h
 ·rename_i b hb
  split at h
  ·rename_i hall
   cases h
   refine ⟨by simp,fun m hm=>?_⟩
   obtain ⟨n,hn,rfl⟩:=List.mem_map.1 hm
   have:=List.all_eq_true.1 hall n hn
   obtain ⟨u,hu⟩:=Option.isSome_iff_exists.1 this
   have h2:=Ylk hu
   unfold Zfl at hu
   split at hu
   ·cases hu; exact ⟨h2,n,hn,rfl⟩
   ·cases hu
  ·cases h
end Go.Sim

set_option linter.unusedVariables false
set_option linter.unusedSimpArgs false
set_option maxRecDepth 20000
namespace Go.Sim
open Go Go.RowKit

noncomputable def Yog (l:List Nd):Bd:=l.map fun p=>(p.1.headD 0,(Zhk p.2).getD default)
theorem Ybs {l:List Nd} (h:Zht l=true) {p:Nd} (hp:p∈l):∃ v t,p.1=[v]∧Zcs v=true∧Zhk p.2=some t:=by
 obtain ⟨h1,h2⟩:=Zss h hp
 obtain ⟨t,ht⟩:=Zku h2
 match hq:p.1 with
 | []=>rw [hq] at h1; cases h1
 | [v]=>rw [hq] at h1; exact ⟨v,t,rfl,h1,ht⟩
 | _ :: _ :: _=>rw [hq] at h1; cases h1
theorem Ydn:∀ {l:List Nd},(∀ p∈l,∃ v t,p.1=[v]∧Zcs v=true∧Zhk p.2=some t)→∀ c,Zff (Yog l) c=Zqz l c
 | [],_,c=>rfl
 | p :: l,h,c=>by
  obtain ⟨v,t,h1,h2,h3⟩:=h p (by simp)
  have ih:=Ydn (l:=l) (fun q hq=>h q (by simp [hq])) c
  unfold Yog Zqz at ih ⊢
  simp only [List.map_cons,Zff,h1,List.headD_cons,h3,Option.getD_some,List.find?_cons]
  by_cases e:v=c
  ·subst e; simp [h3]
  ·have:¬ ([v]:List Nat)=[c]:=fun x=>e (by simpa using x)
   simp only [e,if_false,this,decide_false]
   exact ih
theorem Yne {l:List Nd} (h:Zht l=true):∀ (g:Nat) (hg:g < l.length) (k:Nat) (hk:k < g),(l[k]'(by omega)).1.headD 0 < l[g].1.headD 0
 | 0,_,k,hk=>by omega
 | g + 1,hg,k,hk=>by
  have h1:=(Zzg h hg).2.2
  rcases h1 with h1 | h1
  ·omega
  ·rw [Nat.add_sub_cancel,Zfd (by omega)] at h1
   obtain ⟨v,t,hv,_⟩:=Ybs h (List.getElem_mem (h:=hg))
   obtain ⟨u,t',hu,_⟩:=Ybs h (List.getElem_mem (l:=l) (n:=g) (h:=by omega))
   rw [hv,hu,Zxn] at h1
   have h2:u < v:=of_decide_eq_true h1
   by_cases e:k=g
   ·subst e; rw [hv,hu]; exact h2
   ·have:=Yne h g (by omega) k (by omega)
    rw [hu] at this; rw [hv]
    simp only [List.headD_cons] at this ⊢; omega
theorem Ykb {l:List Nd} (h:Zht l=true) {g v:Nat} (hg:g < l.length) (hv:l[g].1=[v]):Zff (Yog (l.take g)) v=none:=by
 rw [Zuy]
 intro hm
 unfold Yog at hm
 rw [List.map_map] at hm
 obtain ⟨p,hp,he⟩:=List.mem_map.1 hm
 obtain ⟨k,hk,rfl⟩:=List.getElem_of_mem hp
 simp only [List.length_take] at hk
 have:=Yne h g hg k (by omega)
 rw [hv] at this
 simp only [Function.comp_def,List.getElem_take,List.headD_cons] at he this
 omega
theorem Ztt.mono {S S':Nat→Prop} {h:Zaa} {i:Nat} {m:Bd} (r:Ztt S h i m) (hs:∀ j,S j→S' j):Ztt S' h i m:=by
 obtain ⟨rows,h1,h2,h3⟩:=r
 refine ⟨rows,h1,h2,fun k x hx=>?_⟩
 have:=h3 k x hx
 split at this
 ·exact this.mono hs
 ·exact this
theorem Ztt.below {S:Nat→Prop} {h:Zaa} {i:Nat} {m:Bd} (r:Ztt S h i m):Ztt (fun j=>S j∧j < h.length) h i m:=by
 obtain ⟨rows,h1,h2,h3⟩:=r
 refine ⟨rows,h1,h2,fun k x hx=>?_⟩
 have:=h3 k x hx
 split at this
 ·exact Zhq.below this
 ·exact this
theorem Zvr {h:Zaa} {a:Pt} {n c:Nat} {e:Bool} {l:List Nd} {t:List Nat} (r:Row h.length h a (n * 2) (Zdn eP l)) (hn:n≤1048576) (hb:∀ p∈l,p.2.length≤1048576) (hb1:∀ p∈l,∀ x∈p.1,x < 256) (ht:t.length≤1048576) :
  Zah pg Zis [.slice a n c e,.str t] h fun v h'=>v=Zmz l t∧Zbc h.length h h':=by
 have hl:l.length=n:=by have:=r.1; rw [Zay Zeb] at this; omega
 apply Zex.call
 refine (Zof t (by omega) h).mono ?_
 rintro v h1 ⟨s1,vs1,rfl,r1⟩
 obtain ⟨d1,a1,n1,c1,e1,rfl⟩:=Zso r1
 simp only [Zct,Zaf,Zdd,Zar,Zae,Zan,Zap,Zaw]
 rw [Zfk]
 generalize hh2:h1 ++ [Zcd.cells Zai [.int .u8 d1,.slice a1 n1 c1 e1] false]=h2
 have s2:Zbc h1.length h1 h2:=by rw [← hh2]; exact Zam
 have o2:h2[h1.length]?=some (.cells Zai [.int .u8 d1,.slice a1 n1 c1 e1] false):=by rw [← hh2]; simp
 have S2:=s1.cat s2
 simp only [Zas]
 cases hto:Zml t with
 | false=>
  simp only [Bool.not_false,Zcn]
  exact ⟨by unfold Zmz Zfl; rw [hto]; simp,S2⟩
 | true=>
 simp only [Bool.not_true,Zca]
 obtain ⟨u,hu⟩:=Zku hto
 obtain ⟨hu1,hu2,hu3⟩:=Zdt.1 hu
 rw [hu] at r1
 simp only at r1
 refine (Zvn (r.same' S2) hn hb hb1).mono ?_
 rintro v h3 ⟨rfl,s3⟩
 simp only [Zap]
 have S3:=S2.cat s3
 refine Zbq (fun b1=>⟨by unfold Zmz Zfl; rw [b1]; rfl,S3⟩) (fun b1=>?_)
 apply Zex.J4i
 simp only [Zaw]
 rw [← Ymr]
 generalize hh4:h3 ++ [Zcd.cells Zdf (Zdn eR (List.replicate 12 (Zau.int .u8 0,Zau.slice none 0 0 true))) false]=h4
 have s4:Zbc h3.length h3 h4:=by rw [← hh4]; exact Zam
 have o4:h4[h3.length]?=some (.cells Zdf (Zdn eR (List.replicate 12 (Zau.int .u8 0,Zau.slice none 0 0 true))) false):=by rw [← hh4]; simp
 have l4:h4.length=h3.length + 1:=by rw [← hh4]; simp
 have hone:∀ p∈l,∃ v t,p.1=[v]∧Zcs v=true∧Zhk p.2=some t:=fun p hp=>Ybs b1 hp
 have o3:=s3.get o2 (Own.lt o2)
 refine Zex.L6ind _ _ _ _ _ _ _ _ _ _ (J:=fun (g:Nat) x28 h'=>x28=(g:Int)∧g≤n∧Zbc h3.length h3 h'∧h4.length≤h'.length∧Ztt (fun j=>j≠h3.length) h' h3.length (Yog (l.take g))) (fun g=>n - g) ?_ 0 _ _ ⟨rfl,by omega,s4,Nat.le_refl _,Ztt.nil o4⟩
 rintro g x28 h' ⟨rfl,hg,hS,hl4,rm⟩ R hR
 have SS:=S3.cat hS
 unfold Zex.L6t
 refine Zat (fun hlt=>?_) (fun hge=>?_)
 ·obtain ⟨i,o,hgl,rfl,hi,hr,_,_⟩:=(r.same SS).pr (k:=g) (by omega)
  obtain ⟨v,tt,hv1,hv2,hv3⟩:=hone _ (List.getElem_mem hgl)
  obtain ⟨ht1,ht2,ht3⟩:=Zdt.1 hv3
  simp only [Zav,Int.toNat_natCast,hr,Zaq,Zaf,Zan,Zal,Zaw]
  rw [Zfk]
  generalize hq:h' ++ [Zcd.cells Zbj [.str l[g].1,.str l[g].2] false]=hq'
  have sq:Zbc h'.length h' hq':=by rw [← hq]; exact Zam
  have oq:hq'[h'.length]?=some (.cells Zbj [.str l[g].1,.str l[g].2] false):=by rw [← hq]; simp
  have hlq:=sq.le
  rw [hv1] at oq
  simp only [Zas,Zao oq,Nat.zero_add,List.getElem?_cons_succ,List.getElem?_cons_zero,Zal]
  refine ⟨by omega,by simp,?_⟩
  simp only [Int.toNat_zero,List.getD_cons_zero]
  refine (Zvw v).mono ?_
  rintro v' h5 ⟨rfl,rfl⟩
  obtain ⟨k,hk6,hkv,hix⟩:=Zzh hv2
  simp only [hix,Zar,Zao oq,List.getElem?_cons_succ,List.getElem?_cons_zero,true_and]
  refine (Zof l[g].2 (by omega) h5).mono ?_
  rintro v' h6 ⟨s6,vs6,rfl,r6⟩
  obtain ⟨d6,a6,n6,c6,e6,rfl⟩:=Zso r6
  rw [hv3] at r6
  simp only at r6
  have hl6:=s6.le
  have ho6:Zag h6 (.ptr (some (h'.length,0)))=Zag h5 (.ptr (some (h'.length,0))):=by simp only [Zag,s6.eq _ (Own.lt oq)]
  simp only [Zct,Zaf,Zdd,Zar,Zae,Zan,Zap,ho6,true_and]
  have rm6:=(rm.same sq).same s6
  obtain ⟨h7,hst,hK,rm7⟩:=rm6.put (fun j hj=>hj) hkv (Ykb b1 hgl hv1) (r6.mono fun j hj=>by have:=hj.1; omega)
  rw [Int.toNat_natCast,Nat.zero_add] at *
  rw [hst]
  simp only [Zas]
  rw [Zbl (by omega)]
  have hK7:=hK.le
  refine ⟨by rw [Zao oq]; rfl,⟨by omega,by omega⟩,hR (g + 1) _ _ (by omega) ⟨rfl,by omega,⟨by omega,fun j hj=>?_⟩,by omega,?_⟩⟩
  ·rw [hK.eq j (by omega) (by omega),s6.eq j (by omega),sq.eq j (by omega),hS.eq j hj]
  ·have:Yog (l.take (g + 1))=Yog (l.take g) ++ [(v,tt)]:=by
    unfold Yog
    rw [List.take_succ_eq_append_getElem hgl,List.map_append]
    simp [hv1,hv3]
   rw [this]; exact rm7
 ·apply Zex.A6x0i
  have:g=n:=by omega
  subst this
  rw [List.take_of_length_le (by omega)] at rm
  have hS3:=S3.le
  have h31:h1.length≤h3.length:=(s2.cat s3).le
  have o5:=hS.get o3 (Own.lt o3)
  simp only [Zeg o5 (show 0 + 2≤_ by simp),List.drop_zero,List.take_succ_cons,List.take_zero,Zaq,Zaf,Zan,Zar,Zae]
  have hbm:∀ c,Zff (Yog l) c=Zqz l c:=Ydn hone
  have rt:=(((r1.same s2).same s3).same hS).mono (S':=fun j=>j≠h3.length) (fun j hj=>by have:=hj.2; omega)
  refine (Ybg _ (Nat.le_refl _) hu1 (S:=fun j=>j≠h3.length∧j < h'.length) (fun j hj=>⟨hj.2,hj.1⟩) rt.below rm.below.w (fun v w hw=>?_) (fun v hv=>?_)).mono ?_
  ·rw [hbm] at hw; exact ((Zvg b1 v).2 w hw).1
  ·rw [hbm]; exact (Ztv b1 hv).2
  rintro v h6 ⟨s6,nv,rfl,hn6⟩
  rw [show Zff (Yog l)=Zqz l from funext hbm] at hn6
  obtain ⟨na,nc,ne,rfl⟩:=hn6.shape
  have hat:=Znl b1 hu1
  rw [← hu2] at hat
  have hal:=Zvj b1 t
  simp only [Zdd,Zaf,Zar,Zae,Zan,Zaw]
  rw [Zfk]
  generalize hh7:h6 ++ [Zcd.cells Zai [.int .u8 ((subst (Zqz l) u).hd:Int),.slice na (subst (Zqz l) u).ps.length nc ne] false]=h7
  have s7:Zbc h6.length h6 h7:=by rw [← hh7]; exact Zam
  have o7:h7[h6.length]?=some (.cells Zai [.int .u8 ((subst (Zqz l) u).hd:Int),.slice na (subst (Zqz l) u).ps.length nc ne] false):=by rw [← hh7]; simp
  have S7:=(SS.cat s6).cat s7
  simp only [Zas,Zeg o7 (show 0 + 2≤_ by simp),List.drop_zero,List.take_succ_cons,List.take_zero,Zaq,Zaf,Zan,Zar,Zae]
  refine (Zqf _ (Nat.le_refl _) (by rw [← hat.1]; omega) (hn6.same s7)).mono ?_
  rintro v h8 ⟨rfl,s8⟩
  have o8:=s8.get o7 (Own.lt o7)
  simp only [Zar]
  rw [← hat.1]
  refine Zat (fun hbig=>⟨by unfold Zmz Zfl; rw [if_neg (by simp; omega)],S7.cat s8⟩) (fun hsm=>?_)
  simp only [Zeg o8 (show 0 + 2≤_ by simp),List.drop_zero,List.take_succ_cons,List.take_zero,Zaq,Zaf,Zan,Zar,Zae]
  refine (Zpg _ (Nat.le_refl _) (by rw [← hat.1]; omega) hat.2 ((hn6.same s7).same s8)).mono ?_
  rintro v h9 ⟨rfl,s9⟩
  simp only [Zal]
  refine ⟨?_,(S7.cat s8).cat s9⟩
  unfold Zmz Zfl
  rw [if_pos (by rw [b1,hto]; simp; omega),hat.1]
theorem Yca (p s:List Nat):(∀ q∈Zjh p s,q.2.length≤1048576)∧(∀ q∈Zjh p s,∀ x∈q.1,x < 256)∧(Zjh p s).length≤6:=by
 unfold Zjh
 cases hm:Zho p s with
 | none=>simp
 | some m=>
  have b:=Zua hm
  refine ⟨fun q hq=>?_,fun q hq x hx=>?_,Yey m⟩
  ·have hq':=Zss (Yiw b) hq
   have:=Ybb hq'.2; omega
  ·simp only [Yhu,List.mem_map,List.mem_filter] at hq
   obtain ⟨v,⟨hv,_⟩,rfl⟩:=hq
   simp at hx; subst hx
   have:=(Znv x).1 hv
   simp only [Zcs,Bool.or_eq_true,beq_iff_eq] at this; omega
theorem Ykl {h:Zaa} {a:Pt} {n c:Nat} {e:Bool} {i:Ins} {t:List Nat} (r:Row h.length h a (n * 2) (Zdn eP i.2)) (hn:n≤1048576) (hi:i.1.2.length≤1048576) (ht:t.length≤1048576) (hns:∀ p∈i.2,p.2.length≤1048576) :
  Zah pg Zou [.agg [.str i.1.1,.str i.1.2,.slice a n c e],.str t] h (Ymo i t h):=by
 have hl:i.2.length=n:=by have:=r.1; rw [Zay Zeb] at this; omega
 apply Zje.call
 simp only [Zaw]
 generalize hh0:h ++ [Zcd.cells Zac [.str i.1.1,.str i.1.2,.slice a n c e] false]=h0
 generalize hh1:h0 ++ [Zcd.cells Zad [] false]=h1
 have s0:Zbc h.length h h0:=by rw [← hh0]; exact Zam
 have s1:Zbc h0.length h0 h1:=by rw [← hh1]; exact Zam
 have o0:h0[h.length]?=some (.cells Zac [.str i.1.1,.str i.1.2,.slice a n c e] false):=by rw [← hh0]; simp
 have x1:=s1.get o0 (Own.lt o0)
 have o1:h1[h0.length]?=some (.cells Zad [] false):=by rw [← hh1]; simp
 have l0:h0.length=h.length + 1:=by rw [← hh0]; simp
 simp only [Zao x1,Nat.zero_add,List.getElem?_cons_succ,List.getElem?_cons_zero,Zal]
 refine (Zuw i.1.2 t hi ht h1).mono ?_
 rintro v h2 ⟨s2,ma,mn,mc,me,rfl,hmc,fm⟩
 simp only [Zct,Zaf,Zae,Zap,Zan]
 have S2:=(s0.cat s1).cat s2
 have o2:=s2.get o1 (Own.lt o1)
 have x2:=s2.get x1 (Own.lt x1)
 obtain ⟨hmb1,hmb2,hml⟩:=Yca i.1.2 t
 have hmn:=fm.1
 have hS1le:h.length≤h1.length:=(s0.cat s1).le
 have hnw0:Zlh i.1.2 t=false→Zke i t=none:=fun hno=>by
  unfold Zke Zlh at *
  cases hm:Zho i.1.2 t with
  | none=>rfl
  | some m=>rw [hm] at hno; cases hno
 refine Zbq (fun b1=>⟨S2,_,0,0,true,by rw [hnw0 b1]; rfl,by rw [hnw0 b1]; exact ⟨rfl,.inl rfl⟩⟩) (fun b1=>?_)
 simp only [Zao x2,List.getElem?_cons_succ,List.getElem?_cons_zero,Zae]
 have hnw:Zke i t=if i.2.all (fun p=>(Zfl (Zjh i.1.2 t) p.2).isSome) then some (i.2.map (Yrd (Zjh i.1.2 t))) else none:=by
  unfold Zke Zlh at *
  cases hm:Zho i.1.2 t with
  | none=>rw [hm] at b1; cases b1
  | some m=>
   have hml':Zjh i.1.2 t=bdL m:=by unfold Zjh; rw [hm]
   simp only [hml']
   by_cases hall:i.2.all (fun p=>(Zfl (bdL m) p.2).isSome)=true
   ·rw [if_pos hall,if_pos hall,Yhh hall]
   ·rw [if_neg hall,if_neg hall]
 generalize Zjh i.1.2 t=ml at *
 refine Zje.L6ind _ _ _ _ _ _ _ _ _ _ (J:=fun (g:Nat) a8 n8 c8 e8 x28 h'=>x28=(g:Int)∧g≤n∧Zbc h.length h h'∧h2.length≤h'.length∧Row h'.length h' ma (mn * 2) (Zdn eP ml)∧(i.2.take g).all (fun p=>(Zfl ml p.2).isSome)=true∧n8=g∧Vec Zad h' a8 n8 c8 (Zdn eP ((i.2.take g).map (Yrd ml)))∧(∀ j,a8=some (j,0)→j=h0.length ∨ h2.length≤j)) (fun g=>n - g) ?_ 0 _ _ _ _ _ _
  ⟨rfl,by omega,S2,Nat.le_refl _,fm.row Zeb,rfl,rfl,Vec.mk1 (by simpa using o2),fun j hj=>by cases hj; exact .inl rfl⟩
 rintro g a8 n8 c8 e8 x28 h' ⟨rfl,hg,hS,hl1,hrm,hall,rfl,hv,ha⟩ R hR
 unfold Zje.L6t
 have hl2:h1.length≤h2.length:=s2.le
 refine Zat (fun hlt=>?_) (fun hge=>?_)
 ·obtain ⟨j,o,hgl,rfl,hj,hr,_,_⟩:=(r.same hS).pr (k:=n8) (by omega)
  simp only [Zav,Int.toNat_natCast,hr,Zaq,Zaf,Zan,Zal,Zaw]
  rw [Zfk]
  generalize hq:h' ++ [Zcd.cells Zad [.str i.2[n8].1,.str i.2[n8].2] false]=hq'
  have sq:Zbc h'.length h' hq':=by rw [← hq]; exact Zam
  have oq:hq'[h'.length]?=some (.cells Zad [.str i.2[n8].1,.str i.2[n8].2] false):=by rw [← hq]; simp
  simp only [Zas,Zao oq,Nat.zero_add,List.getElem?_cons_succ,List.getElem?_cons_zero,Zal]
  refine ⟨by omega,(Zvr (hrm.same' sq) (by omega) hmb1 hmb2 (hns _ (List.getElem_mem hgl))).mono ?_⟩
  rintro v h3 ⟨rfl,s3⟩
  have hshape:Zmz ml i.2[n8].2=.tup [.str ((Zfl ml i.2[n8].2).getD []),.bool (Zfl ml i.2[n8].2).isSome]:=by
   unfold Zmz; cases Zfl ml i.2[n8].2 <;> rfl
  rw [hshape]
  simp only [Zct,Zaf,Zal,Zap,Zan]
  have S3:=(hS.cat sq).cat s3
  have o3:=s3.get oq (Own.lt oq)
  refine Zbq (fun b2=>?_) (fun b2=>?_)
  ·have:Zke i t=none:=by rw [hnw,Zqr hgl b2]; rfl
   exact ⟨S3.cat Zam,_,0,0,true,by rw [this]; rfl,by rw [this]; exact ⟨rfl,.inl rfl⟩⟩
  ·simp only [Zao o3,List.getElem?_cons_zero,Zal]
   refine ((hv.same sq).same s3).pushN Yej Yls Ylm Ykz (by rw [Zay Zeb]; simp; omega) rfl (by omega) rfl (by omega) (fun h6 hl6 hi6 hk6=>?_)
   simp only [Zae]
   rw [Zbl (by omega)]
   have hle:=S3.le
   have hlq:=sq.le
   have hl3:=s3.le
   have hb8:∀ j,a8=some (j,0)→h.length≤j:=fun j hj=>by rcases ha j hj with hh | hh <;> omega
   have hlast:∀ j,(some (h3.length + 1,0):Pt)=some (j,0)→j=h0.length ∨ h2.length≤j:=fun j hj=>by
    cases hj
    exact .inr (by omega)
   refine hR (n8 + 1) _ _ _ _ _ _ (by omega) ⟨rfl,by omega,⟨by omega,fun j hj=>?_⟩,by omega,?_,Zfr hgl hall b2,rfl,Vec.mk1 ?_,hlast⟩
   ·rw [hk6 j (by omega) fun q hq=>by have:=hb8 q hq; omega]; exact S3.eq j hj
   ·have hr3:=(hrm.same' sq).same' s3
    obtain ⟨hx1,hx2⟩:=hr3
    rcases fm.2 with h0' | ⟨q2,hq2,hqb2,hq3⟩
    ·exact ⟨hx1,.inl (by omega)⟩
    ·refine ⟨hx1,hx2.imp id ?_⟩
     rintro ⟨q,o',ty,all,ro,hqa,hqb,hqg,hq4,hq5⟩
     refine ⟨q,o',ty,all,ro,hqa,by omega,?_,hq4,hq5⟩
     rw [hk6 q hqb fun q' hq'=>?_]
     ·exact hqg
     ·intro e
      subst e
      rw [hqa] at hq2; cases hq2
      have:=Own.lt hq3
      rcases ha _ hq' with hh | hh
      ·have:=Own.lt o1; omega
      ·omega
   ·rw [hi6,List.take_succ_eq_append_getElem hgl,List.map_append,Zig]; rfl
 ·apply Zje.A6x0i
  have:n8=n:=by omega
  subst this
  rw [show i.2.take n8=i.2 from List.take_of_length_le (by omega)] at hv hall
  have:Zke i t=some (i.2.map (Yrd ml)):=by rw [hnw,hall]; rfl
  refine ⟨hS,a8,n8,c8,e8,by rw [this]; rfl,?_⟩
  rw [this]
  exact hv.fresh (b:=h.length) (by simp; omega) fun j hj=>by rcases ha j hj with hh | hh <;> omega
noncomputable def Zkm (w:Wd) (x:Int) (t:List Nat):Option (List Nd):=if Zee w && Zzu w x then Zke (Zni w x) t else none
def Zwz (w:Wd) (x:Int) (t:List Nat) (h:Zaa) (v:Zau) (h':Zaa):Prop:=Zbc h.length h h'∧∃ a n c e,v=.tup [.slice a n c e,.bool (Zkm w x t).isSome]∧Zdh Zad eP h.length h' a n ((Zkm w x t).getD [])
theorem Yip {h:Zaa} {a0 a1:Pt} {n0 c0 n1 c1:Nat} {e0 e1:Bool} {w:Wd} {x:Int} {t:List Nat} (r:Zmb h a0 n0 c0 a1 n1 c1 w) (b:WB w) :
  Zah pg Zoz [.agg [.slice a0 n0 c0 e0,.slice a1 n1 c1 e1],.int .i64 x,.str t] h (Zwz w x t h):=by
 have hl1:=r.len1
 apply Zow.call
 simp only [Zaw]
 generalize hh0:h ++ [Zcd.cells Zab [.slice a0 n0 c0 e0,.slice a1 n1 c1 e1] false]=h0
 have s0:Zbc h.length h h0:=by rw [← hh0]; exact Zam
 have w0:h0[h.length]?=some (Znk a0 n0 c0 e0 a1 n1 c1 e1):=by rw [← hh0]; simp [Znk]
 rw [Zwo w0]
 simp only [Zaq,Zaf,Zan,Zae]
 refine (Zkl (r.same s0) b).mono ?_
 rintro v h2 ⟨rfl,s2⟩
 have S2:=s0.cat s2
 have w2:=s2.get w0 (Own.lt w0)
 simp only [Zap]
 have no:(Zee w && Zzu w x)=false→Zwz w x t h (.tup [.slice none 0 0 true,.bool false]) h2:=fun hno=>by
  have:Zkm w x t=none:=by unfold Zkm; rw [hno]; rfl
  exact ⟨S2,none,0,0,true,by rw [this]; rfl,by rw [this]; exact ⟨rfl,.inl rfl⟩⟩
 refine Zbq (fun b1=>no (by rw [b1]; rfl)) (fun b1=>?_)
 refine Zat (fun b2=>no (by unfold Zzu; simp [show ¬ x ≥ 0 by omega])) (fun b2=>?_)
 simp only [Zoj w2,Nat.zero_add,List.getElem?_cons_succ,List.getElem?_cons_zero,Zae]
 refine Zat (fun b3=>no (by unfold Zzu; simp [show ¬ x < (w.is.length:Int) by omega])) (fun b3=>?_)
 obtain ⟨k,rfl⟩:∃ k:Nat,x=k:=⟨x.toNat,by omega⟩
 have hk:k < w.is.length:=by omega
 have hbk:=b.is _ (List.getElem_mem hk)
 apply Zow.J3i
 obtain ⟨i,o,ka,kn,kc,ke,rfl,hi,hr1,_,_,hrow,hkn⟩:=Zhm (r.same S2) hk
 simp only [Zoj w2,Nat.zero_add,List.getElem?_cons_succ,List.getElem?_cons_zero,Zae,Zav,Int.toNat_natCast,hr1,Zaq,Zaf,Zan,Zal]
 have hval:Zkm w (k:Int) t=Zke w.is[k] t:=by unfold Zkm; rw [b1,Zmo hk,Zlt hk]; rfl
 refine ⟨by omega,(Ypw (i:=w.is[k]) hrow (by omega)).mono ?_⟩
 rintro v h3 ⟨s3,na,nn,nc,ne,rfl,f⟩
 simp only [Zct,Zaf,Zae,Zap,Zan]
 exact ⟨S2.cat s3,na,nn,nc,ne,by rw [hval],by rw [hval]; exact f.low S2.le⟩
theorem Ygr {h:Zaa} {a0 a1:Pt} {n0 c0 n1 c1:Nat} {e0 e1:Bool} {w:Wd} {x:Int} {t:List Nat} (r:Zmb h a0 n0 c0 a1 n1 c1 w) (b:WB w) (ht:t.length≤1048576) :
  Zah pg Zov [.agg [.slice a0 n0 c0 e0,.slice a1 n1 c1 e1],.int .i64 x,.str t] h (Zwz w x t h):=by
 have hl1:=r.len1
 have hli:=b.li
 apply Zpb.call
 simp only [Zaw]
 generalize hh0:h ++ [Zcd.cells Zab [.slice a0 n0 c0 e0,.slice a1 n1 c1 e1] false]=h0
 have s0:Zbc h.length h h0:=by rw [← hh0]; exact Zam
 have w0:h0[h.length]?=some (Znk a0 n0 c0 e0 a1 n1 c1 e1):=by rw [← hh0]; simp [Znk]
 rw [Zwo w0]
 simp only [Zaq,Zaf,Zan,Zae]
 refine (Ziz (r.same s0) b).mono ?_
 rintro v h2 ⟨rfl,s2⟩
 have S2:=s0.cat s2
 have w2:=s2.get w0 (Own.lt w0)
 simp only [Zap]
 have no:(Zee w && Zzu w x)=false→Zwz w x t h (.tup [.slice (some (h2.length,0)) 0 0 true,.bool false]) (h2 ++ [Zcd.cells Zad [] false]):=fun hno=>by
  have:Zkm w x t=none:=by unfold Zkm; rw [hno]; rfl
  exact ⟨S2.cat Zam,_,0,0,true,by rw [this]; rfl,by rw [this]; exact ⟨rfl,.inl rfl⟩⟩
 refine Zbq (fun b1=>no (by rw [b1]; rfl)) (fun b1=>?_)
 simp only [Zoj w2,Nat.zero_add,List.getElem?_cons_succ,List.getElem?_cons_zero,Zae]
 rw [IntWalk.i64_in _ (by omega)]
 have hin:decide (0≤x∧x≤((n1:Nat):Int) - 1)=Zzu w x:=by
  unfold Zzu; rw [hl1,Bool.eq_iff_iff]; simp; omega
 refine Zvt.mono ?_
 rintro v h3 ⟨rfl,rfl⟩
 simp only [Zap,hin]
 refine Zbq (fun b2=>no (by rw [b2]; simp)) (fun b2=>?_)
 obtain ⟨k,rfl,hk⟩:=Zqm b2
 have hbk:=b.is _ (List.getElem_mem hk)
 apply Zpb.J3i
 obtain ⟨i,o,ka,kn,kc,ke,rfl,hi,hr1,_,_,hrow,hkn⟩:=Zhm (r.same S2) hk
 simp only [Zoj w2,Nat.zero_add,List.getElem?_cons_succ,List.getElem?_cons_zero,Zae,Zav,Int.toNat_natCast,hr1,Zaq,Zaf,Zan,Zal]
 have hval:Zkm w (k:Int) t=Zke w.is[k] t:=by unfold Zkm; rw [b1,Zmo hk,Zlt hk]; rfl
 refine ⟨by omega,(Ykl (i:=w.is[k]) hrow (by omega) hbk.2.1 ht (fun p hp=>(hbk.2.2.2 p hp).2)).mono ?_⟩
 rintro v h4 ⟨s4,na,nn,nc,ne,rfl,f⟩
 simp only [Zct,Zaf,Zae,Zap,Zan]
 exact ⟨S2.cat s4,na,nn,nc,ne,by rw [hval],by rw [hval]; exact f.low S2.le⟩
theorem Yev {w:Wd} (b:WB w) (x:Int) (t:List Nat):((Zkm w x t).getD []).length≤1048576:=by
 unfold Zkm
 split
 ·rename_i hc
  simp only [Bool.and_eq_true] at hc
  obtain ⟨k,rfl,hk⟩:=Zqm hc.2
  rw [Zlt hk]
  have hb:=(b.is _ (List.getElem_mem hk)).2.2.1
  cases hn:Zke w.is[k] t with
  | none=>simp
  | some ms=>have:=(Yav hn).1; simp; omega
 ·simp
end Go.Sim

set_option linter.unusedVariables false
set_option linter.unusedSimpArgs false
set_option maxRecDepth 20000
namespace Go.Sim
open Go Go.RowKit

theorem Ygw {h:Zaa} {i p:Nat} (r:Rdr h i p) (hp:p≤1000000000000) (g:Bool) (Q:QT) (hQ:∀ c h',Zlb c=true→Zdu i h h'→Rdr h' i (p + 1)→Q (.str [c]) h') :
  bcase g (Zcm (h ++ [.cells Zbe [.str [105],.str [98],.str [105],.str [117]] false]) fun h_0=>Zah pg Zcf [.ptr (some (i,0)),.slice (some (List.length h,0)) 4 4 true] h_0 fun v_1 h_2=>
 Zbg (some v_1) fun s_3=>Q (.str s_3) h_2) (Zcm (h ++ [.cells Zbe [.str [120],.str [105],.str [121],.str [98],.str [120],.str [122],.str [117]] false]) fun h_4=>Zah pg Zcf [.ptr (some (i,0)),.slice (some (List.length h,0)) 7 7 true] h_4 fun v_5 h_6=>
 Zbg (some v_5) fun s_7=>Q (.str s_7) h_6):=by
 have hil:=r.lt
 have go:∀ (l:List (List Nat)) (n:Nat),l.length=n→1≤n→(∀ x∈l,∃ c,x=[c]∧Zlb c=true)→Zcm (h ++ [.cells Zbe (Zdn eS l) false]) fun h_0=>Zah pg Zcf [.ptr (some (i,0)),.slice (some (List.length h,0)) n n true] h_0 fun v_1 h_2=>Zbg (some v_1) fun s_3=>Q (.str s_3) h_2:=by
  intro l n hn h1 hl
  simp only [Zaw]
  refine (Zmr (r.app _) hp (j:=h.length) (t:=Zbe) (l:=l) (by simp) (by omega) hn h1).mono ?_
  rintro v h2 ⟨x,hx,rfl,hK,hR,_⟩
  obtain ⟨c,rfl,hc⟩:=hl x hx
  simp only [Zal]
  exact hQ c h2 hc ((Zdu.app i h _).trans hK) hR
 cases g with
 | true=>exact go [[105],[98],[105],[117]] 4 rfl (by omega) (by intro x hx; simp at hx; rcases hx with rfl | rfl | rfl | rfl <;> exact ⟨_,rfl,rfl⟩)
 | false=>exact go [[120],[105],[121],[98],[120],[122],[117]] 7 rfl (by omega) (by intro x hx; simp at hx; rcases hx with rfl | rfl | rfl | rfl | rfl | rfl | rfl <;> exact ⟨_,rfl,rfl⟩)
def DrQ (i p d:Nat) (h:Zaa) (v:Zau) (h':Zaa):Prop:=∃ t:Ty,v=.str t.txt∧t.ok=true∧t.txt.length≤4 ^ (d + 1)∧Zdu i h h'∧∃ p',p≤p'∧p'≤p + 4 ^ (d + 1)∧Rdr h' i p'
theorem Zuz:∀ (d:Nat),d≤8→∀ {h:Zaa} {i p:Nat},Rdr h i p→p + 4 ^ (d + 1)≤1000000000000→∀ (g:Bool),Zah pg Zew [.ptr (some (i,0)),.int .i64 (d:Int),.bool g] h (DrQ i p d h):=by
 intro d
 induction d with
 | zero=>
  intro _ h i p r hp g
  apply Znb.call
  refine Zcx (fun _=>?_) (fun hne=>absurd rfl hne)
  exact Ygw r (by omega) g (DrQ i p 0 h) fun c h' hc hK hR=>⟨.k c,rfl,by simpa [Ty.ok] using hc,by simp [Ty.txt],hK,p + 1,by omega,by omega,hR⟩
 | succ d ih=>
  intro hd h i p r hp g
  have hB:4 ^ (d + 1 + 1)=4 * 4 ^ (d + 1):=by rw [Nat.pow_succ]; omega
  have hB1:4≤4 ^ (d + 1):=by rw [Nat.pow_succ]; have:=Nat.one_le_two_pow (n:=0); have:1≤4 ^ d:=Nat.one_le_pow _ _ (by omega); omega
  have hB2:4 ^ (d + 1)≤1000000000000:=by omega
  generalize hBB:4 ^ (d + 1)=B at *
  apply Znb.call
  refine Zcx (fun he=>by omega) (fun _=>?_)
  refine (Zcu r (by omega) 3).mono ?_
  rintro v h1 ⟨x,rfl,hx0,hx1,_,K1,R1,_⟩
  simp only [Zar]
  refine Zcx (fun _=>?_) (fun _=>?_)
  ·exact Ygw R1 (by omega) g (DrQ i p (d + 1) h) fun c h' hc hK hR=>⟨.k c,rfl,by simpa [Ty.ok] using hc,by rw [hB]; simp [Ty.txt]; omega,K1.trans hK,p + 1 + 1,by omega,by omega,hR⟩
  ·apply Znb.J5i
   refine (Zcu R1 (by omega) 4).mono ?_
   rintro v h2 ⟨x,rfl,hx0,hx1,_,K2,R2,_⟩
   have hw:IntKind.wrap .i64 (((d + 1:Nat):Int) - 1)=(d:Int):=by rw [IntWalk.i64_in _ (by omega)]; omega
   have K12:=K1.trans K2
   simp only [Zar]
   rw [hw]
   have one:∀ (c:Nat),(c=109 ∨ c=108)→Zah pg Zew [.ptr (some (i,0)),.int .i64 (d:Int),.bool g] h2 fun v_28 h_29=>
     Zbg (some v_28) fun s_30=>List.length ([c,40]) + List.length s_30≤9223372036854775807∧(List.length (([c,40]) ++ s_30) + List.length [41]≤9223372036854775807∧(DrQ i p (d + 1) h (.str ((([c,40]) ++ s_30) ++ [41])) h_29)):=by
    intro c hc
    refine (ih (by omega) R2 (by omega) g).mono ?_
    rintro v h3 ⟨t,rfl,hok,hlen,K3,p3,hp1,hp2,R3⟩
    rw [hBB] at hlen hp2
    simp only [Zal]
    refine ⟨by simp; omega,by simp; omega,.u c t,by simp [Ty.txt],?_,?_,K12.trans K3,p3,by omega,by omega,R3⟩
    ·simp only [Ty.ok,hok,Bool.and_true]; rcases hc with rfl | rfl <;> rfl
    ·rw [hB]; simp [Ty.txt]; omega
   refine Zcx (fun _=>?_) (fun _=>Zcx (fun _=>one 109 (.inl rfl)) (fun _=>one 108 (.inr rfl)))
   refine (ih (by omega) R2 (by omega) g).mono ?_
   rintro v h3 ⟨t,rfl,hok,hlen,K3,p3,hp1,hp2,R3⟩
   rw [hBB] at hlen hp2
   simp only [Zal]
   refine ⟨by simp; omega,by simp; omega,?_⟩
   refine (ih (by omega) R3 (by omega) g).mono ?_
   rintro v h4 ⟨t2,rfl,hok2,hlen2,K4,p4,hp3,hp4,R4⟩
   rw [hBB] at hlen2 hp4
   simp only [Zal]
   refine ⟨by simp; omega,by simp; omega,.w 112 t t2,by simp [Ty.txt],by simp [Ty.ok,hok,hok2],?_,(K12.trans K3).trans K4,p4,by omega,by omega,R4⟩
   rw [hB]; simp [Ty.txt]; omega
def TxQ (i p:Nat) (h:Zaa) (v:Zau) (h':Zaa):Prop:=∃ s:List Nat,v=.str s∧s.length≤1000∧Zdu i h h'∧∃ p',p≤p'∧p'≤p + 1000∧Rdr h' i p'
theorem Yeu (s:List Nat) (a b:Int):(sub s a b).length≤s.length:=by unfold sub; simp; omega
theorem Yhj {h:Zaa} {i p:Nat} (r:Rdr h i p) (hp:p≤900000000000):Zah pg Zop [.ptr (some (i,0))] h (TxQ i p h):=by
 apply Zwd.call
 refine (Zcu r (by omega) 4).mono ?_
 rintro v h1 ⟨x,rfl,hx0,hx1,_,K1,R1,_⟩
 have hx1:=hx1 (by omega)
 simp only [Zar]
 refine (Zcu R1 (by omega) 2).mono ?_
 rintro v h2 ⟨y,rfl,hy0,hy1,_,K2,R2,_⟩
 simp only [Zar]
 obtain ⟨d,rfl⟩:∃ d:Nat,x=d:=⟨x.toNat,by omega⟩
 have hd:d≤3:=by omega
 have hB:4 ^ (d + 1)≤256:=by
  have:d=0 ∨ d=1 ∨ d=2 ∨ d=3:=by omega
  rcases this with rfl | rfl | rfl | rfl <;> decide
 refine (Zuz d (by omega) R2 (by omega) _).mono ?_
 rintro v h3 ⟨t,rfl,hok,hlen,K3,p3,hp1,hp2,R3⟩
 generalize ht:t.txt=s at hlen
 have K13:=(K1.trans K2).trans K3
 simp only [Zal]
 refine (Zcu R3 (by omega) 16).mono ?_
 rintro v h4 ⟨z,rfl,hz0,hz1,_,K4,R4,_⟩
 have K14:=K13.trans K4
 simp only [Zar]
 refine Zat (fun _=>⟨s,rfl,by omega,K14,p3 + 1,by omega,by omega,R4⟩) (fun _=>?_)
 have hs1:1≤s.length:=by rw [← ht]; obtain ⟨y,hy⟩:=t.txt_cons; rw [hy]; simp
 refine (Zcu R4 (by omega) (s.length:Nat)).mono ?_
 rintro v h5 ⟨k,rfl,hk0,hk1,_,K5,R5,_⟩
 have hk1:=hk1 (by omega)
 simp only [Zar]
 refine ⟨by omega,?_⟩
 simp only [Zaw]
 have hil:=R5.lt
 refine (Zmr (R5.app _) (by omega) (j:=h5.length) (t:=Zbe) (n:=7) (l:=[[],[40],[41],[44],[105],[113],[88]]) (by simp [Zdn,eS]) (by omega) rfl (by omega)).mono ?_
 rintro v h6 ⟨w,hw,rfl,K6,R6,_⟩
 have K16:=((K14.trans K5).trans (Zdu.app i h5 _)).trans K6
 have hwl:w.length≤1:=by simp at hw; rcases hw with rfl | rfl | rfl | rfl | rfl | rfl | rfl <;> simp
 simp only [Zal]
 have hs1:=Yeu s 0 k
 refine ⟨by omega,?_⟩
 refine (Zcu R6 (by omega) 2).mono ?_
 rintro v h7 ⟨u,rfl,hu0,hu1,_,K7,R7,_⟩
 have hu1:=hu1 (by omega)
 simp only [Zar]
 rw [IntWalk.i64_in (k + u) (by omega)]
 have hs2:=Yeu s (k + u) s.length
 refine ⟨by omega,by simp; omega,_,rfl,by simp; omega,K16.trans K7,_,?_,?_,R7⟩ <;> omega
theorem Yhg:∀ (vs:List Nat) (ts:List Ty),vs.Nodup→∀ k (hk:k < vs.length),k < ts.length→Zff (vs.zip ts) vs[k]=ts[k]?
 | [],_,_,k,hk,_=>by simp at hk
 | v :: vs,[],_,k,_,h=>by simp at h
 | v :: vs,t :: ts,hn,0,_,_=>by simp [Zff]
 | v :: vs,t :: ts,hn,k + 1,hk,h=>by
  have h1:=List.nodup_cons.1 hn
  have hk':k < vs.length:=by simpa using hk
  have hne:v≠vs[k]:=fun e=>h1.1 (e ▸ List.getElem_mem hk')
  simp only [List.zip_cons_cons,Zff,List.getElem_cons_succ,if_neg hne,List.getElem?_cons_succ]
  exact Yhg vs ts h1.2 k hk' (by simpa using h)
theorem Yla:∀ {m:Bd} {v:Nat} {u:Ty},Zff m v=some u→(v,u)∈m
 | [],_,_,h=>by cases h
 | (a,b) :: m,v,u,h=>by
  simp only [Zff] at h
  split at h
  ·rename_i e; cases h; subst e; exact List.mem_cons_self ..
  ·exact List.mem_cons_of_mem _ (Yla h)
theorem Ztw {f:Nat→Option Ty} (hf:∀ c u,f c=some u→u.txt.length≤16):∀ t:Ty,(subst f t).txt.length≤16 * t.txt.length
 | .k c=>by
  simp only [subst]
  cases h:f c with
  | none=>simp [Ty.txt]
  | some u=>have:=hf c u h; simp [Ty.txt]; omega
 | .u c a=>by have:=Ztw hf a; simp [subst,Ty.txt]; omega
 | .w c a b=>by have:=Ztw hf a; have:=Ztw hf b; simp [subst,Ty.txt]; omega
theorem Yek {h:Zaa} {i p:Nat} {s:List Nat} (r:Rdr h i p) (hp:p≤900000000000) (hs:s.length≤1048576):Zah pg Zip [.ptr (some (i,0)),.str s] h (TxQ i p h):=by
 apply Zki.call
 refine (Zof s (by omega) h).mono ?_
 rintro v h1 ⟨s1,vs,rfl,hm⟩
 have hil:=r.lt
 have leaf:∀ h',Zdu i h h'→∀ p',p≤p'→p'≤p + 1000→Rdr h' i p'→TxQ i p h (.str [105]) h':=fun h' K p' h1 h2 R=>⟨[105],rfl,by simp,K,p',h1,h2,R⟩
 have hvs:∃ (d:Nat) (a:Pt) (n c:Nat) (e:Bool),vs=[.int .u8 (d:Int),.slice a n c e]:=by
  split at hm
  ·obtain ⟨a,c,e,rfl⟩:=hm.shape; exact ⟨_,_,_,_,_,rfl⟩
  ·exact ⟨0,_,_,_,_,hm⟩
 obtain ⟨d,a,n,c,e,rfl⟩:=hvs
 simp only [Zct,Zaf,Zdd,Zar,Zae,Zan,Zap,Zaw]
 rw [Zfk]
 simp only [Zas]
 generalize hh2:h1 ++ [Zcd.cells Zai [.int .u8 (d:Int),.slice a n c e] false]=h2
 have s2:Zbc h1.length h1 h2:=by rw [← hh2]; exact Zam
 have l2:h2.length=h1.length + 1:=by rw [← hh2]; simp
 have n2:h2[h1.length]?=some (.cells Zai [.int .u8 (d:Int),.slice a n c e] false):=by rw [← hh2]; simp
 have S2:=s1.cat s2
 refine Zbq (fun hno=>leaf _ (Zdu.of_same S2) p (by omega) (by omega) (r.same S2)) (fun hyes=>?_)
 have hof:∃ t,Zhk s=some t:=by
  unfold Zml at hyes
  cases hx:Zhk s with
  | none=>rw [hx] at hyes; cases hyes
  | some t=>exact ⟨t,rfl⟩
 obtain ⟨t,ht⟩:=hof
 obtain ⟨hok,hst,hsl⟩:=Zdt.1 ht
 rw [ht] at hm
 simp only at hm
 generalize hh3:h2 ++ [Zcd.cells Zdf [.int .u8 0,.slice none 0 0 true,.int .u8 0,.slice none 0 0 true,.int .u8 0,.slice none 0 0 true,.int .u8 0,.slice none 0 0 true,.int .u8 0,.slice none 0 0 true,.int .u8 0,.slice none 0 0 true,.int .u8 0,.slice none 0 0 true,.int .u8 0,.slice none 0 0 true,.int .u8 0,.slice none 0 0 true,.int .u8 0,.slice none 0 0 true,.int .u8 0,.slice none 0 0 true,.int .u8 0,.slice none 0 0 true] false]=h3
 have s3:Zbc h2.length h2 h3:=by rw [← hh3]; exact Zam
 have l3:h3.length=h2.length + 1:=by rw [← hh3]; simp
 have m3:h3[h2.length]?=some (.cells Zdf (Zdn eR (List.replicate 12 (.int .u8 0,.slice none 0 0 true))) false):=by rw [← hh3]; simp; rfl
 have S3:=S2.cat s3
 have n3:=s3.get n2 (Own.lt n2)
 have r3:=r.same S3
 refine Zki.L6ind (J:=fun (g:Nat) x19 h'=>x19=(g:Int)∧g≤12∧Zdu i h h'∧(∃ p',p≤p'∧p'≤p + g * 80∧Rdr h' i p')∧h3.length≤h'.length∧h'[h1.length]?=some (.cells Zai [.int .u8 (d:Int),.slice a n c e] false) ∧
   Zhq (fun j=>j≠h2.length∧j≠i∧j < h'.length) h' t [.int .u8 (d:Int),.slice a n c e] ∧
   ∃ (rows:List (Zau × Zau)) (ts:List Ty),rows.length=12∧ts.length=g∧(∀ u∈ts,u.ok=true∧u.txt.length≤16)∧h'[h2.length]?=some (.cells Zdf (Zdn eR rows) false) ∧
    ∀ (k:Nat) (x:Zau × Zau) (u:Ty),rows[k]?=some x→ts[k]?=some u→Zhq (fun j=>j≠h2.length∧j≠i∧j < h'.length) h' u (eR x))
  (m:=fun g=>12 - g) (hr:=?_) (g:=0) (hj:=⟨rfl,by omega,Zdu.of_same S3,⟨p,by omega,by omega,r3⟩,Nat.le_refl _,n3,?_,_,[],by simp,rfl,by simp,m3,by simp⟩) ..
 ·rintro g x19 h4 ⟨rfl,hg,K4,⟨p4,hp1,hp2,R4⟩,l4,n4,rt,rows,ts,hrl,htl,hts,m4,hrep⟩ R hR
  unfold Zki.L6t
  refine Zat (fun hlt=>?_) (fun hge=>?_)
  ·refine (Zcu R4 (by omega) 2).mono ?_
   rintro v h5 ⟨x,rfl,hx0,hx1,_,K5,R5,_⟩
   have hx1:=hx1 (by omega)
   simp only [Zar]
   refine (Zcu R5 (by omega) 2).mono ?_
   rintro v h6 ⟨y,rfl,hy0,hy1,_,K6,R6,_⟩
   simp only [Zar]
   obtain ⟨q,rfl⟩:∃ q:Nat,x=q:=⟨x.toNat,by omega⟩
   have hB:4 ^ (q + 1)≤16:=by
    have:q=0 ∨ q=1:=by omega
    rcases this with rfl | rfl <;> decide
   refine (Zuz q (by omega) R6 (by omega) _).mono ?_
   rintro v h7 ⟨u,rfl,huok,hulen,K7,p7,hp3,hp4,R7⟩
   have K47:=(K5.trans K6).trans K7
   simp only [Zal]
   refine (Zof u.txt (by omega) h7).mono ?_
   rintro v h8 ⟨s8,vu,rfl,hmu⟩
   rw [Zdt.2 ⟨huok,rfl,by omega⟩] at hmu
   simp only at hmu
   obtain ⟨au,cu,eu,hsh⟩:=hmu.shape
   subst hsh
   have K48:=K47.trans (Zdu.of_same s8)
   simp only [Zct,Zaf,Zdd,Zar,Zae,Zan,Zap]
   have l8:=K48.le
   have hm2i:h2.length≠i:=by have:=S2.le; omega
   have m8:h8[h2.length]?=some (.cells Zdf (Zdn eR rows) false):=by rw [K48.eq _ (Own.lt m4) hm2i]; exact m4
   have hfl:(Zdn eR rows).length=24:=by rw [Zay Zrn,hrl]
   rw [Nat.zero_add,Int.toNat_natCast,Zbd m8 (by rw [hfl]; simp; omega)]
   simp only [Zas]
   rw [show ([Zau.int .u8 (u.hd:Int),Zau.slice au u.ps.length cu eu]:List Zau)=eR (Zau.int .u8 (u.hd:Int),Zau.slice au u.ps.length cu eu) from rfl,Yba Zrn (by omega),Zbl (by omega)]
   have hset:∀ j,j≠h2.length→(h8.set h2.length (Zcd.cells Zdf (Zdn eR (rows.set g (Zau.int .u8 (u.hd:Int),Zau.slice au u.ps.length cu eu))) false))[j]?=h8[j]?:=fun j hj=>Zbs (fun e=>hj e.symm)
   have old:∀ j,(j≠h2.length∧j≠i∧j < h4.length)→(h8.set h2.length (Zcd.cells Zdf (Zdn eR (rows.set g (Zau.int .u8 (u.hd:Int),Zau.slice au u.ps.length cu eu))) false))[j]?=h4[j]?:=fun j hj=>by rw [hset j hj.1,K48.eq j hj.2.2 hj.2.1]
   have hup:∀ j,(j≠h2.length∧j≠i∧j < h4.length)→(j≠h2.length∧j≠i∧j < (h8.set h2.length (Zcd.cells Zdf (Zdn eR (rows.set g (Zau.int .u8 (u.hd:Int),Zau.slice au u.ps.length cu eu))) false)).length):=fun j hj=>⟨hj.1,hj.2.1,by simp; omega⟩
   have i8:Rdr h8 i p7:=R7.same s8
   refine ⟨⟨by omega,by omega⟩,hR (g + 1) _ _ (by omega) ⟨by omega,by omega,(K4.trans K48).trans' (fun j hj=>Zbs (by have:=S2.le; omega)),⟨p7,by omega,by omega,?_⟩,by simp; omega,?_,(rt.agree old).mono hup,_,ts ++ [u],by simp [hrl],by simp [htl],?_,Zbz m8,?_⟩⟩
   ·refine i8.agree (fun j hj=>hset j (by have:=S2.le; omega)) (by simp)
   ·rw [hset _ (by omega),K48.eq _ (Own.lt n4) (by have:=s1.le; omega)]; exact n4
   ·intro w hw
    rcases List.mem_append.1 hw with hw | hw
    ·exact hts w hw
    ·simp at hw; subst hw; exact ⟨huok,by omega⟩
   ·intro k x w hx hw
    by_cases hk:k=g
    ·subst hk
     rw [List.getElem?_set_self (by omega)] at hx
     rw [List.getElem?_append_right (by omega)] at hw
     simp [htl] at hw
     cases hx; subst hw
     refine (hmu.agree (h':=h8.set h2.length (Zcd.cells Zdf (Zdn eR (rows.set k (Zau.int .u8 (u.hd:Int),Zau.slice au u.ps.length cu eu))) false)) fun j hj=>hset j (by have:=hj.1; have:=K47.le; omega)).mono fun j hj=>⟨by have:=hj.1; have:=K47.le; omega,by have:=hj.1; have:=K47.le; have:=S2.le; omega,by simp; exact hj.2⟩
    ·rw [List.getElem?_set_ne (fun e=>hk e.symm)] at hx
     have hkg:k < g:=by
      have:=(List.getElem?_eq_some_iff.1 hw).1
      simp [htl] at this; omega
     rw [List.getElem?_append_left (by omega)] at hw
     exact ((hrep k x w hx hw).agree old).mono hup
  ·have hg12:g=12:=by omega
   subst hg12
   apply Zki.A6x0i
   rw [Zbk n4]
   simp only [Zaq,Zaf,Zan,Zar,Zae]
   have hget:∀ k,k < 6→(Zed[k]?).bind (Zff (Zed.zip ts))=ts[k]?:=fun k hk=>by
    have hk6:k < Zed.length:=hk
    rw [List.getElem?_eq_getElem hk6,Option.bind_some]
    exact Yhg Zed ts Zob k hk6 (by omega)
   have hin:∀ v u,Zff (Zed.zip ts) v=some u→v∈Zed∧u∈ts:=fun v u hu=>by
    have:=Yla hu
    exact ⟨(List.of_mem_zip this).1,(List.of_mem_zip this).2⟩
   have hW:Yoi (fun j=>j≠h2.length∧j≠i∧j < h4.length) h4 h2.length (Zed.zip ts):=by
    refine ⟨rows,hrl,m4,fun k x hk hx=>?_⟩
    rw [hget k hk]
    have hkt:k < ts.length:=by omega
    rw [List.getElem?_eq_getElem hkt]
    exact hrep k x _ hx (List.getElem?_eq_getElem hkt)
   have hnv:∀ v,Zcs v=false→Zff (Zed.zip ts) v=none:=fun v hv=>by
    cases hb:Zff (Zed.zip ts) v with
    | none=>rfl
    | some u=>
     have h1:=(hin v u hb).1
     have:∀ x∈Zed,Zcs x=true:=by decide
     rw [this v h1] at hv; cases hv
   refine (Ybg _ (Nat.le_refl _) hok (fun j hj=>⟨hj.2.2,hj.1⟩) rt hW (fun v u hu=>(hts u (hin v u hu).2).1) hnv).mono ?_
   rintro x h5 ⟨s5,vs5,rfl,rt5⟩
   have hl5:(subst (Zff (Zed.zip ts)) t).txt.length≤1048576:=by
    have:=Ztw (f:=Zff (Zed.zip ts)) (fun c u hu=>(hts u (hin c u hu).2).2) t
    rw [← hst] at this; omega
   have hok5:(subst (Zff (Zed.zip ts)) t).ok=true:=Zuu ⟨hnv,fun v u hu=>(hts u (hin v u hu).2).1⟩ hok
   obtain ⟨a5,c5,e5,hsh5⟩:=rt5.shape
   subst hsh5
   simp only [Zdd,Zaf,Zar,Zae,Zan,Zaw]
   rw [Zfk]
   simp only [Zas]
   generalize hh6:h5 ++ [Zcd.cells Zai [.int .u8 ((subst (Zff (Zed.zip ts)) t).hd:Int),.slice a5 (subst (Zff (Zed.zip ts)) t).ps.length c5 e5] false]=h6
   have s6:Zbc h5.length h5 h6:=by rw [← hh6]; exact Zam
   have n6:h6[h5.length]?=some (.cells Zai [.int .u8 ((subst (Zff (Zed.zip ts)) t).hd:Int),.slice a5 (subst (Zff (Zed.zip ts)) t).ps.length c5 e5] false):=by rw [← hh6]; simp
   rw [Zbk n6]
   simp only [Zaq,Zaf,Zan,Zar,Zae]
   have rt6:=rt5.same s6
   refine (Zqf _ (Nat.le_refl _) hl5 rt6).mono ?_
   rintro v h7 ⟨rfl,s7⟩
   simp only [Zar]
   have K7:=((K4.trans (Zdu.of_same s5)).trans (Zdu.of_same s6)).trans (Zdu.of_same s7)
   have R7:=((R4.same s5).same s6).same s7
   refine Zat (fun _=>leaf _ K7 p4 hp1 (by omega) R7) (fun hsm=>?_)
   rw [Zbk (s7.get n6 (Own.lt n6))]
   simp only [Zaq,Zaf,Zan,Zar,Zae]
   refine (Zpg _ (Nat.le_refl _) hl5 hok5 (rt6.same s7)).mono ?_
   rintro v h8 ⟨rfl,s8⟩
   simp only [Zal]
   exact ⟨_,rfl,by omega,K7.trans (Zdu.of_same s8),p4,hp1,by omega,R7.same s8⟩
 ·exact (hm.agree (h':=h3) fun j hj=>by rw [s3.eq j (by have:=hj.2; omega),s2.eq j hj.2]).mono fun j hj=>⟨by have:=hj.2; omega,by have:=hj.1; omega,by have:=hj.2; omega⟩
end Go.Sim

set_option linter.unusedVariables false
set_option linter.unusedSimpArgs false
set_option maxRecDepth 20000
namespace Go.Sim
open Go Go.RowKit

end Go.Sim

set_option linter.unusedSimpArgs false
set_option linter.unusedVariables false
namespace Go.Sim

def Up (cs:List Nd) (a b:Nat):Prop:=∃ i,∃ h:i < cs.length,cs[i].1=[a]∧b∈cs[i].2
inductive Rch (cs:List Nd) (a:Nat):Nat→Prop
 | one {b:Nat}:Up cs a b→Rch cs a b
 | more {b c:Nat}:Rch cs a b→Up cs b c→Rch cs a c
theorem Ybx {cs:List Nd} (h:Zkg cs=true) {i:Nat} (hi:i < cs.length):Zzt cs i=true:=by
 unfold Zkg at h
 simp only [Bool.and_eq_true,List.all_eq_true] at h
 exact h.1 i (List.mem_range.2 hi)
theorem Yox {cs:List Nd} (h:Zkg cs=true) {i:Nat} (hi:i < cs.length):∃ d,cs[i].1=[d]∧65≤d∧d≤84:=by
 have:=Ybx h hi
 unfold Zzt at this
 rw [Zfd hi] at this
 simp only [Bool.and_eq_true] at this
 have h1:=this.1.1
 unfold Zup at h1
 split at h1
 ·rename_i d hd; exact ⟨d,hd,by simpa using h1⟩
 ·cases h1
theorem Ydy {cs:List Nd} (h:Zkg cs=true) {i:Nat} (hi:i + 1 < cs.length) {a b:Nat} (ha:cs[i].1=[a]) (hb:cs[i + 1].1=[b]):a < b:=by
 have:=Ybx h hi
 unfold Zzt at this
 rw [Zfd hi,Nat.add_sub_cancel,Zfd (by omega),ha,hb] at this
 simp only [Bool.and_eq_true] at this
 have h1:=this.1.2
 simpa [Zeq] using h1
theorem Ybh {cs:List Nd} (h:Zkg cs=true):∀ (k i:Nat) (hi:i + k + 1 < cs.length) {a b:Nat},cs[i].1=[a]→cs[i + k + 1].1=[b]→a < b
 | 0,i,hi,a,b,ha,hb=>Ydy h hi ha hb
 | k + 1,i,hi,a,b,ha,hb=>by
  obtain ⟨d,hd,_⟩:=Yox h (show i + k + 1 < cs.length by omega)
  have h1:=Ybh h k i (by omega) ha hd
  have h2:=Ydy h (i:=i + k + 1) (by omega) hd hb
  omega
theorem Ygg {cs:List Nd} (h:Zkg cs=true) {i j:Nat} (hi:i < cs.length) (hj:j < cs.length) {a:Nat} (ha:cs[i].1=[a]) (hb:cs[j].1=[a]):i=j:=by
 rcases Nat.lt_trichotomy i j with hl | he | hl
 ·obtain ⟨k,rfl⟩:∃ k,j=i + k + 1:=⟨j - i - 1,by omega⟩
  have:=Ybh h k i hj ha hb; omega
 ·exact he
 ·obtain ⟨k,rfl⟩:∃ k,i=j + k + 1:=⟨i - j - 1,by omega⟩
  have:=Ybh h k j hi hb ha; omega
theorem Ztx {cs:List Nd} (h:Zkg cs=true) {i:Nat} (hi:i < cs.length) {b:Nat} (hb:b∈cs[i].2):∃ j,∃ hj:j < i,cs[j].1=[b]:=by
 have:=Ybx h hi
 unfold Zzt at this
 rw [Zfd hi] at this
 simp only [Bool.and_eq_true] at this
 have h1:=this.2
 unfold Yef at h1
 rw [List.all_eq_true] at h1
 obtain ⟨k,hk,rfl⟩:=List.mem_iff_getElem.1 hb
 have h2:=h1 k (List.mem_range.2 hk)
 unfold Zzp at h2
 rw [Zfd hk] at h2
 simp only [Bool.and_eq_true] at h2
 have h3:=h2.1
 unfold Zga at h3
 rw [List.any_eq_true] at h3
 obtain ⟨x,hx,he⟩:=h3
 obtain ⟨j,hj,rfl⟩:=List.mem_iff_getElem.1 hx
 rw [List.length_take] at hj
 exact ⟨j,by omega,by simpa using he⟩
theorem Up.ix {cs:List Nd} (h:Zkg cs=true) {a b i:Nat} (u:Up cs a b) (hi:i < cs.length) (ha:cs[i].1=[a]):b∈cs[i].2:=by
 obtain ⟨j,hj,hja,hb⟩:=u
 have:=Ygg h hi hj ha hja
 subst this; exact hb
theorem Rch.ix {cs:List Nd} (h:Zkg cs=true) {a b i:Nat} (r:Rch cs a b) (hi:i < cs.length) (ha:cs[i].1=[a]):∃ j,∃ hj:j < i,cs[j].1=[b]:=by
 induction r with
 | one u=>exact Ztx h hi (u.ix h hi ha)
 | more _ u ih=>
  obtain ⟨j,hj,hb⟩:=ih
  obtain ⟨k,hk,hc⟩:=Ztx h (show j < cs.length by omega) (u.ix h (by omega) hb)
  exact ⟨k,by omega,hc⟩
structure Ydo (cs:List Nd) (a:Nat) (i:Nat) (ab:List Nat):Prop where
 sound:∀ d∈ab,Rch cs a d
 done:∀ j,i≤j→∀ hj:j < cs.length,(cs[j].1=[a] ∨ ∃ d,cs[j].1=[d]∧d∈ab)→∀ b∈cs[j].2,b∈ab
theorem Ydo.step {cs:List Nd} (h:Zkg cs=true) {a i:Nat} {ab:List Nat} (D:Ydo cs a (i + 1) ab) (hi:i < cs.length) (hc:cs[i].1=[a] ∨ ∃ d,cs[i].1=[d]∧d∈ab):Ydo cs a i (ab ++ cs[i].2):=by
 refine ⟨fun d hd=>?_,fun j hj hjl hcj b hb=>?_⟩
 ·rcases List.mem_append.1 hd with hd | hd
  ·exact D.sound d hd
  ·rcases hc with hc | ⟨e,he,hm⟩
   ·exact .one ⟨i,hi,hc,hd⟩
   ·exact .more (D.sound e hm) ⟨i,hi,he,hd⟩
 ·by_cases hji:j=i
  ·subst hji; exact List.mem_append_right _ hb
  ·refine List.mem_append_left _ (D.done j (by omega) hjl ?_ b hb)
   rcases hcj with hcj | ⟨e,he,hm⟩
   ·exact .inl hcj
   ·rcases List.mem_append.1 hm with hm | hm
    ·exact .inr ⟨e,he,hm⟩
    ·exfalso
     obtain ⟨k,hk,hke⟩:=Ztx h hi hm
     have:=Ygg h hjl (show k < cs.length by omega) he hke
     omega
theorem Ydo.skip {cs:List Nd} {a i:Nat} {ab:List Nat} (D:Ydo cs a (i + 1) ab) (hc:∀ hi:i < cs.length,¬ (cs[i].1=[a] ∨ ∃ d,cs[i].1=[d]∧d∈ab)):Ydo cs a i ab:=
 ⟨D.sound,fun j hj hjl hcj b hb=>by
  by_cases hji:j=i
  ·subst hji; exact absurd hcj (hc hjl)
  ·exact D.done j (by omega) hjl hcj b hb⟩
theorem Ydo.all {cs:List Nd} (h:Zkg cs=true) {a i:Nat} {ab:List Nat} (D:Ydo cs a 0 ab) (hi:i < cs.length) (ha:cs[i].1=[a]) (d:Nat):d∈ab ↔ Rch cs a d:=by
 refine ⟨D.sound d,fun r=>?_⟩
 induction r with
 | one u=>exact D.done i (by omega) hi (.inl ha) _ (u.ix h hi ha)
 | more r u ih=>
  obtain ⟨j,hj,hb⟩:=r.ix h hi ha
  exact D.done j (by omega) (by omega) (.inr ⟨_,hb,ih⟩) _ (u.ix h (by omega) hb)
structure Ytk (cs:List Nd) (a i:Nat) (r:Nat) (ab:List Nat):Prop where
 sound:∀ d∈ab,Rch cs a d
 first:∀ d,Up cs a d→d∈ab
 near:∀ j,j < i→i≤j + 1 + r→∀ hj:j < cs.length,∀ d,cs[j].1=[d]→Rch cs a d→d∈ab
theorem Ytk.next {cs:List Nd} (h:Zkg cs=true) {a i r:Nat} {ab ab':List Nat} (R:Ytk cs a i r ab) (hi:i < cs.length) (ha:cs[i].1=[a])
  (hs:∀ d∈ab',d∈ab ∨ ∃ e∈ab,Up cs e d) (hc:∀ d,(d∈ab ∨ ∃ e∈ab,Up cs e d)→d∈ab'):Ytk cs a i (r + 1) ab':=by
 refine ⟨fun d hd=>?_,fun d u=>hc d (.inl (R.first d u)),fun j hj hn hjl d hd rc=>?_⟩
 ·rcases hs d hd with hd | ⟨e,he,u⟩
  ·exact R.sound d hd
  ·exact .more (R.sound e he) u
 ·cases rc with
  | one u=>exact hc d (.inl (R.first d u))
  | more rc u=>
   rename_i e
   obtain ⟨k,hk,hb⟩:=rc.ix h hi ha
   have hjk:j < k:=by
    obtain ⟨q,hq,hcq⟩:=Ztx h (show k < cs.length by omega) (u.ix h (by omega) hb)
    have:=Ygg h hjl (show q < cs.length by omega) hd hcq
    omega
   exact hc d (.inr ⟨e,R.near k hk (by omega) (by omega) e hb rc,u⟩)
theorem Ytk.all {cs:List Nd} (h:Zkg cs=true) {a i r:Nat} {ab:List Nat} (R:Ytk cs a i r ab) (hi:i < cs.length) (ha:cs[i].1=[a]) (hr:i≤r + 1) (d:Nat):d∈ab ↔ Rch cs a d:=by
 refine ⟨R.sound d,fun rc=>?_⟩
 obtain ⟨j,hj,hd⟩:=rc.ix h hi ha
 exact R.near j hj (by omega) (by omega) d hd rc
end Go.Sim

set_option linter.unusedVariables false
set_option linter.unusedSimpArgs false
set_option maxRecDepth 20000
namespace Go.Sim
open Go Go.RowKit

end Go.Sim

set_option linter.unusedVariables false
set_option linter.unusedSimpArgs false
set_option maxRecDepth 20000
namespace Go.Sim
open Go Go.RowKit

end Go.Sim

set_option linter.unusedVariables false
set_option linter.unusedSimpArgs false
set_option maxRecDepth 20000
namespace Go.Sim
open Go Go.RowKit

structure Ysu (b:Nat) (h:Zaa) (a:Pt) (n c:Nat) (l:List Nd):Prop where
 vec:Vec Zad h a n c (Zdn eP l)
 len:l.length=n
 low:∀ i,a=some (i,0)→b≤i
 cap:n≤c
theorem Ysu.row {b:Nat} {h:Zaa} {a:Pt} {n c:Nat} {l:List Nd} (f:Ysu b h a n c l):Row h.length h a (n * 2) (Zdn eP l):=f.vec.row (by rw [Zay Zeb,f.len])
theorem Ysu.same {b:Nat} {h h':Zaa} {a:Pt} {n c:Nat} {l:List Nd} (f:Ysu b h a n c l) (s:Zbc h.length h h'):Ysu b h' a n c l:=⟨f.vec.same s,f.len,f.low,f.cap⟩
def But (a:Pt) (h h':Zaa):Prop:=h.length≤h'.length∧∀ j,j < h.length→(∀ i,a=some (i,0)→j≠i)→h'[j]?=h[j]?
theorem But.of {a:Pt} {h h':Zaa} (s:Zbc h.length h h'):But a h h':=⟨s.le,fun j hj _=>s.eq j hj⟩
theorem But.below {a:Pt} {b:Nat} {h h':Zaa} (s:But a h h') (hb:b≤h.length) (hl:∀ i,a=some (i,0)→b≤i):Zbc b h h':=⟨s.1,fun j hj=>s.2 j (by omega) fun i hi=>by have:=hl i hi; omega⟩
end Go.Sim

set_option linter.unusedSimpArgs false
set_option linter.unusedVariables false
namespace Go.Sim

structure Wk where
 cand:Nd→List Int
 needs:Int→List Nat→Option (List Nd)
 most:List Int→Int
inductive Fnd where
 | ok (s:List Nat)
 | no (why:List Nat) (n:Nd)
end Go.Sim

set_option linter.unusedVariables false
set_option linter.unusedSimpArgs false
set_option maxRecDepth 20000
namespace Go.Sim
open Go Go.RowKit

structure FrS (i:Nat) (qa:Pt) (h h':Zaa) (qa':Pt):Prop where
 le:h.length≤h'.length
 eq:∀ j,j < h.length→j≠i→(∀ q,qa=some (q,0)→j≠q)→h'[j]?=h[j]?
 pt:qa'=qa ∨ ∀ q,qa'=some (q,0)→h.length≤q
theorem FrS.of_same {i:Nat} {qa:Pt} {h h':Zaa} (s:Zbc h.length h h'):FrS i qa h h' qa:=⟨s.le,fun j hj _ _=>s.eq j hj,.inl rfl⟩
theorem FrS.refl (i:Nat) (qa:Pt) (h:Zaa):FrS i qa h h qa:=.of_same (Zbc.refl _ _)
theorem FrS.ne {i:Nat} {qa qa':Pt} {h h':Zaa} (f:FrS i qa h h' qa') {j:Nat} (hj:j < h.length) (hq:∀ q,qa=some (q,0)→j≠q):∀ q,qa'=some (q,0)→j≠q:=by
 intro q hq'
 rcases f.pt with e | e
 ·exact hq q (e ▸ hq')
 ·have:=e q hq'; omega
theorem FrS.trans {i:Nat} {qa qa1 qa2:Pt} {h h1 h2:Zaa} (f:FrS i qa h h1 qa1) (g:FrS i qa1 h1 h2 qa2):FrS i qa h h2 qa2:=by
 have:=f.le; have:=g.le
 refine ⟨by omega,fun j hj hi hq=>?_,?_⟩
 ·rw [g.eq j (by omega) hi (f.ne hj hq)]; exact f.eq j hj hi hq
 ·rcases g.pt with e | e
  ·rcases f.pt with e' | e'
   ·exact .inl (e.trans e')
   ·exact .inr fun q hq=>e' q (e ▸ hq)
  ·exact .inr fun q hq=>by have:=e q hq; omega
theorem FrS.set {i:Nat} {qa:Pt} {h:Zaa} {x:Zcd}:FrS i qa h (h.set i x) qa:=⟨by simp,fun j _ hi _=>Zbs (fun e=>hi e.symm),.inl rfl⟩
theorem FrS.get {i:Nat} {qa qa':Pt} {h h':Zaa} (f:FrS i qa h h' qa') {j:Nat} {x:Zcd} (hj:h[j]?=some x) (hi:j≠i) (hq:∀ q,qa=some (q,0)→j≠q):h'[j]?=some x:=by rw [f.eq j (Own.lt hj) hi hq]; exact hj
theorem FrS.row {i:Nat} {qa qa':Pt} {h h':Zaa} (f:FrS i qa h h' qa') {a:Pt} {n:Nat} {cs:List Zau} (r:Row h.length h a n cs) (hn:∀ j o,n≠0→a=some (j,o)→j≠i∧∀ q,qa=some (q,0)→j≠q):Row h'.length h' a n cs:=by
 obtain ⟨hl,r⟩:=r
 by_cases h0:n=0
 ·exact ⟨hl,.inl h0⟩
 ·refine ⟨hl,r.imp id ?_⟩
  rintro ⟨j,o',t,all,ro,ha,hi,hg,x⟩
  have:=f.le
  obtain ⟨h1,h2⟩:=hn j o' h0 ha
  exact ⟨j,o',t,all,ro,ha,by omega,by rw [f.eq j hi h1 h2]; exact hg,x⟩
theorem FrS.below {i b:Nat} {qa qa':Pt} {h h':Zaa} (f:FrS i qa h h' qa') (hb:b≤h.length) (hi:b≤i) (hq:∀ q,qa=some (q,0)→b≤q):Zbc b h h':=⟨f.le,fun j hj=>f.eq j (by omega) (by omega) fun q hq'=>by have:=hq q hq'; omega⟩
end Go.Sim

set_option linter.unusedSimpArgs false
set_option linter.unusedVariables false
namespace Go.Sim

section
variable {k:Wk} {sp:Bool} {dec:Int→List Nat}
end
end Go.Sim

set_option linter.unusedVariables false
set_option linter.unusedSimpArgs false
set_option maxRecDepth 20000
namespace Go.Sim
open Go Go.RowKit

theorem Vec.app0 {P:Program} {t ty:TypeId} {h:Zaa} {i n c sz:Nat} {e:Bool} {xa:Pt} {m c':Nat} {e':Bool} {cs new:List Zau} {K:Zau→Zaa→Prop} (hi:h[i]?=some (.cells ty cs false))
  (hu:P.underlying t=some (.slice ty)) (hc:P.cellsOf ty=sz) (hok:P.okElem ty=true) (hby:P.bytesOf ty≤127) (hn:cs.length=n * sz) (hx:rowOf h xa (m * sz)=some new) (hl:new.all Zau.leaf=true)
  (hle:n + m≤1099511627776) (hk:∀ h',h'.length=h.length + 1→h'[h.length]?=some (.cells ty (cs ++ new) false)→(∀ j,j < h.length→j≠i→h'[j]?=h[j]?) →
   K (.slice (some (h.length,0)) (n + m) (n + m) false) h'):Zcz P t h (.slice (some (i,0)) n c e) (.slice xa m c' e') K:=by
 unfold Zcz
 simp only [hu,hc,hx,Zaq]
 refine ⟨⟨hok,?_,hl⟩,.inl ⟨by trivial,?_⟩⟩
 ·have:(n + m) * (P.bytesOf ty + 1)≤(n + m) * 128:=Nat.mul_le_mul_left _ (by omega)
  omega
 ·simp only [Zrz,hi,true_and]
  refine ⟨hn,hk _ (by simp) (by rw [List.getElem?_append_right (by simp)]; simp) fun j hj hne=>?_⟩
  rw [List.getElem?_append_left (by simpa using hj),List.getElem?_set_ne (fun e=>hne e.symm)]
section
variable {hb:Zaa} {i:Nat} {u v:Zau} {sp:Bool} {h:Zaa} {qa:Pt} {asked:List Nd} {fl:Nd}
end
end Go.Sim
