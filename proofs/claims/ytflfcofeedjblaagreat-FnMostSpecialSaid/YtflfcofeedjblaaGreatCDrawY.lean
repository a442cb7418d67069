/- A part of the proof of a statement of this seat: see the text that holds the theorem. No condition. -/
import Derived.Test.YtflfcofeedjblaaGreatPTCDrawB
import Derived.Test.YtflfcofeedjblaaGreatCSrch
import Derived.Test.YtflfcofeedjblaaGreatCIter
import Derived.Test.YtflfcofeedjblaaGreatCVars
import Derived.Test.YtflfcofeedjblaaGreatCTy
import Derived.Test.YtflfcofeedjblaaGreatPTCMatch
import Derived.Test.YtflfcofeedjblaaGreatNm
import Derived.Test.YtflfcofeedjblaaGreatPTCDrawY
set_option linter.unusedVariables false
set_option linter.unusedSimpArgs false
set_option linter.all false
set_option linter.unusedVariables false
set_option linter.unusedSimpArgs false
set_option maxRecDepth 20000
namespace Go.Sim
open Go Go.RowKit

theorem Zqj:pg.underlying Zes=some (.slice Zac):=by kernel_rfl
theorem Zxz:pg.cellsOf Zac=3:=by kernel_rfl
theorem Zyu:pg.okElem Zac=true:=by kernel_rfl
theorem Zzc:pg.bytesOf Zac≤127:=Nat.le_of_ble_eq_true (by kernel_rfl)
theorem Zxh:pg.underlying Zjk=some (.slice Zbf):=by kernel_rfl
theorem Yhj:pg.cellsOf Zbf=2:=by kernel_rfl
theorem Yhl:pg.okElem Zbf=true:=by kernel_rfl
theorem Yhr:pg.bytesOf Zbf≤127:=Nat.le_of_ble_eq_true (by kernel_rfl)
theorem Zfn {h:Zaa} {i j:Nat} {t t':TypeId} {cs cs':List Zau} {ro ro':Bool} (hi:h[i]?=some (.cells t cs ro)) (hj:h[j]?=some (.cells t' cs' ro')) (hne:t≠t'):i≠j:=by
 rintro rfl; rw [hi] at hj; injection hj with hj; injection hj with hj _ _; exact hne hj
theorem Yms {h:Zaa} {a:Pt} {n cp:Nat} {e:Bool} {i:Ins} (r:Row h.length h a (n * 2) (Zdn eP i.2)) (hn:n≤1048576) :
  Zah pg Zhu [.agg [.str i.1.1,.str i.1.2,.slice a n cp e]] h fun v h'=>∃ a' c' e',v=.agg [.str i.1.1,.str i.1.2,.slice a' n c' e']∧Zbc h.length h h'∧Zdh Zad eP h.length h' a' n i.2∧a'≠none∧n≤c':=by
 have hl:i.2.length=n:=by have:=r.1; rw [Zay Zea] at this; omega
 apply Zmh.call
 simp only [Zaw]
 generalize hh0:h ++ [Zcd.cells Zac [.str i.1.1,.str i.1.2,.slice a n cp e] false]=h0
 generalize hh1:h0 ++ [Zcd.cells Zac [.str [],.str [],.slice none 0 0 true] false]=h1
 generalize hh2:h1 ++ [Zcd.cells Zad [] false]=h2
 have s0:Zbc h.length h h0:=by rw [← hh0]; exact Zam
 have s1:Zbc h0.length h0 h1:=by rw [← hh1]; exact Zam
 have s2:Zbc h1.length h1 h2:=by rw [← hh2]; exact Zam
 have l0:h0.length=h.length + 1:=by rw [← hh0]; simp
 have l1:h1.length=h0.length + 1:=by rw [← hh1]; simp
 have l2:h2.length=h1.length + 1:=by rw [← hh2]; simp
 have x0:h0[h.length]?=some (.cells Zac [.str i.1.1,.str i.1.2,.slice a n cp e] false):=by rw [← hh0]; simp
 have y1:h1[h0.length]?=some (.cells Zac [.str [],.str [],.slice none 0 0 true] false):=by rw [← hh1]; simp
 have z2:h2[h1.length]?=some (.cells Zad [] false):=by rw [← hh2]; simp
 have x2:=s2.get (s1.get x0 (by omega)) (by omega)
 have y2:=s2.get y1 (by omega)
 have S2:=(s0.cat s1).cat s2
 simp only [Zao x2,Nat.zero_add,List.getElem?_cons_succ,List.getElem?_cons_zero,Zae]
 refine Vec.app0 (n:=0) z2 Ybu Yng Yod Ymc (by simp) (r.same' S2).rowOf (Zrv (enc:=eP) (fun _=>rfl) i.2) (by omega) (fun h3 hl3 hi3 hk3=>?_)
 have x3:h3[h.length]?=some (.cells Zac [.str i.1.1,.str i.1.2,.slice a n cp e] false):=by rw [hk3 _ (by omega) (by omega)]; exact x2
 have y3:h3[h0.length]?=some (.cells Zac [.str [],.str [],.slice none 0 0 true] false):=by rw [hk3 _ (by omega) (by omega)]; exact y2
 simp only [Zae,Nat.zero_add]
 rw [Zbd x3 (by simp)]
 simp only [Zas,putRow,List.take_succ_cons,List.take_zero,List.length_cons,List.length_nil,List.drop_succ_cons,List.drop_zero,List.drop_nil,List.cons_append,List.nil_append,List.append_nil]
 rw [Zni (Zbz x3)]
 simp only [Zaq,Zaf,Zan,Zal,Zae]
 have y4:(h3.set h.length (Zcd.cells Zac [.str i.1.1,.str i.1.2,.slice (some (h2.length,0)) n n false] false))[h0.length]?=some (.cells Zac [.str [],.str [],.slice none 0 0 true] false):=by rw [Zbs (by omega)]; exact y3
 rw [Zbd y4 (by simp)]
 simp only [Zas,putRow,List.take_zero,List.length_cons,List.length_nil,List.drop_succ_cons,List.drop_zero,List.drop_nil,List.cons_append,List.nil_append,List.append_nil]
 rw [Zni (Zbz y4)]
 simp only [Zaq,Zaf,Zan,Zal,Zae]
 refine ⟨_,_,_,rfl,⟨by simp; omega,fun j hj=>?_⟩,⟨hl,.inr ⟨h2.length,rfl,by omega,?_⟩⟩,by simp,Nat.le_refl _⟩
 ·rw [Zbs (by omega),Zbs (by omega),hk3 j (by omega) (by omega)]; exact S2.eq j hj
 ·rw [Zbs (by omega),Zbs (by omega),hi3]; simp
theorem Yff {h:Zaa} {a0 a:Pt} {n0 c0 n cp:Nat} {e:Bool} {w:Wd} (r:Zmc h a0 n0 c0 a n cp w) (b:WB w) :
  Zah pg Zgg [.slice a n cp e] h fun v h'=>∃ a' c' e' ys,v=.slice a' n c' e'∧n≤c'∧Zbc h.length h h'∧Zdh Zac eN h.length h' a' n ys∧ys.length=w.is.length∧a'≠none ∧
   (∀ (k:Nat) (x:EI) (i:Ins),ys[k]?=some x→w.is[k]?=some i→x.c=i.1.1∧x.t=i.1.2∧Zdh Zad eP h.length h' x.a x.n i.2) ∧
   (∀ (j k:Nat) (x y:EI),j≠k→ys[j]?=some x→ys[k]?=some y→x.n≠0→y.n≠0→x.a≠y.a)∧(∀ x∈ys,x.a≠none)∧∃ q,a'=some (q,0)∧h.length≤q∧h'[q]?=some (.cells Zac (Zdn eN ys) false):=by
 have hl:=r.len1
 have hli:=b.li
 apply Zem.call
 simp only [Zaw]
 refine Zem.L3ind (J:=fun (g:Nat) a3 n3 c3 e3 x9 h'=>x9=(g:Int)∧g≤n∧Zbc h.length h h'∧∃ (q:Nat) (ys:List EI),a3=some (q,0)∧n3=g∧g≤c3∧h.length≤q∧ys.length=g∧h'[q]?=some (.cells Zac (Zdn eN ys) false) ∧
   (∀ (k:Nat) (x:EI) (i:Ins),ys[k]?=some x→w.is[k]?=some i→x.c=i.1.1∧x.t=i.1.2∧Zdh Zad eP h.length h' x.a x.n i.2) ∧
   (∀ (j k:Nat) (x y:EI),j≠k→ys[j]?=some x→ys[k]?=some y→x.n≠0→y.n≠0→x.a≠y.a)∧∀ x∈ys,x.a≠none) (m:=fun g=>n - g) (hr:=?_) (g:=0)
  (hj:=⟨rfl,by omega,Zbc.app (Nat.le_refl _) _,h.length,[],rfl,rfl,by omega,Nat.le_refl _,rfl,by simp,by simp,by simp,by simp⟩) ..
 rintro g a3 n3 c3 e3 x9 h' ⟨rfl,hg,hs,q,ys,rfl,rfl,hgc,hql,hy,ho,hrep,hsep,hnn⟩ R hR
 unfold Zem.L3t
 refine Zat (fun hlt=>?_) (fun hge=>?_)
 ·obtain ⟨i0,o0,hgl,a2,n2,c2,e2,rfl,hb0,hr,_,_,_,hrow,hn2⟩:=(r.same hs).inst (k:=n3) (by omega)
  have hb:=b.is _ (List.getElem_mem hgl)
  simp only [Zav,Int.toNat_natCast,hr,Zaq,Zaf,Zan,Zal,Zae,Zaw]
  refine ⟨by omega,?_⟩
  generalize hh1:h' ++ [Zcd.cells Zac [.str [],.str [],.slice none 0 0 true] false]=h1
  have s1:Zbc h'.length h' h1:=by rw [← hh1]; exact Zam
  have o1:h1[h'.length]?=some (.cells Zac [.str [],.str [],.slice none 0 0 true] false):=by rw [← hh1]; simp
  rw [Zbd o1 (by simp)]
  simp only [Zas,putRow,List.take_zero,List.length_cons,List.length_nil,List.drop_succ_cons,List.drop_zero,List.drop_nil,List.cons_append,List.nil_append,List.append_nil,Nat.zero_add]
  generalize hh2:h1.set h'.length (Zcd.cells Zac [.str w.is[n3].1.1,.str w.is[n3].1.2,.slice a2 n2 c2 e2] false)=h2
  have o2:h2[h'.length]?=some (.cells Zac [.str w.is[n3].1.1,.str w.is[n3].1.2,.slice a2 n2 c2 e2] false):=by rw [← hh2]; exact Zbz o1
  have s2:Zbc h'.length h' h2:=by rw [← hh2]; exact s1.set' (Nat.le_refl _)
  rw [Zni o2]
  simp only [Zaq,Zaf,Zan,Zal,Zae]
  refine (Yms (i:=w.is[n3]) (hrow.same' s2) (by omega)).mono ?_
  rintro v h3 ⟨a',c',e',rfl,s3,f3,hnn3,hc3⟩
  simp only [Zdc,Zaf,Zan,Zal,Zae,Zaw]
  have S3:=s2.cat s3
  have hol:=Own.lt ho
  have ho3:=S3.get ho hol
  have hle2:=s2.le
  have hle3:=s3.le
  have hlh:=hs.le
  refine (Vec.mk1 ho3).pushN Zqj Zxz Zyu Zzc (by rw [Zay Zpk,hy]) rfl (by omega) rfl (by omega) (fun h4 hl4 hi4 hk4=>?_)
  simp only [Zae]
  rw [Zbl (by omega)]
  have keep:∀ {a:Pt} {m:Nat} {l:List Nd} {b:Nat},Zdh Zad eP b h3 a m l→Zdh Zad eP b h4 a m l:=fun f=>⟨f.1,f.2.imp id fun ⟨j,ha,hbj,hc⟩=>⟨j,ha,hbj,by rw [hk4 j (Own.lt hc) (fun j' hj'=>by cases hj'; exact Zfn hc ho3 (by decide))]; exact hc⟩⟩
  refine hR (n3 + 1) _ _ _ _ _ _ (by omega) ⟨rfl,by omega,⟨by omega,fun j hj=>?_⟩,h3.length + 1,ys ++ [⟨w.is[n3].1.1,w.is[n3].1.2,a',n2,c',e'⟩],rfl,rfl,Nat.le_refl _,by omega,by simp [hy],by rw [hi4]; simp [eN],?_,?_,fun x hx=>?_⟩
  ·rw [hk4 j (by omega) (fun j' hj'=>by cases hj'; omega),S3.eq j (by omega)]; exact hs.eq j hj
  ·intro k x j hx hj
   by_cases hk:k < n3
   ·rw [List.getElem?_append_left (by omega)] at hx
    obtain ⟨p1,p2,p3⟩:=hrep k x j hx hj
    exact ⟨p1,p2,keep (p3.same S3)⟩
   ·have hkg:k=n3:=by have:=(List.getElem?_eq_some_iff.1 hx).1; simp at this; omega
    subst hkg
    rw [List.getElem?_append_right (by omega)] at hx
    simp [hy] at hx
    subst hx
    rw [List.getElem?_eq_getElem hgl] at hj
    cases hj
    exact ⟨rfl,rfl,keep ⟨f3.1,f3.2.imp id fun ⟨j,ha,hbj,hc⟩=>⟨j,ha,by omega,hc⟩⟩⟩
  ·have old:∀ (k:Nat) (x:EI),k < n3→ys[k]?=some x→x.n≠0→n2≠0→x.a≠a':=by
    intro k x hk hx h0 h2' he
    obtain ⟨_,_,p3⟩:=hrep k x w.is[k] hx (List.getElem?_eq_getElem (by omega))
    obtain ⟨_,p3⟩:=p3
    obtain ⟨_,f3'⟩:=f3
    rcases p3 with p3 | ⟨j,ha,_,hc⟩
    ·exact h0 p3
    ·rcases f3' with f3' | ⟨j',ha',hb',_⟩
     ·exact h2' f3'
     ·rw [ha,ha'] at he; cases he; have:=Own.lt hc; omega
   intro j k x y hjk hx hy' h0 h0'
   by_cases hj:j < n3 <;> by_cases hk:k < n3
   ·rw [List.getElem?_append_left (by omega)] at hx hy'
    exact hsep j k x y hjk hx hy' h0 h0'
   ·have hkg:k=n3:=by have:=(List.getElem?_eq_some_iff.1 hy').1; simp at this; omega
    subst hkg
    rw [List.getElem?_append_left (by omega)] at hx
    rw [List.getElem?_append_right (by omega)] at hy'
    simp [hy] at hy'
    subst hy'
    exact old j x hj hx h0 h0'
   ·have hjg:j=n3:=by have:=(List.getElem?_eq_some_iff.1 hx).1; simp at this; omega
    subst hjg
    rw [List.getElem?_append_left (by omega)] at hy'
    rw [List.getElem?_append_right (by omega)] at hx
    simp [hy] at hx
    subst hx
    exact fun he=>old k y hk hy' h0' h0 he.symm
   ·have:=(List.getElem?_eq_some_iff.1 hx).1
    have:=(List.getElem?_eq_some_iff.1 hy').1
    simp at *
    omega
  ·rcases List.mem_append.1 hx with hx | hx
   ·exact hnn x hx
   ·rw [List.mem_singleton] at hx; subst hx; exact hnn3
 ·apply Zem.A3x0i
  have:n3=n:=by omega
  subst this
  exact ⟨_,_,_,ys,rfl,hgc,hs,⟨hy,.inr ⟨q,rfl,hql,ho⟩⟩,by omega,by simp,hrep,hsep,hnn,q,rfl,hql,ho⟩
theorem Ydx {h:Zaa} {a0 a1:Pt} {n0 c0 n1 c1:Nat} {e0 e1:Bool} {w:Wd} (r:Zmc h a0 n0 c0 a1 n1 c1 w) (b:WB w) :
  Zah pg Zkm [.agg [.slice a0 n0 c0 e0,.slice a1 n1 c1 e1]] h fun v h'=>∃ b0 d0 f0 b1 d1 f1 ys,v=.agg [.slice b0 n0 d0 f0,.slice b1 n1 d1 f1]∧Zbc h.length h h'∧Ztf h.length h' b0 n0 b1 n1 ys w∧n0≤d0∧n1≤d1∧b0≠none∧b1≠none∧∃ q,b1=some (q,0)∧h.length≤q∧h'[q]?=some (.cells Zac (Zdn eN ys) false):=by
 have hl0:=r.len0
 have hlc:=b.lc
 apply Zol.call
 simp only [Zaw]
 generalize hh0:h ++ [Zcd.cells Zab [.slice a0 n0 c0 e0,.slice a1 n1 c1 e1] false]=h0
 generalize hh1:h0 ++ [Zcd.cells Zab [.slice none 0 0 true,.slice none 0 0 true] false]=h1
 generalize hh2:h1 ++ [Zcd.cells Zbf [] false]=h2
 have s0:Zbc h.length h h0:=by rw [← hh0]; exact Zam
 have s1:Zbc h0.length h0 h1:=by rw [← hh1]; exact Zam
 have s2:Zbc h1.length h1 h2:=by rw [← hh2]; exact Zam
 have l0:h0.length=h.length + 1:=by rw [← hh0]; simp
 have l1:h1.length=h0.length + 1:=by rw [← hh1]; simp
 have l2:h2.length=h1.length + 1:=by rw [← hh2]; simp
 have x0:h0[h.length]?=some (.cells Zab [.slice a0 n0 c0 e0,.slice a1 n1 c1 e1] false):=by rw [← hh0]; simp
 have y1:h1[h0.length]?=some (.cells Zab [.slice none 0 0 true,.slice none 0 0 true] false):=by rw [← hh1]; simp
 have z2:h2[h1.length]?=some (.cells Zbf [] false):=by rw [← hh2]; simp
 have x2:=s2.get (s1.get x0 (by omega)) (by omega)
 have y2:=s2.get y1 (by omega)
 have S2:=(s0.cat s1).cat s2
 simp only [Zao x2,Nat.zero_add,List.getElem?_cons_succ,List.getElem?_cons_zero,Zae]
 refine Vec.app0 (n:=0) z2 Zxh Yhj Yhl Yhr (by simp) ((r.same S2).cls.rowOf) (Zrv (enc:=eP) (fun _=>rfl) w.cs) (by omega) (fun h3 hl3 hi3 hk3=>?_)
 have x3:h3[h.length]?=some (.cells Zab [.slice a0 n0 c0 e0,.slice a1 n1 c1 e1] false):=by rw [hk3 _ (by omega) (by omega)]; exact x2
 have y3:h3[h0.length]?=some (.cells Zab [.slice none 0 0 true,.slice none 0 0 true] false):=by rw [hk3 _ (by omega) (by omega)]; exact y2
 have S3:Zbc h.length h h3:=⟨by omega,fun j hj=>by rw [hk3 j (by omega) (by omega)]; exact S2.eq j hj⟩
 simp only [Zae,Nat.zero_add]
 rw [Zbd x3 (by simp)]
 simp only [Zas,putRow,List.take_zero,List.length_cons,List.length_nil,List.drop_succ_cons,List.drop_zero,List.drop_nil,List.cons_append,List.nil_append,List.append_nil]
 generalize hh4:h3.set h.length (Zcd.cells Zab [.slice (some (h2.length,0)) n0 n0 false,.slice a1 n1 c1 e1] false)=h4
 have x4:h4[h.length]?=some (.cells Zab [.slice (some (h2.length,0)) n0 n0 false,.slice a1 n1 c1 e1] false):=by rw [← hh4]; exact Zbz x3
 have y4:h4[h0.length]?=some (.cells Zab [.slice none 0 0 true,.slice none 0 0 true] false):=by rw [← hh4,Zbs (by omega)]; exact y3
 have z4:h4[h2.length]?=some (.cells Zbf (Zdn eP w.cs) false):=by rw [← hh4,Zbs (by omega),hi3]; simp
 have S4:Zbc h.length h h4:=by rw [← hh4]; exact S3.set' (Nat.le_refl _)
 have l4:h4.length=h3.length:=by rw [← hh4]; simp
 simp only [Zao x4,List.getElem?_cons_succ,List.getElem?_cons_zero,Zae]
 refine (Yff (r.same S4) b).mono ?_
 rintro v h5 ⟨b1,d1,f1,ys,rfl,hd1,s5,g5,hyl,hbn,hrep,hsep,hnn,qq,hqq1,hqq2,hqq3⟩
 simp only [Zae]
 have l5:=s5.le
 have x5:=s5.get x4 (by omega)
 have y5:=s5.get y4 (by omega)
 have z5:=s5.get z4 (by omega)
 rw [Zbd x5 (by simp)]
 simp only [Zas,putRow,List.take_succ_cons,List.take_zero,List.length_cons,List.length_nil,List.drop_succ_cons,List.drop_zero,List.drop_nil,List.cons_append,List.nil_append,List.append_nil]
 rw [Zbk (Zbz x5)]
 simp only [Zaq,Zaf,Zan,Zae]
 have y6:(h5.set h.length (Zcd.cells Zab [.slice (some (h2.length,0)) n0 n0 false,.slice b1 n1 d1 f1] false))[h0.length]?=some (.cells Zab [.slice none 0 0 true,.slice none 0 0 true] false):=by rw [Zbs (by omega)]; exact y5
 rw [Zbd y6 (by simp)]
 simp only [Zas,putRow,List.take_zero,List.length_cons,List.length_nil,List.drop_succ_cons,List.drop_zero,List.drop_nil,List.cons_append,List.nil_append,List.append_nil]
 rw [Zbk (Zbz y6)]
 simp only [Zaq,Zaf,Zan,Zae]
 have kp:∀ j,h2.length≤j→((h5.set h.length (Zcd.cells Zab [.slice (some (h2.length,0)) n0 n0 false,.slice b1 n1 d1 f1] false)).set h0.length (Zcd.cells Zab [.slice (some (h2.length,0)) n0 n0 false,.slice b1 n1 d1 f1] false))[j]?=h5[j]?:=fun j hj=>by rw [Zbs (by omega),Zbs (by omega)]
 refine ⟨_,_,_,_,_,_,ys,rfl,⟨by simp; omega,fun j hj=>?_⟩,⟨⟨hl0,.inr ⟨h2.length,rfl,by omega,by rw [kp _ (Nat.le_refl _)]; exact z5⟩⟩,g5.keep (by omega) fun j hj _=>kp j (by omega),hyl,fun k x i hx hi=>?_,hsep,hnn,by simp⟩,Nat.le_refl _,hd1,by simp,hbn,qq,hqq1,by omega,by rw [kp qq (by omega)]; exact hqq3⟩
 ·rw [Zbs (by omega),Zbs (by omega),s5.eq j (by omega)]; exact S4.eq j hj
 ·obtain ⟨p1,p2,p3⟩:=hrep k x i hx hi
  exact ⟨p1,p2,p3.keep (by omega) fun j hj _=>kp j (by omega)⟩
end Go.Sim

set_option linter.unusedSimpArgs false
set_option linter.unusedVariables false
namespace Go.Sim
def Yui:Nat→List Nat→Option (Ty × List Nat)
 | 0,_=>none
 | f + 1,c :: 40 :: r=>(match Yui f r with
  | some (a,41 :: r')=>some (.u c a,r')
  | some (a,44 :: r')=>(match Yui f r' with | some (b,41 :: r'')=>some (.w c a b,r'') | _=>none)
  | _=>none)
 | f + 1,c :: r=>some (.k c,r)
 | _,[]=>none
def Yok (s:List Nat):Bool:=match Yui 30 s with | some (t,[])=>t.ok && decide (t.txt=s) && decide (s.length≤60) | _=>false
theorem Yhk {s:List Nat} (h:Yok s=true):Zml s=true:=by
 unfold Yok at h
 split at h
 ·rename_i t _
  simp only [Bool.and_eq_true,decide_eq_true_eq] at h
  exact Zsv.2 ⟨t,h.1.1,h.1.2.symm,h.2⟩
 ·cases h
def Yfp (cs:List Nd) (t:List Nat) (n:Nd):Bool:=Zfz cs n.1 && Yok n.2 && decide (n.2.length≤20) && (Zlc n.2).all fun v=>decide (v∈t)
def Yob (cs:List Nd) (i:Ins):Bool:=Zkg cs && Zfz cs i.1.1 && Yok i.1.2 && decide (i.1.2.length≤20) && !Zkr i.1.2 && decide (i.2.length≤3) && i.2.all (Yfp cs i.1.2)
def Ybg (w:Wd):Bool:=Zkg w.cs && decide (w.is.length≤10) && w.is.all (Yob w.cs)
theorem Yjr {cs:List Nd} {t:List Nat} {n:Nd} (h:Yfp cs t n=true):Zjl cs t n=true:=by
 unfold Yfp at h
 unfold Zjl
 simp only [Bool.and_eq_true] at h ⊢
 exact ⟨⟨⟨h.1.1.1,Yhk h.1.1.2⟩,h.1.2⟩,h.2⟩
theorem Ymf {cs:List Nd} {i:Ins} (h:Yob cs i=true):Zmv cs i=true:=by
 unfold Yob at h
 unfold Zmv
 simp only [Bool.and_eq_true,List.all_eq_true] at h ⊢
 exact ⟨⟨⟨⟨⟨⟨h.1.1.1.1.1.1,h.1.1.1.1.1.2⟩,Yhk h.1.1.1.1.2⟩,h.1.1.1.2⟩,h.1.1.2⟩,h.1.2⟩,fun n hn=>Yjr (h.2 n hn)⟩
theorem Yfb {w:Wd} (h:Ybg w=true):Zeg w=true:=by
 unfold Ybg at h
 unfold Zeg
 simp only [Bool.and_eq_true,List.all_eq_true] at h ⊢
 exact ⟨h.1,fun i hi=>Ymf (h.2 i hi)⟩
end Go.Sim

set_option linter.unusedSimpArgs false
set_option linter.unusedVariables false
namespace Go.Sim
def Ycd (s:List Nat):Nd:=match s with | c :: d :: e :: r=>if d=60 then ([c],e :: r) else (s,[]) | _=>(s,[])
noncomputable def Yak (s:List Nat):Option Ins:=
 match Zcp 58 s with
 | [a]=>(Zmd a).map fun n=>(n,[])
 | [a,b]=>(Zmd a).bind fun n=>((Zcp 38 b).mapM Zmd).map fun l=>(n,l)
 | _=>none
def Yoi:Wd:=⟨[],[]⟩
noncomputable def wdQ (w:Wd):Wd:=if Zeg w then w else Yoi
noncomputable def wdP (s:List Nat):Wd:=
 match ((Zcp 59 s).drop 1).mapM Yak with
 | some l=>wdQ ⟨(Zcp 32 ((Zcp 59 s).headD [])).map Ycd,l⟩
 | none=>Yoi
structure WS (m:Nat) (w:Wd):Prop where
 lc:w.cs.length≤m
 li:w.is.length≤m
 cs:∀ p∈w.cs,p.1.length≤1000∧p.2.length≤1000∧∀ b∈p.1,b < 256
 is:∀ i∈w.is,i.1.1.length≤1000∧i.1.2.length≤1000∧i.2.length≤1000∧∀ p∈i.2,p.1.length≤1000∧p.2.length≤1000
theorem WS.mono {m n:Nat} {w:Wd} (s:WS m w) (h:m≤n):WS n w:=⟨by have:=s.lc; omega,by have:=s.li; omega,s.cs,s.is⟩
theorem Yst {m:Nat}:WS m Yoi:=⟨by simp [Yoi],by simp [Yoi],by simp [Yoi],by simp [Yoi]⟩
theorem WS.addI {m:Nat} {w:Wd} (s:WS m w) {i:Ins} (h:i.1.1.length≤1000∧i.1.2.length≤1000∧i.2.length≤1000∧∀ p∈i.2,p.1.length≤1000∧p.2.length≤1000):WS (m + 1) ⟨w.cs,w.is ++ [i]⟩:=
 ⟨by have:=s.lc; simp; omega,by have:=s.li; simp; omega,s.cs,fun j hj=>by
  rcases List.mem_append.1 hj with hj | hj
  ·exact s.is j hj
  ·rw [List.mem_singleton] at hj; subst hj; exact h⟩
theorem WS.addC {m:Nat} {w:Wd} (s:WS m w) {p:Nd} (h:p.1.length≤1000∧p.2.length≤1000∧∀ b∈p.1,b < 256):WS (m + 1) ⟨w.cs ++ [p],w.is⟩:=
 ⟨by have:=s.lc; simp; omega,by have:=s.li; simp; omega,fun q hq=>by
  rcases List.mem_append.1 hq with hq | hq
  ·exact s.cs q hq
  ·rw [List.mem_singleton] at hq; subst hq; exact h,s.is⟩
theorem Ygw {s:List Nat}:(Ycd s).1.length≤s.length∧(Ycd s).2.length≤s.length:=by
 unfold Ycd
 split
 ·split <;> simp <;> omega
 ·simp
theorem Yem {s:List Nat} (h:∀ b∈s,b < 256):∀ b∈(Ycd s).1,b < 256:=by
 unfold Ycd
 split
 ·split
  ·intro b hb; rw [List.mem_singleton] at hb; subst hb; exact h _ (by simp)
  ·exact h
 ·exact h
theorem Zhs {c:Nat}:∀ {s:List Nat},(∀ b∈s,b < 256)→∀ p∈Zcp c s,∀ b∈p,b < 256
 | [],_=>by intro p hp; simp [Zcp] at hp; simp [hp]
 | x :: s,hb=>by
  have ih:=Zhs (c:=c) (s:=s) fun b h=>hb b (by simp [h])
  intro p hp
  simp only [Zcp] at hp
  by_cases hx:x=c
  ·simp only [hx,if_true] at hp
   rcases List.mem_cons.1 hp with rfl | hp
   ·simp
   ·exact ih p hp
  ·simp only [if_neg hx] at hp
   cases hs:Zcp c s with
   | nil=>exact absurd hs (Zpw c s)
   | cons q r=>
    rw [hs] at hp ih
    rcases List.mem_cons.1 hp with rfl | hp
    ·intro b hbm
     rcases List.mem_cons.1 hbm with rfl | hbm
     ·exact hb _ (by simp)
     ·exact ih q (by simp) b hbm
    ·exact ih p (by simp [hp])
theorem Zxe {α β:Type} {f:α→Option β}:∀ {l:List α} {r:List β},l.mapM f=some r→r.length=l.length∧∀ y∈r,∃ x∈l,f x=some y
 | [],r,h=>by simp at h; subst h; exact ⟨rfl,by simp⟩
 | a :: l,r,h=>by
  simp only [List.mapM_cons] at h
  cases hf:f a with
  | none=>rw [hf] at h; cases h
  | some y=>
   rw [hf] at h
   cases hl:l.mapM f with
   | none=>rw [hl] at h; cases h
   | some ys=>
    rw [hl] at h; simp at h; subst h
    obtain ⟨h1,h2⟩:=Zxe hl
    refine ⟨by simp [h1],fun z hz=>?_⟩
    rcases List.mem_cons.1 hz with rfl | hz
    ·exact ⟨a,by simp,hf⟩
    ·obtain ⟨x,hx,hy⟩:=h2 z hz; exact ⟨x,by simp [hx],hy⟩
theorem Zhw {c:Nat} (s:List Nat):(Zcp c s).length≤s.length + 1:=by rw [Zkp]; have:=List.count_le_length (a:=c) (l:=s); omega
theorem Yao {s:List Nat} {i:Ins} (hs:s.length≤900) (h:Yak s=some i):i.1.1.length≤1000∧i.1.2.length≤1000∧i.2.length≤1000∧∀ p∈i.2,p.1.length≤1000∧p.2.length≤1000:=by
 unfold Yak at h
 split at h
 ·rename_i a ha
  cases hn:Zmd a with
  | none=>rw [hn] at h; cases h
  | some n=>
   rw [hn] at h; cases h
   have:=Zya hn
   simp only
   exact ⟨by omega,by omega,by simp,by simp⟩
 ·rename_i a b ha
  cases hn:Zmd a with
  | none=>rw [hn] at h; cases h
  | some n=>
   rw [hn] at h
   simp only [Option.bind_some] at h
   cases hl:(Zcp 38 b).mapM Zmd with
   | none=>rw [hl] at h; cases h
   | some l=>
    rw [hl] at h; cases h
    have:=Zya hn
    obtain ⟨h1,h2⟩:=Zxe hl
    have hb:b.length≤s.length:=Zgm (c:=58) (by rw [ha]; simp)
    have h3:=Zhw (c:=38) b
    simp only
    refine ⟨by omega,by omega,by omega,fun p hp=>?_⟩
    obtain ⟨x,_,hx⟩:=h2 p hp
    have:=Zya hx
    omega
 ·cases h
theorem Zyd {s:List Nat} (hs:s.length≤900) (hb:∀ b∈s,b < 256):WS 1000 (wdP s):=by
 unfold wdP
 split
 ·rename_i l hl
  obtain ⟨h1,h2⟩:=Zxe hl
  unfold wdQ
  split
  ·have hhd:(Zcp 59 s).headD []∈Zcp 59 s:=by
    cases hx:Zcp 59 s with
    | nil=>exact absurd hx (Zpw 59 s)
    | cons a r=>simp
   have hh:=Zgm hhd
   have hhb:=Zhs hb _ hhd
   refine ⟨?_,?_,fun p hp=>?_,fun i hi=>?_⟩
   ·have:=Zhw (c:=32) ((Zcp 59 s).headD []); simp only [List.length_map]; omega
   ·have:=Zhw (c:=59) s; simp only [h1,List.length_drop]; omega
   ·simp only [List.mem_map] at hp
    obtain ⟨q,hq,rfl⟩:=hp
    have:=Zgm hq
    have h3:=Ygw (s:=q)
    exact ⟨by omega,by omega,Yem (Zhs hhb q hq)⟩
   ·obtain ⟨x,hx,he⟩:=h2 i hi
    have:=Zgm (List.mem_of_mem_drop hx)
    exact Yao (by omega) he
  ·exact Yst
 ·exact Yst
def Zur:List (List Nat):=[[69],[69,32,79,60,69],[65,32,66],[65,32,66,60,65,32,67,60,65,66],[69,32,79,60,69,32,83]]
theorem Yrh:∀ s∈Zur,(wdP s).cs≠[]∧(wdP s).is=[]:=by
 have key:∀ s,(Zcp 59 s)=[s]→Ybg ⟨(Zcp 32 s).map Ycd,[]⟩=true→(wdP s).cs≠[]∧(wdP s).is=[]:=by
  intro s h1 h2
  unfold wdP
  rw [h1]
  simp only [List.drop_succ_cons,List.drop_zero,List.mapM_nil,List.headD_cons]
  rw [show (pure []:Option (List Ins))=some [] from rfl]
  simp only
  unfold wdQ
  rw [if_pos (Yfb h2)]
  refine ⟨?_,rfl⟩
  intro h
  have:=congrArg List.length h
  simp only [List.length_map,Zkp,List.length_nil] at this
  omega
 intro s hs
 simp only [Zur,List.mem_cons,List.not_mem_nil,or_false] at hs
 rcases hs with rfl | rfl | rfl | rfl | rfl <;> exact key _ (by decide) (by decide)
end Go.Sim

set_option linter.unusedVariables false
set_option linter.unusedSimpArgs false
set_option maxRecDepth 20000
namespace Go.Sim
open Go Go.RowKit

structure WDr (b:Nat) (h:Zaa) (a0:Pt) (n0 c0:Nat) (q n1 c1:Nat) (ys:List EI) (w:Wd):Prop where
 cls:Zdh Zbf eP b h a0 n0 w.cs
 le0:n0≤c0
 bq:b≤q
 ob:h[q]?=some (.cells Zac (Zdn eN ys) false)
 len:ys.length=n1
 wl:w.is.length=n1
 le1:n1≤c1
 need:∀ (k:Nat) (x:EI) (i:Ins),ys[k]?=some x→w.is[k]?=some i→x.c=i.1.1∧x.t=i.1.2∧Zdh Zad eP b h x.a x.n i.2
theorem Zdh.at {α:Type} {ty:TypeId} {enc:α→List Zau} {b:Nat} {h h':Zaa} {a:Pt} {n:Nat} {l:List α} (f:Zdh ty enc b h a n l) (hh:∀ j,b≤j→j < h.length→h'[j]?=h[j]?):Zdh ty enc b h' a n l:=
 ⟨f.1,f.2.imp id fun ⟨i,ha,hb,hi⟩=>⟨i,ha,hb,by rw [hh i hb (Own.lt hi)]; exact hi⟩⟩
section
variable {b:Nat} {h h':Zaa} {a0:Pt} {n0 c0 q n1 c1:Nat} {ys:List EI} {w:Wd}
theorem WDr.keep (d:WDr b h a0 n0 c0 q n1 c1 ys w) (hh:∀ j,b≤j→j < h.length→h'[j]?=h[j]?):WDr b h' a0 n0 c0 q n1 c1 ys w:=
 ⟨d.cls.at hh,d.le0,d.bq,by rw [hh q d.bq (Own.lt d.ob)]; exact d.ob,d.len,d.wl,d.le1,fun k x i hx hi=>⟨(d.need k x i hx hi).1,(d.need k x i hx hi).2.1,(d.need k x i hx hi).2.2.at hh⟩⟩
theorem WDr.same (d:WDr b h a0 n0 c0 q n1 c1 ys w) (s:Zbc h.length h h'):WDr b h' a0 n0 c0 q n1 c1 ys w:=d.keep fun j _ hj=>s.eq j hj
theorem WDr.kp {i:Nat} (d:WDr b h a0 n0 c0 q n1 c1 ys w) (s:Zdu i h h') (hi:i < b):WDr b h' a0 n0 c0 q n1 c1 ys w:=d.keep fun j hj hl=>s.eq j hl (by omega)
theorem WDr.low {b':Nat} (d:WDr b h a0 n0 c0 q n1 c1 ys w) (hb:b'≤b):WDr b' h a0 n0 c0 q n1 c1 ys w:=
 ⟨d.cls.low hb,d.le0,by have:=d.bq; omega,d.ob,d.len,d.wl,d.le1,fun k x i hx hi=>⟨(d.need k x i hx hi).1,(d.need k x i hx hi).2.1,(d.need k x i hx hi).2.2.low hb⟩⟩
theorem WDr.rep (d:WDr b h a0 n0 c0 q n1 c1 ys w):Zmc h a0 n0 c0 (some (q,0)) n1 c1 w:=by
 refine ⟨d.cls.row Zea,⟨ys,?_,d.len.trans d.wl.symm,fun k x i hx hi=>⟨(d.need k x i hx hi).1,(d.need k x i hx hi).2.1,(d.need k x i hx hi).2.2.row Zea⟩⟩,d.le0,d.le1⟩
 have:=(Vec.mk1 (n:=0) (c:=0) d.ob).row (m:=n1 * 3) (by rw [Zay Zpk,d.len])
 exact this
theorem WDr.of {a1:Pt} (f:Ztf b h a0 n0 a1 n1 ys w) (h0:n0≤c0) (h1:n1≤c1) (hb:b≤q) (hq:h[q]?=some (.cells Zac (Zdn eN ys) false)):WDr b h a0 n0 c0 q n1 c1 ys w:=
 ⟨f.cls,h0,hb,hq,by have:=f.ins.1; exact this,by have:=f.ins.1; rw [← f.len]; exact this,h1,f.need⟩
theorem WDr.push (d:WDr b h a0 n0 c0 q n1 c1 ys w) {x:EI} {i:Ins} {q':Nat} (hx:x.c=i.1.1∧x.t=i.1.2∧Zdh Zad eP b h x.a x.n i.2) (hq':b≤q') (ho:h'[q']?=some (.cells Zac (Zdn eN (ys ++ [x])) false)) {z:Nat} (hz:∀ o,h[z]?=some o→∃ cs,o=.cells Zac cs false)
  (hh:∀ j,j < h.length→j≠z→h'[j]?=h[j]?) {c1':Nat} (hc:n1 + 1≤c1'):WDr b h' a0 n0 c0 q' (n1 + 1) c1' (ys ++ [x]) ⟨w.cs,w.is ++ [i]⟩:=by
 have off:∀ {j:Nat} {ty:TypeId} {cs:List Zau},ty≠Zac→h[j]?=some (.cells ty cs false)→h'[j]?=some (.cells ty cs false):=fun {j ty cs} hne hj=>by
  rw [hh j (Own.lt hj) (fun e=>by
   subst e
   obtain ⟨cs',hcs⟩:=hz _ hj
   injection hcs with h1 h2 h3
   exact hne h1)]
  exact hj
 have fr:∀ {a:Pt} {n:Nat} {l:List Nd},Zdh Zad eP b h a n l→Zdh Zad eP b h' a n l:=fun f=>⟨f.1,f.2.imp id fun ⟨j,ha,hb,hj⟩=>⟨j,ha,hb,off (by decide) hj⟩⟩
 refine ⟨⟨d.cls.1,d.cls.2.imp id fun ⟨j,ha,hb,hj⟩=>⟨j,ha,hb,off (by decide) hj⟩⟩,d.le0,hq',ho,by simp [d.len],by simp [d.wl],hc,fun k y j hy hj=>?_⟩
 by_cases hk:k < n1
 ·rw [List.getElem?_append_left (by rw [d.len]; exact hk)] at hy
  rw [List.getElem?_append_left (by rw [d.wl]; exact hk)] at hj
  obtain ⟨p1,p2,p3⟩:=d.need k y j hy hj
  exact ⟨p1,p2,fr p3⟩
 ·have hkn:k=n1:=by have:=(List.getElem?_eq_some_iff.1 hy).1; simp [d.len] at this; omega
  subst hkn
  rw [List.getElem?_append_right (by rw [d.len]; exact Nat.le_refl _)] at hy
  rw [List.getElem?_append_right (by rw [d.wl]; exact Nat.le_refl _)] at hj
  simp [d.len] at hy
  simp [d.wl] at hj
  subst hy; subst hj
  exact ⟨hx.1,hx.2.1,fr hx.2.2⟩
end
theorem WS.wb {m:Nat} {w:Wd} (s:WS m w) (h:m≤1048576):WB w:=
 ⟨Nat.le_trans s.lc h,Nat.le_trans s.li h,fun p hp=>⟨by have:=(s.cs p hp).1; omega,by have:=(s.cs p hp).2.1; omega,(s.cs p hp).2.2⟩,fun i hi=>by
  obtain ⟨h1,h2,h3,h4⟩:=s.is i hi
  exact ⟨by omega,by omega,by omega,fun p hp=>by have:=h4 p hp; omega⟩⟩

theorem Ylr {s a:List Nat} {r:List (List Nat)} (h:Zcp 58 s=a :: r) (hn:Zmd a=none):Yak s=none:=by
 unfold Yak
 rw [h]
 match r with
 | []=>simp only [hn]; rfl
 | [b]=>simp only [hn]; rfl
 | _ :: _ :: _=>rfl
theorem Ymj {s a b c:List Nat} {r:List (List Nat)} (h:Zcp 58 s=a :: b :: c :: r):Yak s=none:=by
 unfold Yak; rw [h]
theorem Ypa {s a:List Nat} {p:Nd} (h:Zcp 58 s=[a]) (hn:Zmd a=some p):Yak s=some (p,[]):=by
 unfold Yak; rw [h]; simp only [hn]; rfl
theorem Ypf {s a b:List Nat} {p:Nd} (h:Zcp 58 s=[a,b]) (hn:Zmd a=some p):Yak s=((Zcp 38 b).mapM Zmd).map fun l=>(p,l):=by
 unfold Yak; rw [h]; simp only [hn]; rfl
def Ysf (s:List Nat) (h:Zaa) (v:Zau) (h':Zaa):Prop:=Zbc h.length h h'∧((∃ i a c e,Yak s=some i∧v=.tup [.agg [.str i.1.1,.str i.1.2,.slice a i.2.length c e],.bool true]∧i.2.length≤c∧Zdh Zad eP h.length h' a i.2.length i.2) ∨ (Yak s=none∧v=.tup [.agg [.str [],.str [],.slice none 0 0 true],.bool false]))
theorem Ycc {s:List Nat} {h h':Zaa} {z:Nat} {cs:List Zau} (S:Zbc h.length h h') (hz:h.length≤z) (hi:h'[z]?=some (.cells Zac cs false)) (hl:cs.length=3) (hn:Yak s=none) :
  Zbu (Zbb h' (.ptr (some (z,0))) [.str [],.str [],.slice none 0 0 true]) fun h_30=>Zco (Zbj h_30 (.ptr (some (z,0))) 3) fun cs_31=>Zaj cs_31 fun c_32 r_33=>Zbg (some c_32) fun s_34=>Zaj r_33 fun c_35 r_36=>Zbg (some c_35) fun s_37=>Zaj r_36 fun c_38 r_39=>xSl (some c_38) fun a_40 n_41 c_42 e_43=>Zbv r_39 (Ysf s h (.tup [.agg [.str s_34,.str s_37,.slice a_40 n_41 c_42 e_43],.bool false]) h_30):=by
 match cs,hl with
 | [x,y,w],_=>
  rw [Zbd hi (by simp)]
  simp only [Zas,putRow,List.take_zero,List.length_cons,List.length_nil,List.drop_succ_cons,List.drop_zero,List.drop_nil,List.cons_append,List.nil_append,List.append_nil,Nat.zero_add]
  rw [Zni (Zbz hi)]
  simp only [Zaq,Zaf,Zan,Zal,Zae]
  exact ⟨S.set' hz,.inr ⟨hn,rfl⟩⟩
theorem Yef {s:List Nat} {h h':Zaa} {z y:Nat} {cs:List Zau} {i:Ins} {a:Pt} {n c:Nat} {e:Bool} (S:Zbc h.length h h') (hz:h.length≤z) (hi:h'[z]?=some (.cells Zac cs false)) (hl:cs.length=3)
  (hy:h'[y]?=some (.cells Zac [.str i.1.1,.str i.1.2,.slice a n c e] false)) (hzy:z≠y) (hc:n≤c) (fr:Zdh Zad eP h.length h' a n i.2) (hn:Yak s=some i) :
  Zdx.J16 (Ysf s h) y 0 z 0 h':=by
 have hil:=fr.1
 subst hil
 match cs,hl with
 | [x,w,u],_=>
  apply Zdx.J16i
  rw [Zni hy]
  simp only [Zaq,Zaf,Zan,Zal,Zae]
  rw [Zbd hi (by simp)]
  simp only [Zas,putRow,List.take_zero,List.length_cons,List.length_nil,List.drop_succ_cons,List.drop_zero,List.drop_nil,List.cons_append,List.nil_append,List.append_nil,Nat.zero_add]
  rw [Zni (Zbz hi)]
  simp only [Zaq,Zaf,Zan,Zal,Zae]
  refine ⟨S.set' hz,.inl ⟨i,a,c,e,hn,rfl,hc,fr.1,fr.2.imp id ?_⟩⟩
  rintro ⟨j,ha,hb,hj⟩
  exact ⟨j,ha,hb,by rw [Zbs (Zfn hi hj (by decide))]; exact hj⟩
theorem Zvo {h:Zaa} (s:List Nat) (hs:s.length≤1048576) (hb:∀ b∈s,b < 256):Zah pg Ziv [.str s] h (Ysf s h):=by
 apply Zdx.call
 simp only [Zaw]
 generalize hh0:h ++ [Zcd.cells Zac [.str [],.str [],.slice none 0 0 true] false]=h0
 have s0:Zbc h.length h h0:=by rw [← hh0]; exact Zam
 have z0:h0[h.length]?=some (.cells Zac [.str [],.str [],.slice none 0 0 true] false):=by rw [← hh0]; simp
 have l0:h0.length=h.length + 1:=by rw [← hh0]; simp
 refine (Ydn hs).mono ?_
 rintro v h2 ⟨s2,j,cpj,e,rfl,hj,hrow⟩
 have hLl:(Zcp 58 s).length≤1048577:=by have:=Zhw (c:=58) s; omega
 have hmem:∀ p∈Zcp 58 s,p.length≤1048576:=fun p hp=>by have:=Zgm hp; omega
 have hby:=Zhs (c:=58) hb
 generalize hL:Zcp 58 s=L at hrow hLl hmem hby
 have S2:=s0.cat s2
 have z2:=s2.get z0 (Own.lt z0)
 have l2:=s2.le
 simp only [Zae]
 generalize hh7:h2 ++ [Zcd.cells Zad [] false]=h7
 have s7:Zbc h2.length h2 h7:=by rw [← hh7]; exact Zam
 have e7:h7[h2.length]?=some (.cells Zad [] false):=by rw [← hh7]; simp
 have l7:h7.length=h2.length + 1:=by rw [← hh7]; simp
 generalize hh8:h7 ++ [Zcd.cells Zac [.str [],.str [],.slice none 0 0 true] false]=h8
 have s8:Zbc h7.length h7 h8:=by rw [← hh8]; exact Zam
 have o8:h8[h7.length]?=some (.cells Zac [.str [],.str [],.slice none 0 0 true] false):=by rw [← hh8]; simp
 have l8:h8.length=h7.length + 1:=by rw [← hh8]; simp
 rw [Zbd o8 (by simp)]
 simp only [Zas,putRow,List.take_zero,List.length_cons,List.length_nil,List.drop_succ_cons,List.drop_zero,List.drop_nil,List.cons_append,List.nil_append,List.append_nil,Nat.zero_add]
 have o9:=Zbz o8 (x:=.cells Zac [.str [],.str [],.slice (some (h2.length,0)) 0 0 true] false)
 have s9:Zbc h7.length h7 (h8.set h7.length (.cells Zac [.str [],.str [],.slice (some (h2.length,0)) 0 0 true] false)):=s8.set' (Nat.le_refl _)
 have l9:(h8.set h7.length (.cells Zac [.str [],.str [],.slice (some (h2.length,0)) 0 0 true] false)).length=h8.length:=by simp
 generalize h8.set h7.length (.cells Zac [.str [],.str [],.slice (some (h2.length,0)) 0 0 true] false)=h9 at o9 s9 l9 ⊢
 have S29:=s7.cat s9
 have S9:=S2.cat S29
 have z9:=S29.get z2 (Own.lt z2)
 have e9:=s9.get e7 (Own.lt e7)
 have r9:=S29.get hrow (Own.lt hrow)
 have piece:∀ (G:Zaa),G[j]?=some (.cells Zbe (Zdn eS L) false)→∀ k (hk:k < L.length),Zag G (.ptr (some (j,k * 1)))=some (.str L[k]):=by
  intro G hG k hk
  obtain ⟨ii,o,hgl,hai,hii,hc⟩:=Row.el1 Zmf ((Vec.mk1 (n:=0) (c:=0) hG).row (m:=L.length) (by rw [Zay Zmf]; omega)) hk
  cases hai
  simpa [eS] using hc
 have hL0:0 < L.length:=by rw [← hL,Zkp]; omega
 refine ⟨⟨by omega,by omega⟩,?_⟩
 simp only [Zav,Nat.zero_add,show Int.toNat 0=0 from rfl,piece h9 r9 0 hL0,Zal]
 refine (Zug L[0] (hmem _ (List.getElem_mem hL0)) (hby _ (List.getElem_mem hL0))).mono ?_
 rintro v h14 ⟨s14,hres⟩
 have S14:=S9.cat s14
 have z14:=s14.get z9 (Own.lt z9)
 have o14:=s14.get o9 (Own.lt o9)
 have r14:=s14.get r9 (Own.lt r9)
 have e14:=s14.get e9 (Own.lt e9)
 have l14:=s14.le
 obtain ⟨a0,rest,hLe⟩:∃ a r,L=a :: r:=by
  cases L with
  | nil=>simp at hL0
  | cons a r=>exact ⟨a,r,rfl⟩
 have h0e:L[0]=a0:=by simp [hLe]
 rcases hres with ⟨p,hp,rfl⟩ | ⟨hp,rfl⟩
 ·simp only [Zct,Zaf,Zdc,Zal,Zan,Zap]
  generalize hh28:h14 ++ [Zcd.cells Zad [.str [],.str []] false]=h28
  have s28:Zbc h14.length h14 h28:=by rw [← hh28]; exact Zam
  have n28:h28[h14.length]?=some (.cells Zad [.str [],.str []] false):=by rw [← hh28]; simp
  have l28:h28.length=h14.length + 1:=by rw [← hh28]; simp
  rw [Zbd n28 (by simp)]
  simp only [Zas,putRow,List.take_zero,List.length_cons,List.length_nil,List.drop_succ_cons,List.drop_zero,List.drop_nil,List.cons_append,List.nil_append,List.append_nil,Nat.zero_add,Bool.not_true,Zca]
  have n29:=Zbz n28 (x:=.cells Zad [.str p.1,.str p.2] false)
  have s29:Zbc h14.length h14 (h28.set h14.length (.cells Zad [.str p.1,.str p.2] false)):=s28.set' (Nat.le_refl _)
  have l29:(h28.set h14.length (.cells Zad [.str p.1,.str p.2] false)).length=h28.length:=by simp
  generalize h28.set h14.length (.cells Zad [.str p.1,.str p.2] false)=h29 at n29 s29 l29 ⊢
  have S29':=S14.cat s29
  have z29:=s29.get z14 (Own.lt z14)
  have o29:=s29.get o14 (Own.lt o14)
  have r29:=s29.get r14 (Own.lt r14)
  have e29:=s29.get e14 (Own.lt e14)
  refine Zat (fun hgt=>?_) (fun hle=>?_)
  ·refine Ycc S29' (Nat.le_refl _) z29 rfl ?_
   match rest,hLe with
   | [],hLe=>rw [hLe] at hgt; simp at hgt
   | [_],hLe=>rw [hLe] at hgt; simp at hgt
   | b :: c :: r,hLe=>exact Ymj (hL.trans hLe)
  apply Zdx.J6i
  rw [Zbk n29]
  simp only [Zaq,Zaf,Zan,Zal]
  rw [Zbd o29 (by simp)]
  simp only [Zas,putRow,List.take_zero,List.length_cons,List.length_nil,List.drop_succ_cons,List.drop_zero,List.drop_nil,List.cons_append,List.nil_append,List.append_nil,Nat.zero_add,Nat.add_zero]
  have hz7:h.length≠h7.length:=by omega
  have o30:=Zbz o29 (x:=.cells Zac [.str p.1,.str p.2,.slice (some (h2.length,0)) 0 0 true] false)
  have k30:∀ j,j≠h7.length→(h29.set h7.length (.cells Zac [.str p.1,.str p.2,.slice (some (h2.length,0)) 0 0 true] false))[j]?=h29[j]?:=fun j hj=>Zbs (fun e=>hj e.symm)
  have l30:(h29.set h7.length (.cells Zac [.str p.1,.str p.2,.slice (some (h2.length,0)) 0 0 true] false)).length=h29.length:=by simp
  have S30:Zbc h.length h (h29.set h7.length (.cells Zac [.str p.1,.str p.2,.slice (some (h2.length,0)) 0 0 true] false)):=S29'.set' (by omega)
  generalize h29.set h7.length (.cells Zac [.str p.1,.str p.2,.slice (some (h2.length,0)) 0 0 true] false)=h30 at o30 k30 l30 S30 ⊢
  have hjl:=Own.lt hrow
  have z30:h30[h.length]?=some (.cells Zac [.str [],.str [],.slice none 0 0 true] false):=by rw [k30 _ hz7]; exact z29
  have r30:h30[j]?=some (.cells Zbe (Zdn eS L) false):=by rw [k30 _ (by omega)]; exact r29
  have e30:h30[h2.length]?=some (.cells Zad [] false):=by rw [k30 _ (by omega)]; exact e29
  refine Zcx (fun h2e=>?_) (fun hne=>?_)
  ·obtain ⟨b,rfl⟩:∃ b,rest=[b]:=by
    have:L.length=2:=by omega
    rw [hLe] at this
    match rest,this with
    | [b],_=>exact ⟨b,rfl⟩
   have hL1:1 < L.length:=by omega
   have h1e:L[1]=b:=by simp [hLe]
   have hbm:b∈L:=by rw [← h1e]; exact List.getElem_mem hL1
   refine ⟨⟨by omega,by omega⟩,?_⟩
   simp only [Zav,Nat.zero_add,show Int.toNat 1=1 from rfl,piece h30 r30 1 hL1,Zal,h1e]
   refine (Ydn (hmem b hbm)).mono ?_
   rintro v h31 ⟨s31,j2,cpj2,e2,rfl,hj2,hrow2⟩
   have hPl:(Zcp 38 b).length≤1048577:=by have:=Zhw (c:=38) b; have:=hmem b hbm; omega
   have hmem2:∀ p∈Zcp 38 b,p.length≤1048576:=fun p hp=>by have:=Zgm hp; have:=hmem b hbm; omega
   have hby2:=Zhs (c:=38) (hby b hbm)
   have hins:=Ypf (hL.trans hLe) (by rw [← h0e]; exact hp)
   generalize hP:Zcp 38 b=P at hrow2 hPl hmem2 hby2 hins
   simp only [Zae]
   have S31:=S30.cat s31
   have z31:=s31.get z30 (Own.lt z30)
   have o31:=s31.get o30 (Own.lt o30)
   have e31:=s31.get e30 (Own.lt e30)
   have hj2l:=Own.lt hrow2
   refine Zdx.L9ind (J:=fun (g:Nat) x41 h'=>x41=(g:Int)∧g≤P.length∧Zbc h.length h h'∧h'[h.length]?=some (.cells Zac [.str [],.str [],.slice none 0 0 true] false)∧h'[j2]?=some (.cells Zbe (Zdn eS P) false) ∧
     ∃ (l:List Nd) (q c:Nat) (e:Bool),(P.take g).mapM Zmd=some l∧l.length=g∧h'[h7.length]?=some (.cells Zac [.str p.1,.str p.2,.slice (some (q,0)) g c e] false)∧h'[q]?=some (.cells Zad (Zdn eP l) false)∧h.length≤q∧g≤c) (m:=fun g=>P.length - g) (hr:=?_) (g:=0)
    (hj:=⟨rfl,by omega,S31,z31,hrow2,[],h2.length,0,true,by simp,rfl,o31,e31,by omega,Nat.le_refl _⟩) ..
   rintro g x41 h' ⟨rfl,hg,hS,hz,hr,l,q,c,e,hl,hll,ho,hq,hqb,hgc⟩ R hR
   unfold Zdx.L9t
   refine Zat (fun hlt=>?_) (fun hge=>?_)
   ·have hlt':g < P.length:=by omega
    obtain ⟨ii,oo,hgl,hai,hii,hc⟩:=Row.el1 Zmf ((Vec.mk1 (n:=0) (c:=0) hr).row (m:=P.length) (by rw [Zay Zmf]; omega)) hlt'
    cases hai
    simp only [Zav,Int.toNat_natCast,hc,eS,List.getElem?_cons_zero,Zal]
    refine ⟨by omega,(Zug P[g] (hmem2 _ (List.getElem_mem hgl)) (hby2 _ (List.getElem_mem hgl))).mono ?_⟩
    rintro v k2 ⟨t2,hres⟩
    have hstep:(P.take (g + 1)).mapM Zmd=(Zmd P[g]).map fun y=>l ++ [y]:=by rw [List.take_succ_eq_append_getElem hgl,Ydt,hl]; rfl
    have T2:=hS.cat t2
    have zk:=t2.get hz (Own.lt hz)
    have ok:=t2.get ho (Own.lt ho)
    have qk:=t2.get hq (Own.lt hq)
    have rk:=t2.get hr (Own.lt hr)
    have tl:=t2.le
    have tl0:=hS.le
    have hol:=Own.lt ho
    have hzl:=Own.lt hz
    have hrl:=Own.lt hr
    have hql:=Own.lt hq
    rcases hres with ⟨p',hp',rfl⟩ | ⟨hp',rfl⟩
    ·simp only [Zct,Zaf,Zdc,Zal,Zan,Zap,Zaw]
     generalize hk3:k2 ++ [Zcd.cells Zad [.str [],.str []] false]=k3
     have t3:Zbc k2.length k2 k3:=by rw [← hk3]; exact Zam
     have n3:k3[k2.length]?=some (.cells Zad [.str [],.str []] false):=by rw [← hk3]; simp
     have tl3:k3.length=k2.length + 1:=by rw [← hk3]; simp
     rw [Zbd n3 (by simp)]
     simp only [Zas,putRow,List.take_zero,List.length_cons,List.length_nil,List.drop_succ_cons,List.drop_zero,List.drop_nil,List.cons_append,List.nil_append,List.append_nil,Nat.zero_add,Bool.not_true,Zca]
     have n4:=Zbz n3 (x:=.cells Zad [.str p'.1,.str p'.2] false)
     have t4:Zbc k2.length k2 (k3.set k2.length (.cells Zad [.str p'.1,.str p'.2] false)):=t3.set' (Nat.le_refl _)
     have tl4:(k3.set k2.length (.cells Zad [.str p'.1,.str p'.2] false)).length=k3.length:=by simp
     generalize k3.set k2.length (.cells Zad [.str p'.1,.str p'.2] false)=k4 at n4 t4 tl4 ⊢
     have T4:=T2.cat t4
     have z4:=t4.get zk (Own.lt zk)
     have o4:=t4.get ok (Own.lt ok)
     have q4:=t4.get qk (Own.lt qk)
     have r4:=t4.get rk (Own.lt rk)
     simp only [Zao o4,List.getElem?_cons_succ,List.getElem?_cons_zero,Zae]
     rw [Zbk n4]
     simp only [Zaq,Zaf,Zan,Zal]
     refine (Vec.mk1 (n:=g) (c:=c) q4).pushN (sz:=2) Ybu Yng Yod Ymc (by rw [Zay Zea,hll]) rfl (by omega) rfl (by omega) (fun k5 hl5 hi5 hk5=>?_)
     have keep:∀ {x:Nat} {y:Zcd},k4[x]?=some y→x≠q→k5[x]?=some y:=fun {x y} hx hne=>by rw [hk5 x (Own.lt hx) (fun i hi=>by cases hi; exact hne)]; exact hx
     have hqo:h7.length≠q:=Zfn o4 q4 (by decide)
     have hqz:h.length≠q:=Zfn z4 q4 (by decide)
     have hqr:j2≠q:=Zfn r4 q4 (by decide)
     have o5:=keep o4 hqo
     simp only [Zae]
     rw [Zbd o5 (by simp)]
     simp only [Zas,putRow,List.take_succ_cons,List.take_zero,List.length_cons,List.length_nil,List.drop_succ_cons,List.drop_zero,List.drop_nil,List.cons_append,List.nil_append,List.append_nil]
     rw [Zbl (by omega)]
     have z5:=keep z4 hqz
     have r5:=keep r4 hqr
     refine hR (g + 1) _ _ (by omega) ⟨rfl,by omega,?_,by rw [Zbs (Ne.symm hz7)]; exact z5,by rw [Zbs (Zfn o5 r5 (by decide))]; exact r5,l ++ [p'],k4.length + 1,g + 1,false,by rw [hstep,hp']; rfl,by simp [hll],Zbz o5,?_,by omega,Nat.le_refl _⟩
     ·exact Zbc.set' ⟨by omega,fun x hx=>by rw [hk5 x (by omega) (fun i hi=>by cases hi; omega)]; exact T4.eq x hx⟩ (by omega)
     ·rw [Zbs (by omega)]; simpa [eP] using hi5
    ·simp only [Zct,Zaf,Zdc,Zal,Zan,Zap,Zaw]
     generalize hk3:k2 ++ [Zcd.cells Zad [.str [],.str []] false]=k3
     have t3:Zbc k2.length k2 k3:=by rw [← hk3]; exact Zam
     have n3:k3[k2.length]?=some (.cells Zad [.str [],.str []] false):=by rw [← hk3]; simp
     rw [Zbd n3 (by simp)]
     simp only [Zas,Bool.not_false,Zcn]
     have t4:Zbc k2.length k2 (k3.set k2.length (.cells Zad (putRow [.str [],.str []] 0 [.str [],.str []]) false)):=t3.set' (Nat.le_refl _)
     refine Ycc (T2.cat t4) (Nat.le_refl _) (t4.get zk (Own.lt zk)) rfl ?_
     rw [hins,Zwm (k:=g + 1) Zmd (by rw [hstep,hp']; rfl)]; rfl
   ·apply Zdx.A9x0i
    have:g=P.length:=by omega
    subst this
    rw [List.take_length] at hl
    exact Yef (i:=(p,l)) hS (Nat.le_refl _) hz rfl ho hz7 hgc ⟨hll,.inr ⟨q,rfl,hqb,hq⟩⟩ (by rw [hins,hl]; rfl)
  ·obtain rfl:rest=[]:=by
    match rest,hLe with
    | [],_=>rfl
    | [_],hLe=>exact absurd (by rw [hLe]; rfl) hne
    | _ :: _ :: _,hLe=>rw [hLe] at hle; simp at hle; omega
   exact Yef (i:=(p,[])) S30 (Nat.le_refl _) z30 rfl o30 hz7 (Nat.le_refl _) ⟨rfl,.inl rfl⟩ (Ypa (hL.trans hLe) (by rw [← h0e]; exact hp))
 ·simp only [Zct,Zaf,Zdc,Zal,Zan,Zap]
  generalize hh28:h14 ++ [Zcd.cells Zad [.str [],.str []] false]=h28
  have s28:Zbc h14.length h14 h28:=by rw [← hh28]; exact Zam
  have n28:h28[h14.length]?=some (.cells Zad [.str [],.str []] false):=by rw [← hh28]; simp
  rw [Zbd n28 (by simp)]
  simp only [Zas,Bool.not_false,Zcn]
  have s29:Zbc h14.length h14 (h28.set h14.length (.cells Zad (putRow [.str [],.str []] 0 [.str [],.str []]) false)):=s28.set' (Nat.le_refl _)
  exact Ycc (S14.cat s29) (Nat.le_refl _) (s29.get z14 (Own.lt z14)) rfl (Ylr (hL.trans hLe) (by rw [← h0e]; exact hp))
end Go.Sim

set_option linter.unusedVariables false
set_option linter.unusedSimpArgs false
set_option maxRecDepth 20000
namespace Go.Sim
open Go Go.RowKit

theorem Yau {h:Zaa} {s:List Nat} {c:Nat} (hs:s.length≤1048576):Zah pg Zgx [.str s,.int .u8 (c:Int)] h fun v h'=>Zbc h.length h h' ∧
  ∃ j cp e,v=.slice (some (j,0)) (Zcp c s).length cp e∧h.length≤j∧(h'[j]?=some (.cells Zbe (Zdn eS (Zcp c s)) false)∧(Zcp c s).length≤cp):=by
 apply Zda.call
 simp only [Zaw]
 refine Zda.L4ind _ _ _ (J:=fun (g:Nat) a5 n5 c5 e5 x6 x7 h'=>x7=(g:Int)∧g≤s.length + 1∧Zbc h.length h h'∧∃ (done:List (List Nat)) (from_:Nat),n5=done.length∧x6=(from_:Int)∧done.length≤g∧Vec Zbe h' a5 n5 c5 (strs done)∧(∀ i,a5=some (i,0)→h.length≤i) ∧
   (g≤s.length→from_≤g∧c ∉ (s.take g).drop from_∧Zcp c s=done ++ Zcp c (s.drop from_))∧(g=s.length + 1→Zcp c s=done)∧n5≤c5) (fun g=>s.length + 1 - g) ?_ 0 _ _ _ _ _ _ _
  ⟨rfl,by omega,Zbc.app (Nat.le_refl _) _,[],0,rfl,rfl,by simp,Vec.mk1 (by simp),by simp,fun _=>⟨by omega,by simp,by simp⟩,by omega,Nat.le_refl _⟩
 rintro g a5 n5 c5 e5 x6 x7 h' ⟨rfl,hg,hS,done,from_,rfl,rfl,hdl,hv,ha,hin,hout,hc5⟩ R hR
 unfold Zda.L4t
 refine Zat (fun hle=>?_) (fun hgt=>?_)
 ·obtain ⟨hf,hnc,hsp⟩:=hin (by omega)
  have push:∀ p,(∀ a n e h4,Zbc h.length h h4→n=done.length + 1→Vec Zbe h4 a n n (strs (done ++ [p]))→(∀ i,a=some (i,0)→h.length≤i)→Zda.J5 (fun v h'=>Zbc h.length h h'∧∃ j cp e,v=.slice (some (j,0)) (Zcp c s).length cp e∧h.length≤j∧(h'[j]?=some (.cells Zbe (Zdn eS (Zcp c s)) false)∧(Zcp c s).length≤cp)) R (g:Int) s (c:Int) a n n e (IntKind.wrap .i64 ((g:Int) + 1)) h4) →
    Zcz pg Zkd (h' ++ [.cells Zbe [.str p] false]) (.slice a5 done.length c5 e5) (.slice (some (List.length h',0)) 1 1 true) fun v_2 h_3=>xSl (some v_2) fun a_4 n_5 c_6 e_7=>Zda.J5 (fun v h'=>Zbc h.length h h'∧∃ j cp e,v=.slice (some (j,0)) (Zcp c s).length cp e∧h.length≤j∧(h'[j]?=some (.cells Zbe (Zdn eS (Zcp c s)) false)∧(Zcp c s).length≤cp)) R (g:Int) s (c:Int) a_4 n_5 c_6 e_7 (IntKind.wrap .i64 ((g:Int) + 1)) h_3:=by
   intro p K
   refine hv.push Yab Yid Yig Yhx (by simp) rfl (by omega) (fun h4 hl4 hi4 hk4=>?_)
   simp only [Zae]
   have hle:=hS.le
   refine K _ _ _ _ ⟨by omega,fun j hj=>?_⟩ rfl (Vec.mk1 (by simpa [strs] using hi4)) (fun i hi=>by cases hi; omega)
   rw [hk4 j (by omega) fun i hi=>by have:=ha i hi; omega]; exact hS.eq j hj
  refine Zcx (fun he=>?_) (fun hne=>?_)
  ·have hgs:g=s.length:=by omega
   subst hgs
   rw [Ybn (j:=from_) (k:=s.length) rfl rfl,List.take_length]
   rw [List.take_length] at hnc
   refine ⟨⟨by omega,by omega,by omega⟩,push _ fun a n e h4 hS4 hn4 hv4 ha4=>Zda.J5i _ _ _ _ _ _ _ _ _ _ _ ?_⟩
   rw [Zbl (by omega)]
   subst hn4
   exact hR (s.length + 1) _ _ _ _ _ _ _ (by omega) ⟨rfl,by omega,hS4,done ++ [s.drop from_],s.length + 1,by simp,rfl,by simp; omega,by simpa using hv4,ha4,by omega,fun _=>by rw [hsp,Ztp hnc],Nat.le_refl _⟩
  ·have hlt:g < s.length:=by omega
   refine ⟨⟨by omega,by omega⟩,?_⟩
   rw [Int.toNat_natCast,Zwx hlt]
   have htk:(s.take (g + 1)).drop from_=(s.take g).drop from_ ++ [s[g]]:=by
    rw [List.take_succ_eq_append_getElem hlt,List.drop_append_of_le_length (by simp; omega)]
   have hdr:s.drop from_=(s.take g).drop from_ ++ s[g] :: s.drop (g + 1):=by
    conv=>lhs; rw [← List.take_append_drop g s]
    rw [List.drop_append_of_le_length (by simp; omega),List.drop_eq_getElem_cons hlt]
   refine Zcx (fun he=>?_) (fun hne2=>?_)
   ·have hec:s[g]=c:=by omega
    rw [Ybn (j:=from_) (k:=g) rfl rfl]
    refine ⟨⟨by omega,by omega,by omega⟩,push _ fun a n e h4 hS4 hn4 hv4 ha4=>Zda.J5i _ _ _ _ _ _ _ _ _ _ _ ?_⟩
    rw [Zbl (by omega)]
    subst hn4
    refine hR (g + 1) _ _ _ _ _ _ _ (by omega) ⟨rfl,by omega,hS4,done ++ [(s.take g).drop from_],g + 1,by simp,rfl,by simp; omega,by simpa using hv4,ha4,fun _=>⟨by omega,by simp,?_⟩,by omega,Nat.le_refl _⟩
    rw [hsp,hdr,hec,Zvp hnc]; simp
   ·apply Zda.J5i
    rw [Zbl (by omega)]
    refine hR (g + 1) _ _ _ _ _ _ _ (by omega) ⟨rfl,by omega,hS,done,from_,rfl,rfl,by omega,hv,ha,fun _=>⟨by omega,?_,hsp⟩,by omega,hc5⟩
    rw [htk]
    simp only [List.mem_append,List.mem_singleton,not_or]
    exact ⟨hnc,fun e=>hne2 (by rw [e])⟩
 ·have:g=s.length + 1:=by omega
  have hd:=hout this
  apply Zda.A4x0i
  rw [hd]
  rcases hv with ⟨_,_,_,h0⟩ | ⟨i,rfl,hi⟩
  ·exact absurd (by rw [hd]; exact List.map_eq_nil_iff.1 h0) (Zpw c s)
  ·exact ⟨hS,_,_,_,rfl,ha i rfl,by rw [Ykn]; exact hi,hc5⟩
end Go.Sim

set_option linter.unusedVariables false
set_option linter.unusedSimpArgs false
set_option maxRecDepth 20000
namespace Go.Sim
open Go Go.RowKit

def Yua (s:List Nat) (h:Zaa) (v:Zau) (h':Zaa):Prop:=Zbc h.length h h'∧∃ a0 n0 c0 e0 a1 n1 c1 e1 b,v=.tup [.agg [.slice a0 n0 c0 e0,.slice a1 n1 c1 e1],.bool b]∧Zmc h' a0 n0 c0 a1 n1 c1 (wdP s)
theorem Ypt {h:Zaa}:Zmc h none 0 0 none 0 0 Yoi:=⟨Row.nil,⟨[],Row.nil,rfl,by simp⟩,Nat.le_refl _,Nat.le_refl _⟩
theorem Ylj {s:List Nat} {h h':Zaa} {z:Nat} {x y:Zau} {b:Bool} (S:Zbc h.length h h') (hz:h.length≤z) (hi:h'[z]?=some (.cells Zab [x,y] false)) (hn:wdP s=Yoi) :
  Zbu (Zbb h' (.ptr (some (z,0))) [.slice none 0 0 true,.slice none 0 0 true]) fun h_77=>Zco (Zbj h_77 (.ptr (some (z,0))) 2) fun cs_78=>Zaj cs_78 fun c_79 r_80=>xSl (some c_79) fun a_81 n_82 c_83 e_84=>Zaj r_80 fun c_85 r_86=>xSl (some c_85) fun a_87 n_88 c_89 e_90=>Zbv r_86 (Yua s h (.tup [.agg [.slice a_81 n_82 c_83 e_84,.slice a_87 n_88 c_89 e_90],.bool b]) h_77):=by
 rw [Zbd hi (by simp)]
 simp only [Zas,putRow,List.take_zero,List.length_cons,List.length_nil,List.drop_succ_cons,List.drop_zero,List.drop_nil,List.cons_append,List.nil_append,List.append_nil,Nat.zero_add]
 rw [Zbk (Zbz hi)]
 simp only [Zaq,Zaf,Zan,Zae]
 exact ⟨S.set' hz,none,0,0,true,none,0,0,true,b,rfl,by rw [hn]; exact Ypt⟩
theorem Yov {h:Zaa} (s:List Nat) (hs:s.length≤900) (hb:∀ b∈s,b < 256):Zah pg Zhl [.str s] h (Yua s h):=by
 apply Zcm.call
 simp only [Zaw]
 generalize hh0:h ++ [Zcd.cells Zab [.slice none 0 0 true,.slice none 0 0 true] false]=h0
 have s0:Zbc h.length h h0:=by rw [← hh0]; exact Zam
 have z0:h0[h.length]?=some (.cells Zab [.slice none 0 0 true,.slice none 0 0 true] false):=by rw [← hh0]; simp
 have l0:h0.length=h.length + 1:=by rw [← hh0]; simp
 refine (Yau (by omega)).mono ?_
 rintro v h2 ⟨s2,j,cpj,eL,rfl,hj,hrow,hcap⟩
 have hLl:=Zhw (c:=59) s
 have hmem:∀ p∈Zcp 59 s,p.length≤900:=fun p hp=>by have:=Zgm hp; omega
 have hby:=Zhs (c:=59) hb
 have hW:wdP s=match ((Zcp 59 s).drop 1).mapM Yak with | some l=>wdQ ⟨(Zcp 32 ((Zcp 59 s).headD [])).map Ycd,l⟩ | none=>Yoi:=rfl
 have hL0:0 < (Zcp 59 s).length:=by rw [Zkp]; omega
 generalize hL:Zcp 59 s=L at hrow hLl hmem hby hW hL0 hcap
 have S2:=s0.cat s2
 have z2:=s2.get z0 (Own.lt z0)
 have l2:=s2.le
 simp only [Zae]
 generalize hh7:h2 ++ [Zcd.cells Zbf [] false]=h7
 have s7:Zbc h2.length h2 h7:=by rw [← hh7]; exact Zam
 have e7:h7[h2.length]?=some (.cells Zbf [] false):=by rw [← hh7]; simp
 have l7:h7.length=h2.length + 1:=by rw [← hh7]; simp
 generalize hh8:h7 ++ [Zcd.cells Zac [] false]=h8
 have s8:Zbc h7.length h7 h8:=by rw [← hh8]; exact Zam
 have i8:h8[h7.length]?=some (.cells Zac [] false):=by rw [← hh8]; simp
 have l8:h8.length=h7.length + 1:=by rw [← hh8]; simp
 generalize hh9:h8 ++ [Zcd.cells Zab [.slice none 0 0 true,.slice none 0 0 true] false]=h9
 have s9:Zbc h8.length h8 h9:=by rw [← hh9]; exact Zam
 have o9:h9[h8.length]?=some (.cells Zab [.slice none 0 0 true,.slice none 0 0 true] false):=by rw [← hh9]; simp
 have l9:h9.length=h8.length + 1:=by rw [← hh9]; simp
 rw [Zbd o9 (by simp)]
 simp only [Zas,putRow,List.take_zero,List.length_cons,List.length_nil,List.drop_succ_cons,List.drop_zero,List.drop_nil,List.cons_append,List.nil_append,List.append_nil,Nat.zero_add]
 have o10:=Zbz o9 (x:=.cells Zab [.slice (some (h2.length,0)) 0 0 true,.slice (some (h7.length,0)) 0 0 true] false)
 have s10:Zbc h8.length h8 (h9.set h8.length (.cells Zab [.slice (some (h2.length,0)) 0 0 true,.slice (some (h7.length,0)) 0 0 true] false)):=s9.set' (Nat.le_refl _)
 generalize h9.set h8.length (.cells Zab [.slice (some (h2.length,0)) 0 0 true,.slice (some (h7.length,0)) 0 0 true] false)=h10 at o10 s10 ⊢
 have S210:=(s7.cat s8).cat s10
 have S10:=S2.cat S210
 have z10:=S210.get z2 (Own.lt z2)
 have e10:=(s8.cat s10).get e7 (Own.lt e7)
 have i10:=s10.get i8 (Own.lt i8)
 have r10:=S210.get hrow (Own.lt hrow)
 have hjl:=Own.lt hrow
 obtain ⟨ii,oo,hgl,hai,hii,hc0⟩:=Row.el1 Zmf ((Vec.mk1 (n:=0) (c:=0) r10).row (m:=L.length) (by rw [Zay Zmf]; omega)) hL0
 cases hai
 refine ⟨⟨by omega,by omega⟩,?_⟩
 have hc0':Zag h10 (.ptr (some (j,0)))=some (.str L[0]):=by simpa [eS] using hc0
 simp only [Zav,show Int.toNat 0=0 from rfl,Nat.zero_mul,Nat.add_zero,hc0',Zal]
 have hhd:L.headD []=L[0]:=by cases L with | nil=>simp at hL0 | cons a r=>rfl
 have hm0:=hmem _ (List.getElem_mem hL0)
 have hb0:=hby _ (List.getElem_mem hL0)
 rw [hhd] at hW
 generalize L[0]=p0 at hm0 hb0 hW ⊢
 refine (Yau (by omega)).mono ?_
 rintro v h15 ⟨s15,j2,cpj2,e2,rfl,hj2,hrow2,_⟩
 have hPl:=Zhw (c:=32) p0
 have hmem2:∀ p∈Zcp 32 p0,p.length≤900:=fun p hp=>by have:=Zgm hp; omega
 have hby2:=Zhs (c:=32) hb0
 generalize hP:Zcp 32 p0=P at hrow2 hPl hmem2 hby2 hW
 simp only [Zae]
 have S15:=S10.cat s15
 have z15:=s15.get z10 (Own.lt z10)
 have o15:=s15.get o10 (Own.lt o10)
 have e15:=s15.get e10 (Own.lt e10)
 have i15:=s15.get i10 (Own.lt i10)
 have r15:=s15.get r10 (Own.lt r10)
 have hz8:h.length≠h8.length:=by omega
 have l10:=s10.le
 have hj2l:=Own.lt hrow2
 refine Zcm.L4ind (J:=fun (g:Nat) x23 h'=>x23=(g:Int)∧g≤P.length∧Zbc h.length h h'∧h'[h.length]?=some (.cells Zab [.slice none 0 0 true,.slice none 0 0 true] false)∧h'[j]?=some (.cells Zbe (Zdn eS L) false)∧h'[j2]?=some (.cells Zbe (Zdn eS P) false) ∧
   h'[h7.length]?=some (.cells Zac [] false)∧∃ (q c:Nat) (e:Bool),h'[h8.length]?=some (.cells Zab [.slice (some (q,0)) g c e,.slice (some (h7.length,0)) 0 0 true] false)∧h'[q]?=some (.cells Zbf (Zdn eP ((P.take g).map Ycd)) false)∧h.length≤q∧g≤c)
  (m:=fun g=>P.length - g) (hr:=?_) (g:=0) (hj:=⟨rfl,by omega,S15,z15,r15,hrow2,i15,h2.length,0,true,o15,by simpa using e15,by omega,Nat.le_refl _⟩) ..
 rintro g x23 h' ⟨rfl,hg,hS,hz,hr1,hr2,hi,q,c,e,ho,hq,hqb,hgc⟩ R hR
 have hlS:=hS.le
 unfold Zcm.L4t
 refine Zat (fun hlt=>?_) (fun hge=>?_)
 ·have hlt':g < P.length:=by omega
  obtain ⟨ii,oo,hgl,hai,hii,hc⟩:=Row.el1 Zmf ((Vec.mk1 (n:=0) (c:=0) hr2).row (m:=P.length) (by rw [Zay Zmf]; omega)) hlt'
  cases hai
  simp only [Zav,Int.toNat_natCast,hc,eS,List.getElem?_cons_zero,Zal,Zaw]
  have hpm:=hmem2 _ (List.getElem_mem hgl)
  have hset:∀ x,Ycd P[g]=x→(P.take (g + 1)).map Ycd=(P.take g).map Ycd ++ [x]:=fun x hx=>by rw [List.take_succ_eq_append_getElem hgl,List.map_append]; simp [hx]
  generalize P[g]=p at hpm hset ⊢
  refine ⟨by omega,?_⟩
  generalize hk1:h' ++ [Zcd.cells Zbf [.str [],.str []] false]=k1
  have t1:Zbc h'.length h' k1:=by rw [← hk1]; exact Zam
  have b1:k1[h'.length]?=some (.cells Zbf [.str [],.str []] false):=by rw [← hk1]; simp
  have tl1:k1.length=h'.length + 1:=by rw [← hk1]; simp
  rw [Zbd b1 (by simp)]
  simp only [Zas,putRow,List.take_zero,List.length_cons,List.length_nil,List.drop_succ_cons,List.drop_zero,List.drop_nil,List.cons_append,List.nil_append,List.append_nil,Nat.zero_add]
  have b2:=Zbz b1 (x:=.cells Zbf [.str p,.str []] false)
  have t2:Zbc h'.length h' (k1.set h'.length (.cells Zbf [.str p,.str []] false)):=t1.set' (Nat.le_refl _)
  have tl2:(k1.set h'.length (.cells Zbf [.str p,.str []] false)).length=k1.length:=by simp
  generalize k1.set h'.length (.cells Zbf [.str p,.str []] false)=k2 at b2 t2 tl2 ⊢
  have hol:=Own.lt ho
  have hql:=Own.lt hq
  -- a class of its own, appended
  have fin:∀ (G:Zaa) (x:Nd),G.length=k2.length→Zbc h'.length h' G→G[h'.length]?=some (.cells Zbf [.str x.1,.str x.2] false)→Ycd p=x→Zcm.J9 (Yua s h) R h8.length 0 h'.length 0 (g:Int) ((P.length:Nat):Int) (some (j2,0)) P.length cpj2 e2 (some (j,0)) L.length cpj eL h.length 0 G:=by
   intro G x hGl tG bG hx
   apply Zcm.J9i
   have oG:=tG.get ho hol
   have qG:=tG.get hq hql
   have zG:=tG.get hz (Own.lt hz)
   have r1G:=tG.get hr1 (Own.lt hr1)
   have r2G:=tG.get hr2 (Own.lt hr2)
   have iG:=tG.get hi (Own.lt hi)
   simp only [Zao oG,Nat.zero_add,List.getElem?_cons_zero,Zae,Zaw]
   rw [Zbk bG]
   simp only [Zaq,Zaf,Zan,Zal]
   refine (Vec.mk1 (n:=g) (c:=c) qG).pushN (sz:=2) Zxh Yhj Yhl Yhr (by rw [Zay Zea,List.length_map,List.length_take]; omega) rfl (by omega) rfl (by omega) (fun k5 hl5 hi5 hk5=>?_)
   have keep:∀ {x:Nat} {y:Zcd},G[x]?=some y→x≠q→k5[x]?=some y:=fun {x y} hx hne=>by rw [hk5 x (Own.lt hx) (fun i hi=>by cases hi; exact hne)]; exact hx
   have o5:=keep oG (Zfn oG qG (by decide))
   have z5:=keep zG (Zfn zG qG (by decide))
   have r15:=keep r1G (Zfn r1G qG (by decide))
   have r25:=keep r2G (Zfn r2G qG (by decide))
   have i5:=keep iG (Zfn iG qG (by decide))
   simp only [Zae]
   rw [Zbd o5 (by simp)]
   simp only [Zas,putRow,List.take_zero,List.length_cons,List.length_nil,List.drop_succ_cons,List.drop_zero,List.drop_nil,List.cons_append,List.nil_append,List.append_nil]
   apply Zcm.J10i
   rw [Zbl (by omega)]
   have:=tG.le
   refine hR (g + 1) _ _ (by omega) ⟨rfl,by omega,?_,by rw [Zbs (Ne.symm hz8)]; exact z5,by rw [Zbs (Zfn o5 r15 (by decide))]; exact r15,by rw [Zbs (Zfn o5 r25 (by decide))]; exact r25,by rw [Zbs (Zfn o5 i5 (by decide))]; exact i5,G.length + 1,g + 1,false,Zbz o5,?_,by omega,Nat.le_refl _⟩
   ·exact Zbc.set' ⟨by omega,fun x hx=>by rw [hk5 x (by omega) (fun i hi=>by cases hi; omega),tG.eq x (by omega)]; exact hS.eq x hx⟩ (by omega)
   ·rw [Zbs (by omega),hset _ hx]; simpa [eP] using hi5
  refine Zat (fun h2=>?_) (fun h2=>?_)
  ·match p,h2,hpm,fin,b2 with
   | x0 :: x1 :: x2 :: r,h2,hpm,fin,b2=>
    refine ⟨⟨by omega,by simp; omega⟩,?_⟩
    simp only [show Int.toNat 1=1 from rfl,List.getD_cons_succ,List.getD_cons_zero]
    refine Zcx (fun he=>?_) (fun hne=>?_)
    ·have hx1:x1=60:=by omega
     subst hx1
     refine ⟨⟨by omega,by omega,by simp; omega⟩,⟨by omega,by simp; omega,by omega⟩,?_⟩
     rw [Yeb,Yba (s:=x0 :: 60 :: x2 :: r) (z:=2) (k:=2) rfl (by simp)]
     simp only [List.drop_succ_cons,List.drop_zero]
     rw [Zbd b2 (by simp)]
     simp only [Zas,putRow,List.take_zero,List.length_cons,List.length_nil,List.drop_succ_cons,List.drop_zero,List.drop_nil,List.cons_append,List.nil_append,List.append_nil,Nat.zero_add]
     exact fin _ ([x0],x2 :: r) (by simp) (t2.set' (Nat.le_refl _)) (Zbz b2) (by simp [Ycd])
    ·have hx1:¬ x1=60:=by omega
     exact fin _ (x0 :: x1 :: x2 :: r,[]) rfl t2 b2 (by simp [Ycd,hx1])
   | [],h2,_,_,_=>simp at h2
   | [_],h2,_,_,_=>simp at h2
   | [_,_],h2,_,_,_=>simp at h2
  ·refine fin _ (p,[]) rfl t2 b2 ?_
   match p,h2 with
   | [],_=>rfl
   | [_],_=>rfl
   | [_,_],_=>rfl
   | x0 :: x1 :: x2 :: r,h2=>simp at h2; omega
 ·apply Zcm.A4x0i
  have hgP:g=P.length:=by omega
  subst hgP
  rw [List.take_length] at hq
  simp only [Zls,Zln]
  refine ⟨by omega,?_⟩
  -- the pieces behind the first one
  have next:∀ (a:Pt) (n c':Nat) (e':Bool),n=L.length - 1→Row h'.length h' a n (Zdn eS (L.drop 1))→(∀ i o,a=some (i,o)→i=j)→Zcm.L12 (Yua s h) h.length 0 h8.length 0 a n c' e' ((n:Nat):Int) 0 h':=by
   intro a n c' e' hn hrw haj
   have hdl:(L.drop 1).length=n:=by rw [List.length_drop]; omega
   have hmem3:∀ p∈L.drop 1,p.length≤900:=fun p hp=>hmem p (List.mem_of_mem_drop hp)
   have hby3:∀ p∈L.drop 1,∀ b∈p,b < 256:=fun p hp=>hby p (List.mem_of_mem_drop hp)
   generalize L.drop 1=D at hW hrw hdl hmem3 hby3
   refine Zcm.L12ind (J:=fun (g:Nat) x52 k=>x52=(g:Int)∧g≤n∧Zbc h.length h k∧k[h.length]?=some (.cells Zab [.slice none 0 0 true,.slice none 0 0 true] false)∧k[j]?=some (.cells Zbe (Zdn eS L) false)∧Row k.length k a n (Zdn eS D)∧k[q]?=some (.cells Zbf (Zdn eP (P.map Ycd)) false) ∧
     ∃ (l:List Ins) (ys:List EI) (q1 c1:Nat) (e1:Bool),(D.take g).mapM Yak=some l∧l.length=g∧ys.length=g∧k[h8.length]?=some (.cells Zab [.slice (some (q,0)) P.length c e,.slice (some (q1,0)) g c1 e1] false)∧k[q1]?=some (.cells Zac (Zdn eN ys) false)∧h.length≤q1∧g≤c1 ∧
      ∀ (m:Nat) (x:EI) (i:Ins),ys[m]?=some x→l[m]?=some i→x.c=i.1.1∧x.t=i.1.2∧Zdh Zad eP h.length k x.a x.n i.2)
    (m:=fun g=>n - g) (hr:=?_) (g:=0) (hj:=⟨rfl,by omega,hS,hz,hr1,hrw,hq,[],[],h7.length,0,true,by simp,rfl,rfl,ho,hi,by omega,Nat.le_refl _,by simp⟩) ..
   rintro g x52 k ⟨rfl,hg,kS,kz,kj,krw,kq,l,ys,q1,c1,e1,hl,hll,hyl,ko,kq1,hq1b,hgc1,hrep⟩ R2 hR2
   have kle:=kS.le
   have hkol:=Own.lt ko
   unfold Zcm.L12t
   refine Zat (fun hlt=>?_) (fun hge=>?_)
   ·obtain ⟨ii,oo,hgl,hai,hii,hc⟩:=Row.el1 Zmf krw (k:=g) (by omega)
    obtain rfl:=haj _ _ hai
    subst hai
    simp only [Zav,Int.toNat_natCast,hc,eS,List.getElem?_cons_zero,Zal]
    refine ⟨by omega,(Zvo D[g] (by have:=hmem3 _ (List.getElem_mem hgl); omega) (hby3 _ (List.getElem_mem hgl))).mono ?_⟩
    rintro v k2 ⟨t2,hres⟩
    have hstep:(D.take (g + 1)).mapM Yak=(Yak D[g]).map fun y=>l ++ [y]:=by rw [List.take_succ_eq_append_getElem hgl,Ydt,hl]; rfl
    have tl2:=t2.le
    have T2:=kS.cat t2
    have kz2:=t2.get kz (Own.lt kz)
    rcases hres with ⟨i,na,nc,ne,hi',rfl,hnc,nf⟩ | ⟨hi',rfl⟩
    ·simp only [Zct,Zaf,Zdc,Zal,Zae,Zan,Zap,Zaw]
     generalize hk3:k2 ++ [Zcd.cells Zac [.str [],.str [],.slice none 0 0 true] false]=k3
     have t3:Zbc k2.length k2 k3:=by rw [← hk3]; exact Zam
     have n3:k3[k2.length]?=some (.cells Zac [.str [],.str [],.slice none 0 0 true] false):=by rw [← hk3]; simp
     have tl3:k3.length=k2.length + 1:=by rw [← hk3]; simp
     rw [Zbd n3 (by simp)]
     simp only [Zas,putRow,List.take_zero,List.length_cons,List.length_nil,List.drop_succ_cons,List.drop_zero,List.drop_nil,List.cons_append,List.nil_append,List.append_nil,Nat.zero_add,Bool.not_true,Zca]
     have n4:=Zbz n3 (x:=.cells Zac [.str i.1.1,.str i.1.2,.slice na i.2.length nc ne] false)
     have t4:Zbc k2.length k2 (k3.set k2.length (.cells Zac [.str i.1.1,.str i.1.2,.slice na i.2.length nc ne] false)):=t3.set' (Nat.le_refl _)
     have tl4:(k3.set k2.length (.cells Zac [.str i.1.1,.str i.1.2,.slice na i.2.length nc ne] false)).length=k3.length:=by simp
     generalize k3.set k2.length (.cells Zac [.str i.1.1,.str i.1.2,.slice na i.2.length nc ne] false)=k4 at n4 t4 tl4 ⊢
     have t24:=t2.cat t4
     have T4:=kS.cat t24
     have z4:=t24.get kz (Own.lt kz)
     have o4:=t24.get ko (Own.lt ko)
     have q14:=t24.get kq1 (Own.lt kq1)
     have j4:=t24.get kj (Own.lt kj)
     have q4:=t24.get kq (Own.lt kq)
     have nf4:Zdh Zad eP h.length k4 na i.2.length i.2:=(nf.same t4).low kS.le
     simp only [Zao o4,Nat.zero_add,List.getElem?_cons_succ,List.getElem?_cons_zero,Zae]
     rw [Zni n4]
     simp only [Zaq,Zaf,Zan,Zal,Zae]
     refine (Vec.mk1 (n:=g) (c:=c1) q14).pushN (sz:=3) Zqj Zxz Zyu Zzc (by rw [Zay Zpk,hyl]) rfl (by omega) rfl (by omega) (fun k5 hl5 hi5 hk5=>?_)
     have keep:∀ {x:Nat} {y:Zcd},k4[x]?=some y→x≠q1→k5[x]?=some y:=fun {x y} hx hne=>by rw [hk5 x (Own.lt hx) (fun i hi=>by cases hi; exact hne)]; exact hx
     have o5:=keep o4 (Zfn o4 q14 (by decide))
     have z5:=keep z4 (Zfn z4 q14 (by decide))
     have j5:=keep j4 (Zfn j4 q14 (by decide))
     have q5:=keep q4 (Zfn q4 q14 (by decide))
     have fr5:∀ {a:Pt} {n:Nat} {l:List Nd},Zdh Zad eP h.length k4 a n l→Zdh Zad eP h.length k5 a n l:=fun f=>⟨f.1,f.2.imp id fun ⟨y,ha,hb,hy⟩=>⟨y,ha,hb,keep hy (Zfn hy q14 (by decide))⟩⟩
     simp only [Zae]
     rw [Zbd o5 (by simp)]
     simp only [Zas,putRow,List.take_succ_cons,List.take_zero,List.length_cons,List.length_nil,List.drop_succ_cons,List.drop_zero,List.drop_nil,List.cons_append,List.nil_append,List.append_nil]
     rw [Zbl (by omega)]
     have fr6:∀ {a:Pt} {n:Nat} {l:List Nd},Zdh Zad eP h.length k5 a n l→Zdh Zad eP h.length (k5.set h8.length (.cells Zab [.slice (some (q,0)) P.length c e,.slice (some (k4.length + 1,0)) (g + 1) (g + 1) false] false)) a n l:=fun f=>⟨f.1,f.2.imp id fun ⟨y,ha,hb,hy⟩=>⟨y,ha,hb,by rw [Zbs (Zfn o5 hy (by decide))]; exact hy⟩⟩
     have j6:(k5.set h8.length (.cells Zab [.slice (some (q,0)) P.length c e,.slice (some (k4.length + 1,0)) (g + 1) (g + 1) false] false))[ii]?=some (.cells Zbe (Zdn eS L) false):=by rw [Zbs (Zfn o5 j5 (by decide))]; exact j5
     refine hR2 (g + 1) _ _ (by omega) ⟨rfl,by omega,?_,by rw [Zbs (Ne.symm hz8)]; exact z5,j6,?_,by rw [Zbs (Zfn o5 q5 (by decide))]; exact q5,l ++ [i],ys ++ [⟨i.1.1,i.1.2,na,i.2.length,nc,ne⟩],k4.length + 1,g + 1,false,by rw [hstep,hi']; rfl,by simp [hll],by simp [hyl],Zbz o5,?_,by omega,Nat.le_refl _,fun m x i' hx hi''=>?_⟩
     ·exact Zbc.set' ⟨by omega,fun x hx=>by rw [hk5 x (by omega) (fun i hi=>by cases hi; omega)]; exact T4.eq x hx⟩ (by omega)
     ·obtain ⟨hl',hr'⟩:=krw
      refine ⟨hl',hr'.imp id ?_⟩
      rintro ⟨i',o',t,all,ro,ha,hi',hg',x⟩
      cases ha
      rw [kj] at hg'; injection hg' with hg'; injection hg' with g1 g2 g3
      exact ⟨_,_,t,all,ro,rfl,by simp; have:=Own.lt j5; omega,by rw [j6,g1,g2,g3],x⟩
     ·rw [Zbs (by omega)]; simpa [eN] using hi5
     ·by_cases hm:m < g
      ·rw [List.getElem?_append_left (by omega)] at hx hi''
       obtain ⟨p1,p2,p3⟩:=hrep m x i' hx hi''
       exact ⟨p1,p2,fr6 (fr5 (p3.same t24))⟩
      ·have hmg:m=g:=by have:=(List.getElem?_eq_some_iff.1 hx).1; simp [hyl] at this; omega
       subst hmg
       rw [List.getElem?_append_right (by omega)] at hx hi''
       simp [hyl] at hx
       simp [hll] at hi''
       subst hx; subst hi''
       exact ⟨rfl,rfl,fr6 (fr5 nf4)⟩
    ·simp only [Zct,Zaf,Zdc,Zal,Zae,Zan,Zap,Zaw]
     generalize hk3:k2 ++ [Zcd.cells Zac [.str [],.str [],.slice none 0 0 true] false]=k3
     have t3:Zbc k2.length k2 k3:=by rw [← hk3]; exact Zam
     have n3:k3[k2.length]?=some (.cells Zac [.str [],.str [],.slice none 0 0 true] false):=by rw [← hk3]; simp
     rw [Zbd n3 (by simp)]
     simp only [Zas,Bool.not_false,Zcn]
     have t4:Zbc k2.length k2 (k3.set k2.length (.cells Zac (putRow [.str [],.str [],.slice none 0 0 true] 0 [.str [],.str [],.slice none 0 0 true]) false)):=t3.set' (Nat.le_refl _)
     refine Ylj (T2.cat t4) (Nat.le_refl _) (t4.get kz2 (Own.lt kz2)) ?_
     rw [hW,Zwm (k:=g + 1) Yak (by rw [hstep,hi']; rfl)]
   ·apply Zcm.A12x2i
    have hgn:g=n:=by omega
    subst hgn
    rw [List.take_of_length_le (by omega)] at hl
    rw [Zbk ko]
    simp only [Zaq,Zaf,Zan,Zae]
    have rep:Zmc k (some (q,0)) P.length c (some (q1,0)) g c1 ⟨P.map Ycd,l⟩:=by
     refine ⟨?_,⟨ys,?_,by rw [hyl,hll],fun m x i hx hi=>⟨(hrep m x i hx hi).1,(hrep m x i hx hi).2.1,(hrep m x i hx hi).2.2.row Zea⟩⟩,hgc,hgc1⟩
     ·exact (Vec.mk1 (n:=0) (c:=0) kq).row (by rw [Zay Zea,List.length_map])
     ·exact (Vec.mk1 (n:=0) (c:=0) kq1).row (by rw [Zay Zpk,hyl])
    have ws:WB ⟨P.map Ycd,l⟩:=by
     obtain ⟨h1,h2⟩:=Zxe hl
     refine ⟨by simp; omega,by simp only; omega,fun p hp=>?_,fun i hi=>?_⟩
     ·simp only [List.mem_map] at hp
      obtain ⟨x,hx,rfl⟩:=hp
      have:=hmem2 x hx
      have h3:=Ygw (s:=x)
      exact ⟨by omega,by omega,Yem (hby2 x hx)⟩
     ·obtain ⟨x,hx,he⟩:=h2 i hi
      have:=Yao (hmem3 x hx) he
      exact ⟨by omega,by omega,by omega,fun p hp=>by have:=this.2.2.2 p hp; omega⟩
    refine (Zjg rep ws).mono ?_
    rintro v m1 ⟨rfl,t1⟩
    simp only [Zap]
    have M1:=kS.cat t1
    have mz:=t1.get kz (Own.lt kz)
    have mo:=t1.get ko (Own.lt ko)
    rw [hl] at hW
    simp only at hW
    refine Zbq (fun hv=>?_) (fun hv=>?_)
    ·refine Ylj M1 (Nat.le_refl _) mz ?_
     rw [hW]; unfold wdQ; rw [if_neg (by rw [hv]; simp)]
    ·rw [Zbk mo]
     simp only [Zaq,Zaf,Zan,Zae]
     rw [Zbd mz (by simp)]
     simp only [Zas,putRow,List.take_zero,List.length_cons,List.length_nil,List.drop_succ_cons,List.drop_zero,List.drop_nil,List.cons_append,List.nil_append,List.append_nil,Nat.zero_add]
     rw [Zbk (Zbz mz)]
     simp only [Zaq,Zaf,Zan,Zae]
     refine ⟨M1.set' (Nat.le_refl _),_,_,_,_,_,_,_,_,_,rfl,?_⟩
     rw [hW]; unfold wdQ; rw [if_pos hv]
     have nz:∀ {x:Nat} {t:TypeId} {cs:List Zau},m1[x]?=some (.cells t cs false)→t≠Zab→(m1.set h.length (.cells Zab [.slice (some (q,0)) P.length c e,.slice (some (q1,0)) g c1 e1] false))[x]?=some (.cells t cs false):=fun {x t cs} hx hne=>by rw [Zbs (Zfn mz hx (Ne.symm hne))]; exact hx
     refine ⟨?_,⟨ys,?_,by rw [hyl,hll],fun m x i hx hi=>⟨(hrep m x i hx hi).1,(hrep m x i hx hi).2.1,?_⟩⟩,hgc,hgc1⟩
     ·exact (Vec.mk1 (n:=0) (c:=0) (nz (t1.get kq (Own.lt kq)) (by decide))).row (by rw [Zay Zea,List.length_map])
     ·exact (Vec.mk1 (n:=0) (c:=0) (nz (t1.get kq1 (Own.lt kq1)) (by decide))).row (by rw [Zay Zpk,hyl])
     ·have f:=((hrep m x i hx hi).2.2).same t1
      exact (show Zdh Zad eP h.length _ x.a x.n i.2 from ⟨f.1,f.2.imp id fun ⟨y,ha,hb,hy⟩=>⟨y,ha,hb,nz hy (by decide)⟩⟩).row Zea
  refine ⟨fun hlt=>?_,fun hno=>?_⟩
  ·simp only [Zae]
   have e1:((L.length:Int) - 1).toNat=L.length - 1:=by omega
   refine next _ _ _ _ e1 ?_ (fun i o h=>by cases h; rfl)
   rw [e1]
   refine ⟨by rw [Zay Zmf,List.length_drop]; omega,?_⟩
   by_cases h1:L.length=1
   ·left; omega
   ·right
    refine ⟨j,0 + 1 * 1,_,_,_,rfl,Own.lt hr1,hr1,by rw [Zay Zmf]; omega,?_⟩
    have:=Yfs (enc:=eS) Zmf L 1
    rw [Nat.one_mul] at this
    rw [show 0 + 1 * 1=1 from rfl,this,List.take_of_length_le (by rw [Zay Zmf,List.length_drop]; omega)]
  ·simp only [Zae]
   have e1:((L.length:Int) - 1).toNat=L.length - 1:=by omega
   have e0:L.length=1:=by omega
   refine next _ _ _ _ (by omega) ?_ (fun i o h=>by cases h)
   have:L.drop 1=[]:=List.drop_of_length_le (by omega)
   rw [this]; simp; exact Row.nil
end Go.Sim

set_option linter.unusedVariables false
set_option linter.unusedSimpArgs false
set_option maxRecDepth 20000
namespace Go.Sim
open Go Go.RowKit

def Yuf (h h':Zaa) (u:List Zau) (w:Wd):Prop:=∃ a0 n0 c0 e0 q n1 c1 e1 ys,u=[.slice a0 n0 c0 e0,.slice (some (q,0)) n1 c1 e1]∧WDr h.length h' a0 n0 c0 q n1 c1 ys w
theorem Zdu.cell {h h':Zaa} {i j o:Nat} (K:Zdu i h h') (hj:j < h.length) (hi:j≠i):Zag h' (.ptr (some (j,o)))=Zag h (.ptr (some (j,o))):=by simp only [Zag,K.eq j hj hi]
theorem Zdu.get {h h':Zaa} {i j:Nat} {x:Zcd} (K:Zdu i h h') (hj:h[j]?=some x) (hi:j≠i):h'[j]?=some x:=by rw [K.eq j (Own.lt hj) hi]; exact hj
theorem Ztj {h:Zaa} (s:List Nat) (hs:s.length≤900) (hb:∀ b∈s,b < 256):Zah pg Zii [.str s] h fun v h'=>Zbc h.length h h'∧∃ u b,v=.tup [.agg u,.bool b]∧Yuf h h' u (wdP s):=by
 apply Zpz.call
 simp only [Zaw]
 generalize hh0:h ++ [Zcd.cells Zab [.slice none 0 0 true,.slice none 0 0 true] false]=h0
 have s0:Zbc h.length h h0:=by rw [← hh0]; exact Zam
 have z0:h0[h.length]?=some (.cells Zab [.slice none 0 0 true,.slice none 0 0 true] false):=by rw [← hh0]; simp
 refine (Yov s hs hb).mono ?_
 rintro v h2 ⟨s2,a0,n0,c0,e0,a1,n1,c1,e1,b,rfl,rep⟩
 have S2:=s0.cat s2
 have z2:=s2.get z0 (Own.lt z0)
 have l2:=S2.le
 simp only [Zct,Zaf,Zdc,Zae,Zan,Zap]
 rw [Zfk]
 simp only [Zas]
 generalize hh3:h2 ++ [Zcd.cells Zab [.slice a0 n0 c0 e0,.slice a1 n1 c1 e1] false]=h3
 have s3:Zbc h2.length h2 h3:=by rw [← hh3]; exact Zam
 have y3:h3[h2.length]?=some (.cells Zab [.slice a0 n0 c0 e0,.slice a1 n1 c1 e1] false):=by rw [← hh3]; simp
 have S3:=S2.cat s3
 have z3:=s3.get z2 (Own.lt z2)
 rw [Zbk y3]
 simp only [Zaq,Zaf,Zan,Zae]
 refine (Ydx (rep.same s3) ((Zyd hs hb).wb (by omega))).mono ?_
 rintro v h4 ⟨b0,d0,f0,b1,d1,f1,ys,rfl,s4,W4,hd0,hd1,_,_,q,rfl,hq,hqo⟩
 have z4:=s4.get z3 (Own.lt z3)
 simp only [Zdc,Zaf,Zae,Zan]
 rw [Zbd z4 (by simp)]
 simp only [Zas,putRow,List.take_zero,List.length_cons,List.length_nil,List.drop_succ_cons,List.drop_zero,List.drop_nil,List.cons_append,List.nil_append,List.append_nil,Nat.zero_add]
 rw [Zbk (Zbz z4)]
 simp only [Zaq,Zaf,Zan,Zae]
 have l3:=S3.le
 refine ⟨(S3.cat s4).set' (Nat.le_refl _),_,_,rfl,b0,n0,d0,f0,q,n1,d1,f1,ys,rfl,?_⟩
 have hz:=Own.lt z0
 have l03:=(s2.cat s3).le
 exact ((WDr.of (c0:=d0) (c1:=d1) W4 hd0 hd1 hq hqo).keep (fun j hj hjl=>by rw [Zbs (by omega)])).low (by omega)
theorem Yiw {h:Zaa} {x:Int} (hx0:0≤x) (hx9:x < 9):Zah pg Zpc [.int .i64 x] h fun v h'=>Zbc h.length h h'∧∃ u w,v=.agg u∧Yuf h h' u w∧WS 1000 w:=by
 apply Ztm.call
 simp only [Zaw]
 generalize hh0:h ++ [Zcd.cells Zab [.slice none 0 0 true,.slice none 0 0 true] false]=h0
 have s0:Zbc h.length h h0:=by rw [← hh0]; exact Zam
 have z0:h0[h.length]?=some (.cells Zab [.slice none 0 0 true,.slice none 0 0 true] false):=by rw [← hh0]; simp
 have hl0:h0.length=h.length + 1:=by rw [← hh0]; simp
 have htm:Int.tmod x ((9:Nat):Int)=x:=by rw [Int.tmod_eq_emod_of_nonneg hx0]; exact Int.emod_eq_of_lt hx0 (by omega)
 rw [htm]
 refine ⟨by omega,⟨by omega,by omega⟩,?_⟩
 obtain ⟨k,rfl⟩:∃ k:Nat,x=k:=⟨x.toNat,by omega⟩
 have hk:k < 9:=by omega
 rw [Zey,Int.toNat_natCast,Nat.zero_add,Nat.mul_one]
 generalize hL:([.str ([69,32,79,60,69,59,69,32,105,59,69,32,98,59,69,32,108,40,120,41,58,69,32,120,59,69,32,112,40,120,44,121,41,58,69,32,120,38,69,32,121,59,79,32,105,59,79,32,108,40,120,41,58,79,32,120]),.str ([69,32,83,59,69,32,105,59,69,32,108,40,120,41,58,69,32,120,59,69,32,108,40,105,41,59,83,32,112,40,120,44,120,41,58,83,32,120,59,83,32,112,40,105,44,98,41,59,83,32,105,59,83,32,98]),.str ([65,32,66,59,65,32,105,59,65,32,108,40,120,41,58,65,32,120,38,66,32,120,59,66,32,105,59,66,32,108,40,120,41,58,65,32,108,40,120,41]),.str ([65,59,65,32,108,40,120,41,58,65,32,108,40,120,41,59,65,32,109,40,120,41,58,65,32,108,40,109,40,120,41,41,59,65,32,105]),.str ([69,32,79,60,69,32,83,60,69,79,59,69,32,117,59,69,32,105,59,79,32,105,59,83,32,105,59,69,32,109,40,120,41,58,69,32,120,59,79,32,109,40,120,41,58,79,32,120,59,83,32,109,40,120,41,58,83,32,120,38,69,32,109,40,120,41]),.str ([69,32,70,59,69,32,105,59,69,32,98,59,70,32,108,40,120,41,58,69,32,120,59,70,32,109,40,120,41,58,70,32,120,38,69,32,120,59,70,32,112,40,108,40,120,41,44,121,41,58,69,32,120,38,70,32,121,59,70,32,105]),.str ([69,32,79,60,69,59,79,32,105,59,69,32,98,59,69,32,108,40,120,41,58,69,32,120]),.str ([65,32,66,60,65,32,67,60,65,66,59,65,32,105,59,66,32,105,59,67,32,105,59,65,32,108,40,120,41,58,67,32,120,59,66,32,108,40,120,41,58,67,32,120,59,67,32,108,40,120,41,58,67,32,120,59,65,32,117]),.str ([69,59,69,32,112,40,120,44,105,41,58,69,32,120,59,69,32,112,40,105,44,120,41,58,69,32,120,59,69,32,105,59,69,32,98])]:List Zau)=L
 have hx:∃ s:List Nat,L[k]?=some (.str s)∧s.length≤900∧∀ b∈s,b < 256:=by
  rw [← hL]
  match k,hk with
  | 0,_=>exact ⟨_,rfl,by decide,by decide⟩
  | 1,_=>exact ⟨_,rfl,by decide,by decide⟩
  | 2,_=>exact ⟨_,rfl,by decide,by decide⟩
  | 3,_=>exact ⟨_,rfl,by decide,by decide⟩
  | 4,_=>exact ⟨_,rfl,by decide,by decide⟩
  | 5,_=>exact ⟨_,rfl,by decide,by decide⟩
  | 6,_=>exact ⟨_,rfl,by decide,by decide⟩
  | 7,_=>exact ⟨_,rfl,by decide,by decide⟩
  | 8,_=>exact ⟨_,rfl,by decide,by decide⟩
 obtain ⟨s,hs1,hs2,hs3⟩:=hx
 rw [hs1]
 simp only [Zal]
 generalize hh1:h0 ++ [Zcd.cells Zbe L false]=h1
 have s1:Zbc h0.length h0 h1:=by rw [← hh1]; exact Zam
 have z1:=s1.get z0 (Own.lt z0)
 have S1:=s0.cat s1
 refine (Ztj s hs2 hs3).mono ?_
 rintro v h2 ⟨s2,u,b,rfl,a0,n0,c0,e0,q,n1,c1,e1,ys,rfl,d⟩
 have S2:=S1.cat s2
 have z2:=s2.get z1 (Own.lt z1)
 simp only [Zct,Zaf,Zdc,Zae,Zan,Zap]
 rw [Zfk]
 simp only [Zas]
 generalize hh3:h2 ++ [Zcd.cells Zab [.slice a0 n0 c0 e0,.slice (some (q,0)) n1 c1 e1] false]=h3
 have s3:Zbc h2.length h2 h3:=by rw [← hh3]; exact Zam
 have y3:h3[h2.length]?=some (.cells Zab [.slice a0 n0 c0 e0,.slice (some (q,0)) n1 c1 e1] false):=by rw [← hh3]; simp
 have S3:=S2.cat s3
 have z3:=s3.get z2 (Own.lt z2)
 rw [Zbk y3]
 simp only [Zaq,Zaf,Zan,Zae]
 rw [Zbd z3 (by simp)]
 simp only [Zas,putRow,List.take_zero,List.length_cons,List.length_nil,List.drop_succ_cons,List.drop_zero,List.drop_nil,List.cons_append,List.nil_append,List.append_nil,Nat.zero_add]
 rw [Zbk (Zbz z3)]
 simp only [Zaq,Zaf,Zan,Zae]
 have hz1:=Own.lt z1
 exact ⟨S3.set' (Nat.le_refl _),_,_,rfl,⟨a0,n0,c0,e0,q,n1,c1,e1,ys,rfl,((d.same s3).keep (fun j hj hjl=>by rw [Zbs (by omega)])).low S1.le⟩,Zyd hs2 hs3⟩
def RdK (i p k:Nat) (h h':Zaa):Prop:=Zdu i h h'∧∃ p',p≤p'∧p'≤p + k∧Rdr h' i p'
theorem RdK.app {i p k:Nat} {h h1 h2:Zaa} (s:Zbc h.length h h1) (K:RdK i p k h1 h2):RdK i p k h h2:=⟨(Zdu.of_same s).trans K.1,K.2⟩
theorem Ybk {h:Zaa} {i p b m:Nat} {a0:Pt} {n0 c0 q n1 c1:Nat} {e0 e1:Bool} {ys:List EI} {w:Wd} {s:List Nat} (r:Rdr h i p) (hp:p≤900000000000) (d:WDr b h a0 n0 c0 q n1 c1 ys w) (hib:i < b) (hn0:1≤n0) (ws:WS m w) (hs:s.length≤100) :
  Zah pg Zgk [.ptr (some (i,0)),.agg [.slice a0 n0 c0 e0,.slice (some (q,0)) n1 c1 e1],.str s] h fun v h'=>∃ c t,v=.agg [.str c,.str t]∧c.length≤1000∧t.length≤1000∧RdK i p 1000 h h':=by
 have hil:=r.lt
 apply Zps.call
 simp only [Zaw]
 generalize hg0:h ++ [Zcd.cells Zab [.slice a0 n0 c0 e0,.slice (some (q,0)) n1 c1 e1] false]=g0
 generalize hg1:g0 ++ [Zcd.cells Zad [.str [],.str []] false]=g1
 have s0:Zbc h.length h g0:=by rw [← hg0]; exact Zam
 have s1:Zbc g0.length g0 g1:=by rw [← hg1]; exact Zam
 have x0:g0[h.length]?=some (.cells Zab [.slice a0 n0 c0 e0,.slice (some (q,0)) n1 c1 e1] false):=by rw [← hg0]; simp
 have x1:=s1.get x0 (Own.lt x0)
 have y1:g1[g0.length]?=some (.cells Zad [.str [],.str []] false):=by rw [← hg1]; simp
 have l0:g0.length=h.length + 1:=by rw [← hg0]; simp
 have S1:=s0.cat s1
 simp only [Zao x1,Nat.zero_add,List.getElem?_cons_zero,Zae,true_and]
 refine (Zcu (r.same S1) (by omega) (n0:Int)).mono ?_
 rintro v k1 ⟨x,rfl,hx0,hx1,_,K1,R1,l1⟩
 have hx1:=hx1 (by omega)
 have x2:=K1.get x1 (by omega)
 have y2:=K1.get y1 (by omega)
 have KK1:=(Zdu.of_same (i:=i) S1).trans K1
 obtain ⟨k,rfl⟩:∃ k:Nat,x=k:=⟨x.toNat,by omega⟩
 have d1:=(d.same S1).kp K1 hib
 obtain ⟨ic,oc,hkc,ha,_,_,hc,_⟩:=d1.rep.class (k:=k) (by omega)
 subst ha
 have hcl:=(ws.cs _ (List.getElem_mem hkc)).1
 simp only [Zar,Zao x2,List.getElem?_cons_zero,Zav,Int.toNat_natCast,Nat.add_zero,hc,Zal,true_and]
 refine ⟨⟨by omega,by omega⟩,?_⟩
 -- the end
 have fin:∀ (G:Zaa) (t:List Nat) (p':Nat),Zdu i k1 G→t.length≤1000→p≤p'→p'≤p + 1000→Rdr G i p'→Zbu (Zbb G (.ptr (some (g0.length,0))) [.str w.cs[k].1,.str t]) fun h_22=>Zco (Zbj h_22 (.ptr (some (g0.length,0))) 2) fun cs_23=>Zaj cs_23 fun c_24 r_25=>Zbg (some c_24) fun s_26=>Zaj r_25 fun c_27 r_28=>Zbg (some c_27) fun s_29=>Zbv r_28 (∃ c t,Zau.agg [.str s_26,.str s_29]=.agg [.str c,.str t]∧c.length≤1000∧t.length≤1000∧RdK i p 1000 h h_22):=by
  intro G t p' KG ht h1 h2 RG
  have yG:=KG.get y2 (by omega)
  rw [Zbd yG (by simp)]
  simp only [Zas,putRow,List.take_zero,List.length_cons,List.length_nil,List.drop_succ_cons,List.drop_zero,List.drop_nil,List.cons_append,List.nil_append,List.append_nil,Nat.zero_add]
  rw [Zbk (Zbz yG)]
  simp only [Zaq,Zaf,Zan,Zal]
  have KG':=KK1.trans KG
  refine ⟨_,_,rfl,hcl,ht,⟨by have:=KG'.le; simp; omega,fun j hj hji=>by rw [Zbs (by omega)]; exact KG'.eq j hj hji⟩,p',h1,h2,RG.agree (fun j hj=>by rw [Zbs (by omega)]) (by simp)⟩
 refine Zat (fun hs0=>?_) (fun hs0=>?_)
 ·refine (Zcu R1 (by omega) 2).mono ?_
  rintro v k2 ⟨x,rfl,hx0,hx1',_,K2,R2,l2⟩
  have hx1':=hx1' (by omega)
  simp only [Zar]
  obtain ⟨z,rfl⟩:∃ z:Nat,x=z:=⟨x.toNat,by omega⟩
  have hB:4 ^ (z + 1)≤16:=by
   have:z=0 ∨ z=1:=by omega
   rcases this with rfl | rfl <;> decide
  refine (Zut z (by omega) R2 (by omega) _).mono ?_
  rintro v k3 ⟨t,rfl,hok,hlen,K3,p3,hp1,hp2,R3⟩
  simp only [Zal]
  exact fin k3 t.txt p3 (K2.trans K3) (by omega) (by omega) (by omega) R3
 ·have hs1:1≤s.length:=by cases s with | nil=>exact absurd rfl hs0 | cons a r=>simp
  refine (Zcu R1 (by omega) (s.length:Nat)).mono ?_
  rintro v k2 ⟨x,rfl,hx0,hx1',_,K2,R2,l2⟩
  have hx1':=hx1' (by omega)
  simp only [Zar]
  have hsl:(sub s x (IntKind.wrap .i64 (x + 1))).length≤100:=Nat.le_trans (Yfe _ _ _) hs
  have hw1:IntKind.wrap .i64 (x + 1)=x + 1:=IntWalk.i64_in _ (by omega)
  refine ⟨⟨by omega,by omega,by omega⟩,by simp; omega,by simp; omega,?_⟩
  generalize sub s x (IntKind.wrap .i64 (x + 1))=y at hsl ⊢
  have hk2l:=R2.lt
  refine (Zmm (R2.app _) (by omega) (j:=k2.length) (t:=Zbe) (n:=5) (l:=[y,y,y,[108,40] ++ y ++ [41],y]) (by simp [Zdn,eS]) (by omega) rfl (by omega)).mono ?_
  rintro v k3 ⟨t,ht,rfl,K3,R3,l3⟩
  simp only [Zal]
  have htl:t.length≤1000:=by
   simp only [List.mem_cons,List.not_mem_nil,or_false] at ht
   rcases ht with rfl | rfl | rfl | rfl | rfl <;> first | omega | (simp; omega)
  exact fin k3 t _ (K2.trans ((Zdu.app i k2 _).trans K3)) htl (by omega) (by omega) R3
end Go.Sim
