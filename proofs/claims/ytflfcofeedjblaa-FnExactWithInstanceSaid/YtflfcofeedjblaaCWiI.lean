/- A part of the proof of a statement of this seat: see the text that holds the theorem. No condition. -/
import Derived.Test.YtflfcofeedjblaaPTCSrch
import Derived.Test.YtflfcofeedjblaaCWVal1
set_option linter.unusedVariables false
set_option linter.unusedSimpArgs false
set_option linter.all false
set_option linter.unusedVariables false
set_option linter.unusedSimpArgs false
set_option maxRecDepth 20000
namespace Go.Sim
open Go Go.RowKit

theorem Ycb {h:Zab} {a:Pt} {n c:Nat} {e:Bool} {l:List Nd} (r:Row h.length h a (n * 2) (Zdf eP l)) (h0:a≠none) (hn:n≤1048576) :
  Zag pg Zdi [.slice a n c e] h fun v h'=>∃ q c' e',v=.slice (some (q,0)) n c' e'∧n≤c'∧h.length≤q∧h'[q]?=some (.cells Zat (Zdf eP l) false)∧Zbb h.length h h':=by
 have hl:l.length=n:=by have:=r.1; rw [Zbl Zdg] at this; omega
 obtain ⟨⟨i,o⟩,ha⟩:=Option.ne_none_iff_exists'.1 h0
 subst ha
 apply Zdy.call
 refine ⟨(by intro e; cases e),?_⟩
 simp only [Option.isNone_some,Zbh]
 generalize hh0:h ++ [Zbv.cells Zat [] false]=h0'
 have s0:Zbb h.length h h0':=by rw [← hh0]; exact Zan
 have o0:h0'[h.length]?=some (.cells Zat [] false):=by rw [← hh0]; simp
 have l0:h0'.length=h.length + 1:=by rw [← hh0]; simp
 refine Zfg (fun h=>by cases h) (fun _=>?_)
 refine Vec.app0 (n:=0) o0 Yeh Yja Yil Yic (by simp) (r.same' s0).rowOf (Zmw (enc:=eP) (fun _=>rfl) l) (by omega) (fun h1 hl1 hi1 hk1=>?_)
 simp only [Zae,Nat.zero_add]
 exact ⟨_,_,_,rfl,by omega,by omega,by simpa using hi1,⟨by omega,fun j hj=>by rw [hk1 j (by omega) (by omega)]; exact s0.eq j hj⟩⟩
def CpG (w:Wd) (n0 n1:Nat) (h:Zab) (v:Zai) (h':Zab):Prop:=∃ q0 d0 f0 a1 c1 f1 ys,v=.agg [.slice (some (q0,0)) n0 d0 f0,.slice a1 n1 c1 f1]∧n0≤d0∧Zbb h.length h h'∧h.length≤q0∧(∀ j,a1=some (j,0)→h.length≤j∧j≠q0) ∧
 h'[q0]?=some (.cells Zat (Zdf eP w.cs) false)∧Vec Zaa h' a1 n1 c1 (Zdf eN ys)∧ys.length=n1∧(∀ (k:Nat) (x:EI) (i:Ins),ys[k]?=some x→w.is[k]?=some i→x.c=i.1.1∧x.t=i.1.2∧Zcd Zap eP h.length h' x.a x.n i.2)∧(∀ (j k:Nat) (x y:EI),j≠k→ys[j]?=some x→ys[k]?=some y→x.n≠0→y.n≠0→x.a≠y.a)
theorem Zyy {h:Zab} {a0 a1:Pt} {n0 c0 n1 c1:Nat} {e0 e1:Bool} {w:Wd} (r:Zip h a0 n0 c0 a1 n1 c1 w) (nn:NNs h a1 n1 w) (b:WB w) (h0:a0≠none) :
  Zag pg Zlt [.agg [.slice a0 n0 c0 e0,.slice a1 n1 c1 e1]] h (CpG w n0 n1 h):=by
 have hl0:=r.len0
 have hl1:=r.len1
 have hlc:=b.lc
 have hli:=b.li
 apply Zht.call
 simp only [Zbh]
 generalize hh0:h ++ [Zbv.cells Zac [.slice a0 n0 c0 e0,.slice a1 n1 c1 e1] false]=g0
 generalize hh1:g0 ++ [Zbv.cells Zac [.slice none 0 0 true,.slice none 0 0 true] false]=g1
 have s0:Zbb h.length h g0:=by rw [← hh0]; exact Zan
 have s1:Zbb g0.length g0 g1:=by rw [← hh1]; exact Zan
 have l0:g0.length=h.length + 1:=by rw [← hh0]; simp
 have l1:g1.length=h.length + 2:=by rw [← hh1]; simp [l0]
 have w0:g0[h.length]?=some (Zna a0 n0 c0 e0 a1 n1 c1 e1):=by rw [← hh0]; simp [Zna]
 have w1:=s1.get w0 (Own.lt w0)
 have z1:g1[g0.length]?=some (.cells Zac [.slice none 0 0 true,.slice none 0 0 true] false):=by rw [← hh1]; simp
 have S1:=s0.cat s1
 simp only [Zln w1,Nat.zero_add,List.getElem?_cons_zero,List.getElem?_cons_succ,Zae]
 refine (Ycb (l:=w.cs) (r.cls.same' S1) h0 (by omega)).mono ?_
 rintro v g2 ⟨q0,d0,f0,rfl,hd0,hq0,o2,s2⟩
 have S2:=S1.cat s2
 have w2:=s2.get w1 (Own.lt w1)
 have z2:=s2.get z1 (Own.lt z1)
 simp only [Zae]
 rw [Znm]
 simp only [Zam]
 generalize hh3:g2 ++ [Zbv.cells Zac [.slice (some (q0,0)) n0 d0 f0,.slice none 0 0 true] false]=g3
 have s3:Zbb g2.length g2 g3:=by rw [← hh3]; exact Zan
 have l3:g3.length=g2.length + 1:=by rw [← hh3]; simp
 have u3:g3[g2.length]?=some (.cells Zac [.slice (some (q0,0)) n0 d0 f0,.slice none 0 0 true] false):=by rw [← hh3]; simp
 have S3:=S2.cat s3
 have w3:=s3.get w2 (Own.lt w2)
 have z3:=s3.get z2 (Own.lt z2)
 have o3:=s3.get o2 (Own.lt o2)
 have le2:=s2.le
 simp only [Zln w3,List.getElem?_cons_zero,List.getElem?_cons_succ,Zae]
 have hq0l:=Own.lt o2
 refine Zht.L3ind (J:=fun (g:Nat) x13 h'=>x13=(g:Int)∧g≤n1∧Zbb h.length h h'∧g3.length≤h'.length∧h'[q0]?=some (.cells Zat (Zdf eP w.cs) false)∧h'[g0.length]?=some (.cells Zac [.slice none 0 0 true,.slice none 0 0 true] false) ∧
   ∃ (a:Pt) (cp:Nat) (f:Bool) (ys:List EI),h'[g2.length]?=some (.cells Zac [.slice (some (q0,0)) n0 d0 f0,.slice a g cp f] false)∧Vec Zaa h' a g cp (Zdf eN ys)∧(g≠0→cp=g)∧ys.length=g∧(∀ j,a=some (j,0)→g3.length≤j) ∧
    (∀ (k:Nat) (x:EI) (i:Ins),ys[k]?=some x→w.is[k]?=some i→x.c=i.1.1∧x.t=i.1.2∧Zcd Zap eP g3.length h' x.a x.n i.2)∧(∀ (j k:Nat) (x y:EI),j≠k→ys[j]?=some x→ys[k]?=some y→x.n≠0→y.n≠0→x.a≠y.a))
  (m:=fun g=>n1 - g) (hr:=?_) (g:=0) (hj:=⟨rfl,by omega,S3,Nat.le_refl _,o3,z3,none,0,true,[],u3,Vec.mk0,by simp,rfl,by simp,by simp,by simp⟩) ..
 rintro g x13 g4 ⟨rfl,hg,S4,l4,o4,z4,a,cp,f,ys,u4,hv,hcp,hyl,hlow,hrep,hsep⟩ R hR
 unfold Zht.L3t
 refine Zaq (fun hlt=>?_) (fun hge=>?_)
 ·have r4:=r.same S4
  obtain ⟨xs,hx1,hx2,hx3⟩:=nn.same S4
  have hgn:g < n1:=by omega
  have hgl:g < w.is.length:=by omega
  obtain ⟨ii,oi,hgx,ha1,hii,hr4,_⟩:=Row.el Zgu hx1 (by rw [hx2.1]; omega) hgn (by omega)
  have hI:=hx2.2 g xs[g] w.is[g] (List.getElem?_eq_getElem hgx) (List.getElem?_eq_getElem hgl)
  have hne:=hx3 _ (List.getElem_mem hgx)
  have hIl:=hI.len
  obtain ⟨e1',e2',e3'⟩:=id hI
  generalize hX:xs[g]=X at *
  rw [eN] at hr4
  simp only [ha1,Zbd,Int.toNat_natCast,hr4,Zar,Zah,Zal,Zaj,Zae]
  simp only [Zbh]
  rw [← ha1,Zym]
  refine ⟨by omega,?_⟩
  simp only [Zam]
  generalize hh5:g4 ++ [Zbv.cells Zaa [.str X.c,.str X.t,.slice X.a X.n X.cp X.e] false]=g5
  have s5:Zbb g4.length g4 g5:=by rw [← hh5]; exact Zan
  have l5:g5.length=g4.length + 1:=by rw [← hh5]; simp
  have t5:g5[g4.length]?=some (.cells Zaa [.str X.c,.str X.t,.slice X.a X.n X.cp X.e] false):=by rw [← hh5]; simp
  simp only [Zba t5,Nat.zero_add,List.getElem?_cons_zero,List.getElem?_cons_succ,Zae]
  have hbi:=b.is _ (List.getElem_mem hgl)
  refine (Zvf (l:=w.is[g].2) (e3'.same' s5) (fun e=>absurd e hne) (by omega)).mono ?_
  rintro v g6 ⟨a6,c6,e6,rfl,v6,s6,_⟩
  have t6:=s6.get t5 (Own.lt t5)
  have l6:=s6.le
  simp only [Zae]
  rw [Zay t6 (by simp)]
  simp only [Zam,Zbj,List.take_succ_cons,List.take_zero,List.length_cons,List.length_nil,List.drop_succ_cons,List.drop_zero,List.drop_nil,List.cons_append,List.nil_append,List.append_nil,Nat.zero_add]
  generalize hh7:g6.set g4.length (Zbv.cells Zaa [.str X.c,.str X.t,.slice a6 X.n c6 e6] false)=g7
  have l7:g7.length=g6.length:=by rw [← hh7]; simp
  have t7:g7[g4.length]?=some (.cells Zaa [.str X.c,.str X.t,.slice a6 X.n c6 e6] false):=by rw [← hh7]; exact Zbm t6
  have k7:∀ j,j≠g4.length→g7[j]?=g6[j]?:=fun j hj=>by rw [← hh7,Zbn (fun e=>hj e.symm)]
  have old7:∀ j,j < g4.length→g7[j]?=g4[j]?:=fun j hj=>by rw [k7 j (by omega),s6.eq j (by omega),s5.eq j hj]
  have u7:g7[g2.length]?=some (.cells Zac [.slice (some (q0,0)) n0 d0 f0,.slice a g cp f] false):=by rw [old7 _ (Own.lt u4)]; exact u4
  simp only [Zba u7,Zdt t7,List.getElem?_cons_zero,List.getElem?_cons_succ,Zae,Zar,Zah,Zal,Zaj]
  have hv7:Vec Zaa g7 a g cp (Zdf eN ys):=hv.agree fun j hj=>old7 j (by subst hj; exact hv.lt)
  refine hv7.pushN Zdb Zes Zet Zer (by rw [Zbl Zgu,hyl]) rfl (by omega) rfl (by omega) (fun g8 l8 i8 k8=>?_)
  simp only [Zae]
  have hal:∀ j,a=some (j,0)→j < g4.length:=fun j hj=>by subst hj; exact hv.lt
  have u8:g8[g2.length]?=some (.cells Zac [.slice (some (q0,0)) n0 d0 f0,.slice a g cp f] false):=by rw [k8 _ (Own.lt u7) fun i hi=>by have:=hlow i hi; omega]; exact u7
  rw [Zay u8 (by simp)]
  simp only [Zam,Zbj,List.take_succ_cons,List.take_zero,List.length_cons,List.length_nil,List.drop_succ_cons,List.drop_zero,List.drop_nil,List.cons_append,List.nil_append,List.append_nil,Nat.zero_add]
  rw [Zcp (by omega)]
  have old9:∀ j,j < g4.length→j≠g2.length→(∀ i,a=some (i,0)→j≠i)→(g8.set g2.length (Zbv.cells Zac [.slice (some (q0,0)) n0 d0 f0,.slice (some (g7.length + 1,0)) (g + 1) (g + 1) false] false))[j]?=g4[j]?:=fun j hj h1 h2=>by
   rw [Zbn (fun e=>h1 e.symm),k8 j (by omega) h2,old7 j hj]
  refine hR (g + 1) _ _ (by omega) ⟨rfl,by omega,⟨by simp; have:=S4.le; omega,fun j hj=>?_⟩,by simp; omega,?_,?_,_,_,_,ys ++ [⟨X.c,X.t,a6,X.n,c6,e6⟩],Zbm u8,Vec.mk1 ?_,fun _=>rfl,by simp [hyl],fun j hj=>by cases hj; omega,?_,?_⟩
  ·rw [old9 j (by have:=S4.le; omega) (by have:=S2.le; omega) (fun i hi=>by have:=hlow i hi; have:=S3.le; omega)]; exact S4.eq j hj
  ·rw [old9 q0 (Own.lt o4) (by omega) (fun i hi=>by have:=hlow i hi; omega)]; exact o4
  ·rw [old9 g0.length (Own.lt z4) (by omega) (fun i hi=>by have:=hlow i hi; omega)]; exact z4
  ·rw [Zbn (by omega),i8]; simp [eN]
  ·intro k x i hx hi
   by_cases hk:k < g
   ·rw [List.getElem?_append_left (by omega)] at hx
    obtain ⟨p1,p2,p3,p4⟩:=hrep k x i hx hi
    refine ⟨p1,p2,p3,p4.imp id fun ⟨j,ha,hbj,hc⟩=>⟨j,ha,hbj,?_⟩⟩
    rw [old9 j (Own.lt hc) (by omega) (fun i hi=>by
     subst hi
     rcases hv with ⟨e,_⟩ | ⟨j',hj',hjj⟩
     ·cases e
     ·cases hj'; exact Ygd hc hjj (by decide))]
    exact hc
   ·have hkg:k=g:=by have:=(List.getElem?_eq_some_iff.1 hx).1; simp at this; omega
    subst hkg
    rw [List.getElem?_append_right (by omega)] at hx
    simp [hyl] at hx
    subst hx
    rw [List.getElem?_eq_getElem hgl] at hi
    cases hi
    refine ⟨e1',e2',?_⟩
    have fr:=v6.vec.fresh (b:=g5.length) v6.len.symm v6.low
    refine ⟨fr.1,fr.2.imp id fun ⟨j,ha,hbj,hc⟩=>⟨j,ha,by omega,?_⟩⟩
    have hjl:=Own.lt hc
    rw [Zbn (by omega),k8 j (by omega) (fun i hi=>by have:=hal i hi; omega),k7 j (by omega)]
    exact hc
  ·have old:∀ (k:Nat) (x:EI),k < g→ys[k]?=some x→x.n≠0→X.n≠0→x.a≠a6:=by
    intro k x hk hx h0 h2' he
    obtain ⟨_,_,p3⟩:=hrep k x w.is[k] hx (List.getElem?_eq_getElem (by omega))
    have fr:=v6.vec.fresh (b:=g5.length) v6.len.symm v6.low
    rcases p3.2 with p3 | ⟨j,ha,_,hc⟩
    ·exact h0 p3
    ·rcases fr.2 with f3' | ⟨j',ha',hb',_⟩
     ·exact h2' f3'
     ·rw [ha,ha'] at he; cases he; have:=Own.lt hc; omega
   intro j k x y hjk hx hy' h0 h0'
   by_cases hj:j < g <;> by_cases hk:k < g
   ·rw [List.getElem?_append_left (by omega)] at hx hy'
    exact hsep j k x y hjk hx hy' h0 h0'
   ·have hkg:k=g:=by have:=(List.getElem?_eq_some_iff.1 hy').1; simp at this; omega
    subst hkg
    rw [List.getElem?_append_left (by omega)] at hx
    rw [List.getElem?_append_right (by omega)] at hy'
    simp [hyl] at hy'
    subst hy'
    exact old j x hj hx h0 h0'
   ·have hjg:j=g:=by have:=(List.getElem?_eq_some_iff.1 hx).1; simp at this; omega
    subst hjg
    rw [List.getElem?_append_left (by omega)] at hy'
    rw [List.getElem?_append_right (by omega)] at hx
    simp [hyl] at hx
    subst hx
    exact fun he=>old k y hk hy' h0' h0 he.symm
   ·have:=(List.getElem?_eq_some_iff.1 hx).1
    have:=(List.getElem?_eq_some_iff.1 hy').1
    simp at *
    omega
 ·have hgn:g=n1:=by omega
  subst hgn
  apply Zht.A3x0i
  rw [Zck u4]
  simp only [Zar,Zah,Zal,Zae]
  rw [Zay z4 (by simp)]
  simp only [Zam,Zbj,List.take_zero,List.length_cons,List.length_nil,List.drop_succ_cons,List.drop_zero,List.drop_nil,List.cons_append,List.nil_append,List.append_nil,Nat.zero_add]
  rw [Zck (Zbm z4)]
  simp only [Zar,Zah,Zal,Zae]
  have k9:∀ j,j≠g0.length→(g4.set g0.length (Zbv.cells Zac [.slice (some (q0,0)) n0 d0 f0,.slice a g cp f] false))[j]?=g4[j]?:=fun j hj=>Zbn (fun e=>hj e.symm)
  have lS1:=S1.le
  have lS3:=S3.le
  refine ⟨q0,d0,f0,a,cp,f,ys,rfl,hd0,⟨by simp; exact S4.le,fun j hj=>by rw [k9 j (by omega)]; exact S4.eq j hj⟩,by omega,fun j hj=>by have:=hlow j hj; omega,by rw [k9 q0 (by omega)]; exact o4,hv.agree fun j hj=>k9 j (by have:=hlow j hj; omega),hyl,fun k x i hx hi=>?_,hsep⟩
  obtain ⟨p1,p2,p3,p4⟩:=hrep k x i hx hi
  exact ⟨p1,p2,p3,p4.imp id fun ⟨j,ha,hbj,hc⟩=>⟨j,ha,by omega,by rw [k9 j (by omega)]; exact hc⟩⟩
def wiW (w:Wd) (i:Ins):Wd:=⟨w.cs,w.is ++ [i]⟩
noncomputable def Zrm (w:Wd) (i:Ins):Bool:=Zeh w && Zeh (wiW w i)
noncomputable def wiR (w:Wd) (i:Ins):Wd:=if Zrm w i then wiW w i else noW
theorem Ykd {w:Wd} {i:Ins} (b:WB w) (hi:i.1.1.length≤1048576∧i.1.2.length≤1048576∧i.2.length≤1048576∧∀ p∈i.2,p.1.length≤1048576∧p.2.length≤1048576):WB1 (wiW w i):=by
 refine ⟨b.lc,by have:=b.li; simp [wiW]; omega,b.cs,fun j hj=>?_⟩
 rcases List.mem_append.1 hj with hj | hj
 ·exact b.is j hj
 ·simp at hj; subst hj; exact hi
theorem Zyr {w:Wd} {i:Ins} (b:WB1 (wiW w i)):WB (wiR w i):=by
 unfold wiR; split
 ·rename_i hk
  unfold Zrm Zeh at hk
  simp only [Bool.and_eq_true,decide_eq_true_eq] at hk
  exact ⟨b.lc,by have:=hk.2.1.2; omega,b.cs,b.is⟩
 ·exact Yke
def WiQ (w:Wd) (i:Ins) (h:Zab) (v:Zai) (h':Zab):Prop:=Zbb h.length h h'∧∃ b0 m0 d0 f0 b1 m1 d1 f1 ys,v=.tup [.agg [.slice b0 m0 d0 f0,.slice b1 m1 d1 f1],.bool (Zrm w i)]∧Zsc h.length h' b0 m0 b1 m1 ys (wiR w i)∧m0≤d0∧m1≤d1
theorem Zsc.low {b b':Nat} {h:Zab} {a0 a1:Pt} {n0 n1:Nat} {xs:List EI} {w:Wd} (f:Zsc b h a0 n0 a1 n1 xs w) (hb:b'≤b):Zsc b' h a0 n0 a1 n1 xs w:=
 ⟨f.cls.low hb,f.ins.imp id fun ⟨i,tl,h1,h2,h3⟩=>⟨i,tl,h1,by omega,h3⟩,f.len,f.wl,fun k x i hx hi=>⟨(f.need k x i hx hi).1,(f.need k x i hx hi).2.1,(f.need k x i hx hi).2.2.low hb⟩,f.sep⟩
theorem Zfz {h:Zab} {a0 a1 ai:Pt} {n0 c0 n1 c1 ni ci:Nat} {e0 e1 ei:Bool} {w:Wd} {i:Ins} (r:Zip h a0 n0 c0 a1 n1 c1 w) (nn:NNs h a1 n1 w) (b:WB w) (bi:WB1 (wiW w i)) (h0:a0≠none) (ri:Row h.length h ai (ni * 2) (Zdf eP i.2)) (hai:ai≠none) (hni:ni≤1048576) :
  Zag pg Zch [.agg [.slice a0 n0 c0 e0,.slice a1 n1 c1 e1],.agg [.str i.1.1,.str i.1.2,.slice ai ni ci ei]] h (WiQ w i h):=by
 have hl0:=r.len0
 have hl1:=r.len1
 have hli:=b.li
 apply Zhf.call
 simp only [Zbh]
 generalize hh0:h ++ [Zbv.cells Zac [.slice a0 n0 c0 e0,.slice a1 n1 c1 e1] false]=g0
 generalize hh1:g0 ++ [Zbv.cells Zaa [.str i.1.1,.str i.1.2,.slice ai ni ci ei] false]=g1
 generalize hh2:g1 ++ [Zbv.cells Zac [.slice none 0 0 true,.slice none 0 0 true] false]=g2
 have s0:Zbb h.length h g0:=by rw [← hh0]; exact Zan
 have s1:Zbb g0.length g0 g1:=by rw [← hh1]; exact Zan
 have s2:Zbb g1.length g1 g2:=by rw [← hh2]; exact Zan
 have l0:g0.length=h.length + 1:=by rw [← hh0]; simp
 have l1:g1.length=h.length + 2:=by rw [← hh1]; simp [l0]
 have l2:g2.length=h.length + 3:=by rw [← hh2]; simp [l1]
 have w0:g0[h.length]?=some (Zna a0 n0 c0 e0 a1 n1 c1 e1):=by rw [← hh0]; simp [Zna]
 have w2:=s2.get (s1.get w0 (by omega)) (by omega)
 have x1:g1[g0.length]?=some (.cells Zaa [.str i.1.1,.str i.1.2,.slice ai ni ci ei] false):=by rw [← hh1]; simp
 have x2:=s2.get x1 (by omega)
 have z2:g2[g1.length]?=some (.cells Zac [.slice none 0 0 true,.slice none 0 0 true] false):=by rw [← hh2]; simp
 have S2:=(s0.cat s1).cat s2
 rw [Yca w2]
 simp only [Zar,Zah,Zal,Zae]
 refine (Zyy (r.same S2) (nn.same S2) b h0).mono ?_
 rintro v g3 ⟨q0,d0,f0,p1,d1,f1,ys,rfl,hd0,s3,hq0,hp1,o3,v3,hyl,hrep,hsep⟩
 have l3:=s3.le
 have w3:=s3.get w2 (by omega)
 have x3:=s3.get x2 (by omega)
 have z3':=s3.get z2 (by omega)
 have hq0l:=Own.lt o3
 simp only [Zcj,Zah,Zal,Zae]
 rw [Znm]
 simp only [Zam]
 generalize hh4:g3 ++ [Zbv.cells Zac [.slice (some (q0,0)) n0 d0 f0,.slice p1 n1 d1 f1] false]=g4
 have s4:Zbb g3.length g3 g4:=by rw [← hh4]; exact Zan
 have l4:g4.length=g3.length + 1:=by rw [← hh4]; simp
 have u4:g4[g3.length]?=some (.cells Zac [.slice (some (q0,0)) n0 d0 f0,.slice p1 n1 d1 f1] false):=by rw [← hh4]; simp
 have w4:=s4.get w3 (by omega)
 have x4:=s4.get x3 (by omega)
 have z4:=s4.get z3' (by omega)
 have S4:=(S2.cat s3).cat s4
 simp only [Zba x4,Nat.zero_add,List.getElem?_cons_succ,List.getElem?_cons_zero,Zae]
 refine (Zvf (l:=i.2) (ri.same' S4) (fun e=>absurd e hai) hni).mono ?_
 rintro v g5 ⟨a5,c5,e5,rfl,v5,s5,_⟩
 have l5:=s5.le
 have w5:=s5.get w4 (by omega)
 have x5:=s5.get x4 (by omega)
 have z5:=s5.get z4 (by omega)
 have u5:=s5.get u4 (by omega)
 have o5:=s5.get (s4.get o3 hq0l) (by omega)
 simp only [Zae]
 rw [Zay x5 (by simp)]
 simp only [Zam,Zbj,List.take_succ_cons,List.take_zero,List.length_cons,List.length_nil,List.drop_succ_cons,List.drop_zero,List.drop_nil,List.cons_append,List.nil_append,List.append_nil,Nat.zero_add]
 generalize hh6:g5.set g0.length (Zbv.cells Zaa [.str i.1.1,.str i.1.2,.slice a5 ni c5 e5] false)=g6
 have l6:g6.length=g5.length:=by rw [← hh6]; simp
 have k6:∀ j,j≠g0.length→g6[j]?=g5[j]?:=fun j hj=>by rw [← hh6,Zbn (fun e=>hj e.symm)]
 have x6:g6[g0.length]?=some (.cells Zaa [.str i.1.1,.str i.1.2,.slice a5 ni c5 e5] false):=by rw [← hh6]; exact Zbm x5
 have u6:g6[g3.length]?=some (.cells Zac [.slice (some (q0,0)) n0 d0 f0,.slice p1 n1 d1 f1] false):=by rw [k6 _ (by omega)]; exact u5
 simp only [Zba u6,Zdt x6,List.getElem?_cons_succ,List.getElem?_cons_zero,Zae,Zar,Zah,Zal,Zaj]
 have v6:Vec Zaa g6 p1 n1 d1 (Zdf eN ys):=(v3.agree fun j hj=>by
  have hjl:j < g3.length:=by subst hj; exact v3.lt
  rw [k6 j (by have:=(hp1 j hj).1; omega),s5.eq j (by omega),s4.eq j hjl])
 refine v6.pushN Zdb Zes Zet Zer (by rw [Zbl Zgu,hyl]) rfl (by omega) rfl (by omega) (fun g8 l8 i8 k8=>?_)
 simp only [Zae]
 have keep8:∀ j,j < g6.length→(∀ m,p1=some (m,0)→j≠m)→g8[j]?=g6[j]?:=fun j hj hne=>k8 j hj hne
 have u8:g8[g3.length]?=some (.cells Zac [.slice (some (q0,0)) n0 d0 f0,.slice p1 n1 d1 f1] false):=by rw [k8 _ (by omega) fun m hm=>by have:m < g3.length:=by { subst hm; exact v3.lt }; omega]; exact u6
 rw [Zay u8 (by simp)]
 simp only [Zam,Zbj,List.take_succ_cons,List.take_zero,List.length_cons,List.length_nil,List.drop_succ_cons,List.drop_zero,List.drop_nil,List.cons_append,List.nil_append,List.append_nil,Nat.zero_add]
 generalize hh9:g8.set g3.length (Zbv.cells Zac [.slice (some (q0,0)) n0 d0 f0,.slice (some (g6.length + 1,0)) (n1 + 1) (n1 + 1) false] false)=g9
 have l9:g9.length=g8.length:=by rw [← hh9]; simp
 have k9:∀ j,j < g5.length→j≠g0.length→j≠g3.length→(∀ m,p1=some (m,0)→j≠m)→g9[j]?=g5[j]?:=fun j hj h1 h2 h3=>by rw [← hh9,Zbn (fun e=>h2 e.symm),k8 j (by omega) h3,k6 j h1]
 have hlow:∀ m,p1=some (m,0)→g2.length≤m∧m < g3.length:=fun m hm=>⟨(hp1 m hm).1,by subst hm; exact v3.lt⟩
 have w9:g9[h.length]?=some (Zna a0 n0 c0 e0 a1 n1 c1 e1):=by rw [k9 _ (by omega) (by omega) (by omega) (fun m hm=>by have:=hlow m hm; omega)]; exact w5
 have z9:g9[g1.length]?=some (.cells Zac [.slice none 0 0 true,.slice none 0 0 true] false):=by rw [k9 _ (by omega) (by omega) (by omega) (fun m hm=>by have:=hlow m hm; omega)]; exact z5
 have u9:g9[g3.length]?=some (.cells Zac [.slice (some (q0,0)) n0 d0 f0,.slice (some (g6.length + 1,0)) (n1 + 1) (n1 + 1) false] false):=by rw [← hh9]; exact Zbm u8
 have S9:Zbb h.length h g9:=⟨by omega,fun j hj=>by rw [k9 j (by omega) (by omega) (by omega) (fun m hm=>by have:=hlow m hm; omega),s5.eq j (by omega)]; exact S4.eq j hj⟩
 have fr:=v5.vec.fresh (b:=g4.length) v5.len.symm v5.low
 have out9:Zsc g2.length g9 (some (q0,0)) n0 (some (g6.length + 1,0)) (n1 + 1) (ys ++ [⟨i.1.1,i.1.2,a5,ni,c5,e5⟩]) (wiW w i):=by
  have needOld:∀ (k:Nat) (x:EI) (ii:Ins),ys[k]?=some x→w.is[k]?=some ii→x.c=ii.1.1∧x.t=ii.1.2∧Zcd Zap eP g2.length g9 x.a x.n ii.2:=fun k x ii hx hi=>by
   obtain ⟨p1',p2',p3',p4'⟩:=hrep k x ii hx hi
   refine ⟨p1',p2',p3',p4'.imp id fun ⟨j,ha,hbj,hc⟩=>⟨j,ha,hbj,?_⟩⟩
   have hjl:=Own.lt hc
   rw [k9 j (by omega) (by omega) (by omega) (fun m hm=>by
    subst hm
    rcases v3 with ⟨e,_⟩ | ⟨j',hj',hjj⟩
    ·cases e
    ·cases hj'; exact Ygd hc hjj (by decide)),s5.eq j (by omega),s4.eq j hjl]
   exact hc
  have frN:Zcd Zap eP g2.length g9 a5 ni i.2:=⟨fr.1,fr.2.imp id fun ⟨j,ha,hbj,hc⟩=>⟨j,ha,by omega,by rw [k9 j (Own.lt hc) (by omega) (by omega) (fun m hm=>by have:=hlow m hm; omega)]; exact hc⟩⟩
  refine ⟨⟨hl0,.inr ⟨q0,rfl,hq0,?_⟩⟩,.inr ⟨g6.length + 1,[],rfl,by omega,?_⟩,by simp [hyl],by simp [wiW,hl1],fun k x ii hx hi=>?_,fun j k x y hjk hx hy hx0 hy0=>?_⟩
  ·rw [k9 q0 (by omega) (by omega) (by omega) (fun m hm=>fun e=>(hp1 m hm).2 e.symm)]; exact o5
  ·rw [← hh9,Zbn (by omega),i8,List.append_nil]; simp [eN]
  ·have hi':(w.is ++ [i])[k]?=some ii:=hi
   by_cases hk:k < n1
   ·rw [List.getElem?_append_left (by omega)] at hx hi'
    exact needOld k x ii hx hi'
   ·have hkg:k=n1:=by have:=(List.getElem?_eq_some_iff.1 hx).1; simp [hyl] at this; omega
    subst hkg
    rw [List.getElem?_append_right (by omega)] at hx hi'
    simp [hyl] at hx
    simp [hl1] at hi'
    subst hx; subst hi'
    exact ⟨rfl,rfl,frN⟩
  ·have old:∀ (k:Nat) (x:EI),k < n1→ys[k]?=some x→x.n≠0→ni≠0→x.a≠a5:=by
    intro k x hk hx h0 h2' he
    obtain ⟨_,_,p3⟩:=hrep k x w.is[k] hx (List.getElem?_eq_getElem (by omega))
    rcases p3.2 with p3 | ⟨j,ha,_,hc⟩
    ·exact h0 p3
    ·rcases fr.2 with f3' | ⟨j',ha',hb',_⟩
     ·exact h2' f3'
     ·rw [ha,ha'] at he; cases he; have:=Own.lt hc; omega
   by_cases hj:j < n1 <;> by_cases hk:k < n1
   ·rw [List.getElem?_append_left (by omega)] at hx hy
    exact hsep j k x y hjk hx hy hx0 hy0
   ·have hkg:k=n1:=by have:=(List.getElem?_eq_some_iff.1 hy).1; simp [hyl] at this; omega
    subst hkg
    rw [List.getElem?_append_left (by omega)] at hx
    rw [List.getElem?_append_right (by omega)] at hy
    simp [hyl] at hy
    subst hy
    exact old j x hj hx hx0 hy0
   ·have hjg:j=n1:=by have:=(List.getElem?_eq_some_iff.1 hx).1; simp [hyl] at this; omega
    subst hjg
    rw [List.getElem?_append_left (by omega)] at hy
    rw [List.getElem?_append_right (by omega)] at hx
    simp [hyl] at hx
    subst hx
    exact fun he=>old k y hk hy hy0 hx0 he.symm
   ·have:=(List.getElem?_eq_some_iff.1 hx).1
    have:=(List.getElem?_eq_some_iff.1 hy).1
    simp [hyl] at *
    omega
 rw [Yca w9]
 simp only [Zar,Zah,Zal,Zae]
 have fail:∀ g,Zbb g9.length g9 g→Zrm w i=false→Zbk (Zaw g (.ptr (some (List.length g1,0))) [.slice none 0 0 true,.slice none 0 0 true]) fun h_18=>Zca (Zax h_18 (.ptr (some (List.length g1,0))) 2) fun cs_19=>Zad cs_19 fun c_20 r_21=>xSl (some c_20) fun a_22 n_23 c_24 e_25=>Zad r_21 fun c_26 r_27=>xSl (some c_26) fun a_28 n_29 c_30 e_31=>Zbq r_27 (WiQ w i h (.tup [.agg [.slice a_22 n_23 c_24 e_25,.slice a_28 n_29 c_30 e_31],.bool false]) h_18):=by
  intro g sg hno
  have zg:=sg.get z9 (Own.lt z9)
  rw [Zay zg (by simp)]
  simp only [Zam,Zbj,List.take_zero,List.length_cons,List.length_nil,List.drop_succ_cons,List.drop_zero,List.drop_nil,List.cons_append,List.nil_append,List.append_nil,Nat.zero_add]
  rw [Zck (Zbm zg)]
  simp only [Zar,Zah,Zal,Zae]
  refine ⟨(S9.cat sg).set' (by omega),none,0,0,true,none,0,0,true,[],by rw [hno],?_,Nat.le_refl _,Nat.le_refl _⟩
  unfold wiR; rw [hno]; exact Yfz
 refine (Ztf (r.same S9) b).mono ?_
 rintro v ga ⟨rfl,sa⟩
 simp only [Zau]
 refine Zci (fun hw=>fail _ sa (by unfold Zrm; rw [hw]; rfl)) (fun hw=>?_)
 have ua:=sa.get u9 (Own.lt u9)
 rw [Zck ua]
 simp only [Zar,Zah,Zal,Zae]
 refine (Zrt ((out9.same sa).rep hd0 (Nat.le_refl _)) bi).mono ?_
 rintro v gb ⟨rfl,sb⟩
 simp only [Zau]
 refine Zci (fun hw2=>fail _ (sa.cat sb) (by unfold Zrm; rw [hw,hw2]; rfl)) (fun hw2=>?_)
 have hok:Zrm w i=true:=by unfold Zrm; rw [hw,hw2]; rfl
 apply Zhf.J6i
 have ub:=sb.get ua (Own.lt ua)
 have zb:=(sa.cat sb).get z9 (Own.lt z9)
 rw [Zck ub]
 simp only [Zar,Zah,Zal,Zae]
 rw [Zay zb (by simp)]
 simp only [Zam,Zbj,List.take_zero,List.length_cons,List.length_nil,List.drop_succ_cons,List.drop_zero,List.drop_nil,List.cons_append,List.nil_append,List.append_nil,Nat.zero_add]
 rw [Zck (Zbm zb)]
 simp only [Zar,Zah,Zal,Zae]
 refine ⟨((S9.cat sa).cat sb).set' (by omega),some (q0,0),n0,d0,f0,some (g6.length + 1,0),n1 + 1,n1 + 1,false,ys ++ [⟨i.1.1,i.1.2,a5,ni,c5,e5⟩],by rw [hok],?_,hd0,Nat.le_refl _⟩
 unfold wiR; rw [hok,if_pos rfl]
 exact (((out9.same sa).same sb).above (fun j hj hjl=>Zbn (by omega))).low (by omega)
end Go.Sim
