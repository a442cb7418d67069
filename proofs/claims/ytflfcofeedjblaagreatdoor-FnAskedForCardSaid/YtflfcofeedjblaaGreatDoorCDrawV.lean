/- A part of the proof of a statement of this seat: see the text that holds the theorem. No condition. -/
import Derived.Test.YtflfcofeedjblaaGreatDoorPTCInN
import Derived.Test.YtflfcofeedjblaaGreatDoorCSplitC
import Derived.Test.YtflfcofeedjblaaGreatDoorPTCDrawZ
set_option linter.unusedVariables false
set_option linter.unusedSimpArgs false
set_option linter.all false
set_option linter.unusedVariables false
set_option linter.unusedSimpArgs false
set_option maxRecDepth 20000
namespace Go.Sim
open Go Go.RowKit

def Xau (s:List Nat) (h:Zaa) (v:Zay) (h':Zaa):Prop:=Zbc h.length h h'∧∃ a0 n0 c0 e0 a1 n1 c1 e1 b,v=.tup [.agg [.slice a0 n0 c0 e0,.slice a1 n1 c1 e1],.bool b]∧Zkr h' a0 n0 c0 a1 n1 c1 (wdP s)
theorem Ywd {h:Zaa}:Zkr h none 0 0 none 0 0 Ytx:=⟨Row.nil,⟨[],Row.nil,rfl,by simp⟩,Nat.le_refl _,Nat.le_refl _⟩
theorem Yph {s:List Nat} {h h':Zaa} {z:Nat} {x y:Zay} {b:Bool} (S:Zbc h.length h h') (hz:h.length≤z) (hi:h'[z]?=some (.cells Zac [x,y] false)) (hn:wdP s=Ytx) :
  Zbt (Zbb h' (.ptr (some (z,0))) [.slice none 0 0 true,.slice none 0 0 true]) fun h_77=>Zcd (Zbe h_77 (.ptr (some (z,0))) 2) fun cs_78=>Zai cs_78 fun c_79 r_80=>xSl (some c_79) fun a_81 n_82 c_83 e_84=>Zai r_80 fun c_85 r_86=>xSl (some c_85) fun a_87 n_88 c_89 e_90=>Zbq r_86 (Xau s h (.tup [.agg [.slice a_81 n_82 c_83 e_84,.slice a_87 n_88 c_89 e_90],.bool b]) h_77):=by
 rw [Zbg hi (by simp)]
 simp only [Zas,putRow,List.take_zero,List.length_cons,List.length_nil,List.drop_succ_cons,List.drop_zero,List.drop_nil,List.cons_append,List.nil_append,List.append_nil,Nat.zero_add]
 rw [Zaz (Zce hi)]
 simp only [Zao,Zae,Zam,Zaj]
 exact ⟨S.set' hz,none,0,0,true,none,0,0,true,b,rfl,by rw [hn]; exact Ywd⟩
theorem Yue {h:Zaa} (s:List Nat) (hs:s.length≤900) (hb:∀ b∈s,b < 256):Zak pg Zjf [.str s] h (Xau s h):=by
 apply Zcu.call
 simp only [Zaw]
 generalize hh0:h ++ [Zcb.cells Zac [.slice none 0 0 true,.slice none 0 0 true] false]=h0
 have s0:Zbc h.length h h0:=by rw [← hh0]; exact Zal
 have z0:h0[h.length]?=some (.cells Zac [.slice none 0 0 true,.slice none 0 0 true] false):=by rw [← hh0]; simp
 have l0:h0.length=h.length + 1:=by rw [← hh0]; simp
 refine (Ydv (by omega)).mono ?_
 rintro v h2 ⟨s2,j,cpj,eL,rfl,hj,hrow,hcap⟩
 have hLl:=Zjr (c:=59) s
 have hmem:∀ p∈Zcy 59 s,p.length≤900:=fun p hp=>by have:=Zig hp; omega
 have hby:=Zjs (c:=59) hb
 have hW:wdP s=match ((Zcy 59 s).drop 1).mapM Ydw with | some l=>wdQ ⟨(Zcy 32 ((Zcy 59 s).headD [])).map Yfy,l⟩ | none=>Ytx:=rfl
 have hL0:0 < (Zcy 59 s).length:=by rw [Zlz]; omega
 generalize hL:Zcy 59 s=L at hrow hLl hmem hby hW hL0 hcap
 have S2:=s0.cat s2
 have z2:=s2.get z0 (Own.lt z0)
 have l2:=s2.le
 simp only [Zaj]
 generalize hh7:h2 ++ [Zcb.cells Zbj [] false]=h7
 have s7:Zbc h2.length h2 h7:=by rw [← hh7]; exact Zal
 have e7:h7[h2.length]?=some (.cells Zbj [] false):=by rw [← hh7]; simp
 have l7:h7.length=h2.length + 1:=by rw [← hh7]; simp
 generalize hh8:h7 ++ [Zcb.cells Zad [] false]=h8
 have s8:Zbc h7.length h7 h8:=by rw [← hh8]; exact Zal
 have i8:h8[h7.length]?=some (.cells Zad [] false):=by rw [← hh8]; simp
 have l8:h8.length=h7.length + 1:=by rw [← hh8]; simp
 generalize hh9:h8 ++ [Zcb.cells Zac [.slice none 0 0 true,.slice none 0 0 true] false]=h9
 have s9:Zbc h8.length h8 h9:=by rw [← hh9]; exact Zal
 have o9:h9[h8.length]?=some (.cells Zac [.slice none 0 0 true,.slice none 0 0 true] false):=by rw [← hh9]; simp
 have l9:h9.length=h8.length + 1:=by rw [← hh9]; simp
 rw [Zbg o9 (by simp)]
 simp only [Zas,putRow,List.take_zero,List.length_cons,List.length_nil,List.drop_succ_cons,List.drop_zero,List.drop_nil,List.cons_append,List.nil_append,List.append_nil,Nat.zero_add]
 have o10:=Zce o9 (x:=.cells Zac [.slice (some (h2.length,0)) 0 0 true,.slice (some (h7.length,0)) 0 0 true] false)
 have s10:Zbc h8.length h8 (h9.set h8.length (.cells Zac [.slice (some (h2.length,0)) 0 0 true,.slice (some (h7.length,0)) 0 0 true] false)):=s9.set' (Nat.le_refl _)
 generalize h9.set h8.length (.cells Zac [.slice (some (h2.length,0)) 0 0 true,.slice (some (h7.length,0)) 0 0 true] false)=h10 at o10 s10 ⊢
 have S210:=(s7.cat s8).cat s10
 have S10:=S2.cat S210
 have z10:=S210.get z2 (Own.lt z2)
 have e10:=(s8.cat s10).get e7 (Own.lt e7)
 have i10:=s10.get i8 (Own.lt i8)
 have r10:=S210.get hrow (Own.lt hrow)
 have hjl:=Own.lt hrow
 obtain ⟨ii,oo,hgl,hai,hii,hc0⟩:=Row.el1 Zna ((Vec.mk1 (n:=0) (c:=0) r10).row (m:=L.length) (by rw [Zat Zna]; omega)) hL0
 cases hai
 refine ⟨⟨by omega,by omega⟩,?_⟩
 have hc0':Zag h10 (.ptr (some (j,0)))=some (.str L[0]):=by simpa [eS] using hc0
 simp only [Zau,show Int.toNat 0=0 from rfl,Nat.zero_mul,Nat.add_zero,hc0',Zah]
 have hhd:L.headD []=L[0]:=by cases L with | nil=>simp at hL0 | cons a r=>rfl
 have hm0:=hmem _ (List.getElem_mem hL0)
 have hb0:=hby _ (List.getElem_mem hL0)
 rw [hhd] at hW
 generalize L[0]=p0 at hm0 hb0 hW ⊢
 refine (Ydv (by omega)).mono ?_
 rintro v h15 ⟨s15,j2,cpj2,e2,rfl,hj2,hrow2,_⟩
 have hPl:=Zjr (c:=32) p0
 have hmem2:∀ p∈Zcy 32 p0,p.length≤900:=fun p hp=>by have:=Zig hp; omega
 have hby2:=Zjs (c:=32) hb0
 generalize hP:Zcy 32 p0=P at hrow2 hPl hmem2 hby2 hW
 simp only [Zaj]
 have S15:=S10.cat s15
 have z15:=s15.get z10 (Own.lt z10)
 have o15:=s15.get o10 (Own.lt o10)
 have e15:=s15.get e10 (Own.lt e10)
 have i15:=s15.get i10 (Own.lt i10)
 have r15:=s15.get r10 (Own.lt r10)
 have hz8:h.length≠h8.length:=by omega
 have l10:=s10.le
 have hj2l:=Own.lt hrow2
 refine Zcu.L4ind (J:=fun (g:Nat) x23 h'=>x23=(g:Int)∧g≤P.length∧Zbc h.length h h'∧h'[h.length]?=some (.cells Zac [.slice none 0 0 true,.slice none 0 0 true] false)∧h'[j]?=some (.cells Zbi (Zdb eS L) false)∧h'[j2]?=some (.cells Zbi (Zdb eS P) false) ∧
   h'[h7.length]?=some (.cells Zad [] false)∧∃ (q c:Nat) (e:Bool),h'[h8.length]?=some (.cells Zac [.slice (some (q,0)) g c e,.slice (some (h7.length,0)) 0 0 true] false)∧h'[q]?=some (.cells Zbj (Zdb eP ((P.take g).map Yfy)) false)∧h.length≤q∧g≤c)
  (m:=fun g=>P.length - g) (hr:=?_) (g:=0) (hj:=⟨rfl,by omega,S15,z15,r15,hrow2,i15,h2.length,0,true,o15,by simpa using e15,by omega,Nat.le_refl _⟩) ..
 rintro g x23 h' ⟨rfl,hg,hS,hz,hr1,hr2,hi,q,c,e,ho,hq,hqb,hgc⟩ R hR
 have hlS:=hS.le
 unfold Zcu.L4t
 refine Zar (fun hlt=>?_) (fun hge=>?_)
 ·have hlt':g < P.length:=by omega
  obtain ⟨ii,oo,hgl,hai,hii,hc⟩:=Row.el1 Zna ((Vec.mk1 (n:=0) (c:=0) hr2).row (m:=P.length) (by rw [Zat Zna]; omega)) hlt'
  cases hai
  simp only [Zau,Int.toNat_natCast,hc,eS,List.getElem?_cons_zero,Zah,Zaw]
  have hpm:=hmem2 _ (List.getElem_mem hgl)
  have hset:∀ x,Yfy P[g]=x→(P.take (g + 1)).map Yfy=(P.take g).map Yfy ++ [x]:=fun x hx=>by rw [List.take_succ_eq_append_getElem hgl,List.map_append]; simp [hx]
  generalize P[g]=p at hpm hset ⊢
  refine ⟨by omega,?_⟩
  generalize hk1:h' ++ [Zcb.cells Zbj [.str [],.str []] false]=k1
  have t1:Zbc h'.length h' k1:=by rw [← hk1]; exact Zal
  have b1:k1[h'.length]?=some (.cells Zbj [.str [],.str []] false):=by rw [← hk1]; simp
  have tl1:k1.length=h'.length + 1:=by rw [← hk1]; simp
  rw [Zbg b1 (by simp)]
  simp only [Zas,putRow,List.take_zero,List.length_cons,List.length_nil,List.drop_succ_cons,List.drop_zero,List.drop_nil,List.cons_append,List.nil_append,List.append_nil,Nat.zero_add]
  have b2:=Zce b1 (x:=.cells Zbj [.str p,.str []] false)
  have t2:Zbc h'.length h' (k1.set h'.length (.cells Zbj [.str p,.str []] false)):=t1.set' (Nat.le_refl _)
  have tl2:(k1.set h'.length (.cells Zbj [.str p,.str []] false)).length=k1.length:=by simp
  generalize k1.set h'.length (.cells Zbj [.str p,.str []] false)=k2 at b2 t2 tl2 ⊢
  have hol:=Own.lt ho
  have hql:=Own.lt hq
  -- a class of its own, appended
  have fin:∀ (G:Zaa) (x:Nd),G.length=k2.length→Zbc h'.length h' G→G[h'.length]?=some (.cells Zbj [.str x.1,.str x.2] false)→Yfy p=x→Zcu.J9 (Xau s h) R h8.length 0 h'.length 0 (g:Int) ((P.length:Nat):Int) (some (j2,0)) P.length cpj2 e2 (some (j,0)) L.length cpj eL h.length 0 G:=by
   intro G x hGl tG bG hx
   apply Zcu.J9i
   have oG:=tG.get ho hol
   have qG:=tG.get hq hql
   have zG:=tG.get hz (Own.lt hz)
   have r1G:=tG.get hr1 (Own.lt hr1)
   have r2G:=tG.get hr2 (Own.lt hr2)
   have iG:=tG.get hi (Own.lt hi)
   simp only [Zan oG,Nat.zero_add,List.getElem?_cons_zero,Zaj,Zaw]
   rw [Zaz bG]
   simp only [Zao,Zae,Zam,Zah]
   refine (Vec.mk1 (n:=g) (c:=c) qG).pushN (sz:=2) Yab Ymh Yml Ylr (by rw [Zat Zcr,List.length_map,List.length_take]; omega) rfl (by omega) rfl (by omega) (fun k5 hl5 hi5 hk5=>?_)
   have keep:∀ {x:Nat} {y:Zcb},G[x]?=some y→x≠q→k5[x]?=some y:=fun {x y} hx hne=>by rw [hk5 x (Own.lt hx) (fun i hi=>by cases hi; exact hne)]; exact hx
   have o5:=keep oG (Zgr oG qG (by decide))
   have z5:=keep zG (Zgr zG qG (by decide))
   have r15:=keep r1G (Zgr r1G qG (by decide))
   have r25:=keep r2G (Zgr r2G qG (by decide))
   have i5:=keep iG (Zgr iG qG (by decide))
   simp only [Zaj]
   rw [Zbg o5 (by simp)]
   simp only [Zas,putRow,List.take_zero,List.length_cons,List.length_nil,List.drop_succ_cons,List.drop_zero,List.drop_nil,List.cons_append,List.nil_append,List.append_nil]
   apply Zcu.J10i
   rw [Zbm (by omega)]
   have:=tG.le
   refine hR (g + 1) _ _ (by omega) ⟨rfl,by omega,?_,by rw [Zbw (Ne.symm hz8)]; exact z5,by rw [Zbw (Zgr o5 r15 (by decide))]; exact r15,by rw [Zbw (Zgr o5 r25 (by decide))]; exact r25,by rw [Zbw (Zgr o5 i5 (by decide))]; exact i5,G.length + 1,g + 1,false,Zce o5,?_,by omega,Nat.le_refl _⟩
   ·exact Zbc.set' ⟨by omega,fun x hx=>by rw [hk5 x (by omega) (fun i hi=>by cases hi; omega),tG.eq x (by omega)]; exact hS.eq x hx⟩ (by omega)
   ·rw [Zbw (by omega),hset _ hx]; simpa [eP] using hi5
  refine Zar (fun h2=>?_) (fun h2=>?_)
  ·match p,h2,hpm,fin,b2 with
   | x0 :: x1 :: x2 :: r,h2,hpm,fin,b2=>
    refine ⟨⟨by omega,by simp; omega⟩,?_⟩
    simp only [show Int.toNat 1=1 from rfl,List.getD_cons_succ,List.getD_cons_zero]
    refine Zcw (fun he=>?_) (fun hne=>?_)
    ·have hx1:x1=60:=by omega
     subst hx1
     refine ⟨⟨by omega,by omega,by simp; omega⟩,⟨by omega,by simp; omega,by omega⟩,?_⟩
     rw [Yhw,Yev (s:=x0 :: 60 :: x2 :: r) (z:=2) (k:=2) rfl (by simp)]
     simp only [List.drop_succ_cons,List.drop_zero]
     rw [Zbg b2 (by simp)]
     simp only [Zas,putRow,List.take_zero,List.length_cons,List.length_nil,List.drop_succ_cons,List.drop_zero,List.drop_nil,List.cons_append,List.nil_append,List.append_nil,Nat.zero_add]
     exact fin _ ([x0],x2 :: r) (by simp) (t2.set' (Nat.le_refl _)) (Zce b2) (by simp [Yfy])
    ·have hx1:¬ x1=60:=by omega
     exact fin _ (x0 :: x1 :: x2 :: r,[]) rfl t2 b2 (by simp [Yfy,hx1])
   | [],h2,_,_,_=>simp at h2
   | [_],h2,_,_,_=>simp at h2
   | [_,_],h2,_,_,_=>simp at h2
  ·refine fin _ (p,[]) rfl t2 b2 ?_
   match p,h2 with
   | [],_=>rfl
   | [_],_=>rfl
   | [_,_],_=>rfl
   | x0 :: x1 :: x2 :: r,h2=>simp at h2; omega
 ·apply Zcu.A4x0i
  have hgP:g=P.length:=by omega
  subst hgP
  rw [List.take_length] at hq
  simp only [Zhw,Zlv]
  refine ⟨by omega,?_⟩
  -- the pieces behind the first one
  have next:∀ (a:Pt) (n c':Nat) (e':Bool),n=L.length - 1→Row h'.length h' a n (Zdb eS (L.drop 1))→(∀ i o,a=some (i,o)→i=j)→Zcu.L12 (Xau s h) h.length 0 h8.length 0 a n c' e' ((n:Nat):Int) 0 h':=by
   intro a n c' e' hn hrw haj
   have hdl:(L.drop 1).length=n:=by rw [List.length_drop]; omega
   have hmem3:∀ p∈L.drop 1,p.length≤900:=fun p hp=>hmem p (List.mem_of_mem_drop hp)
   have hby3:∀ p∈L.drop 1,∀ b∈p,b < 256:=fun p hp=>hby p (List.mem_of_mem_drop hp)
   generalize L.drop 1=D at hW hrw hdl hmem3 hby3
   refine Zcu.L12ind (J:=fun (g:Nat) x52 k=>x52=(g:Int)∧g≤n∧Zbc h.length h k∧k[h.length]?=some (.cells Zac [.slice none 0 0 true,.slice none 0 0 true] false)∧k[j]?=some (.cells Zbi (Zdb eS L) false)∧Row k.length k a n (Zdb eS D)∧k[q]?=some (.cells Zbj (Zdb eP (P.map Yfy)) false) ∧
     ∃ (l:List Ins) (ys:List EI) (q1 c1:Nat) (e1:Bool),(D.take g).mapM Ydw=some l∧l.length=g∧ys.length=g∧k[h8.length]?=some (.cells Zac [.slice (some (q,0)) P.length c e,.slice (some (q1,0)) g c1 e1] false)∧k[q1]?=some (.cells Zad (Zdb eN ys) false)∧h.length≤q1∧g≤c1 ∧
      ∀ (m:Nat) (x:EI) (i:Ins),ys[m]?=some x→l[m]?=some i→x.c=i.1.1∧x.t=i.1.2∧Zds Zab eP h.length k x.a x.n i.2)
    (m:=fun g=>n - g) (hr:=?_) (g:=0) (hj:=⟨rfl,by omega,hS,hz,hr1,hrw,hq,[],[],h7.length,0,true,by simp,rfl,rfl,ho,hi,by omega,Nat.le_refl _,by simp⟩) ..
   rintro g x52 k ⟨rfl,hg,kS,kz,kj,krw,kq,l,ys,q1,c1,e1,hl,hll,hyl,ko,kq1,hq1b,hgc1,hrep⟩ R2 hR2
   have kle:=kS.le
   have hkol:=Own.lt ko
   unfold Zcu.L12t
   refine Zar (fun hlt=>?_) (fun hge=>?_)
   ·obtain ⟨ii,oo,hgl,hai,hii,hc⟩:=Row.el1 Zna krw (k:=g) (by omega)
    obtain rfl:=haj _ _ hai
    subst hai
    simp only [Zau,Int.toNat_natCast,hc,eS,List.getElem?_cons_zero,Zah]
    refine ⟨by omega,(Zyp D[g] (by have:=hmem3 _ (List.getElem_mem hgl); omega) (hby3 _ (List.getElem_mem hgl))).mono ?_⟩
    rintro v k2 ⟨t2,hres⟩
    have hstep:(D.take (g + 1)).mapM Ydw=(Ydw D[g]).map fun y=>l ++ [y]:=by rw [List.take_succ_eq_append_getElem hgl,Ygi,hl]; rfl
    have tl2:=t2.le
    have T2:=kS.cat t2
    have kz2:=t2.get kz (Own.lt kz)
    rcases hres with ⟨i,na,nc,ne,hi',rfl,hnc,nf⟩ | ⟨hi',rfl⟩
    ·simp only [Zco,Zae,Zdt,Zah,Zaj,Zam,Zaq,Zaw]
     generalize hk3:k2 ++ [Zcb.cells Zad [.str [],.str [],.slice none 0 0 true] false]=k3
     have t3:Zbc k2.length k2 k3:=by rw [← hk3]; exact Zal
     have n3:k3[k2.length]?=some (.cells Zad [.str [],.str [],.slice none 0 0 true] false):=by rw [← hk3]; simp
     have tl3:k3.length=k2.length + 1:=by rw [← hk3]; simp
     rw [Zbg n3 (by simp)]
     simp only [Zas,putRow,List.take_zero,List.length_cons,List.length_nil,List.drop_succ_cons,List.drop_zero,List.drop_nil,List.cons_append,List.nil_append,List.append_nil,Nat.zero_add,Bool.not_true,Zca]
     have n4:=Zce n3 (x:=.cells Zad [.str i.1.1,.str i.1.2,.slice na i.2.length nc ne] false)
     have t4:Zbc k2.length k2 (k3.set k2.length (.cells Zad [.str i.1.1,.str i.1.2,.slice na i.2.length nc ne] false)):=t3.set' (Nat.le_refl _)
     have tl4:(k3.set k2.length (.cells Zad [.str i.1.1,.str i.1.2,.slice na i.2.length nc ne] false)).length=k3.length:=by simp
     generalize k3.set k2.length (.cells Zad [.str i.1.1,.str i.1.2,.slice na i.2.length nc ne] false)=k4 at n4 t4 tl4 ⊢
     have t24:=t2.cat t4
     have T4:=kS.cat t24
     have z4:=t24.get kz (Own.lt kz)
     have o4:=t24.get ko (Own.lt ko)
     have q14:=t24.get kq1 (Own.lt kq1)
     have j4:=t24.get kj (Own.lt kj)
     have q4:=t24.get kq (Own.lt kq)
     have nf4:Zds Zab eP h.length k4 na i.2.length i.2:=(nf.same t4).low kS.le
     simp only [Zan o4,Nat.zero_add,List.getElem?_cons_succ,List.getElem?_cons_zero,Zaj]
     rw [Zpb n4]
     simp only [Zao,Zae,Zam,Zah,Zaj]
     refine (Vec.mk1 (n:=g) (c:=c1) q14).pushN (sz:=3) Zrz Ych Yba Yby (by rw [Zat Zrs,hyl]) rfl (by omega) rfl (by omega) (fun k5 hl5 hi5 hk5=>?_)
     have keep:∀ {x:Nat} {y:Zcb},k4[x]?=some y→x≠q1→k5[x]?=some y:=fun {x y} hx hne=>by rw [hk5 x (Own.lt hx) (fun i hi=>by cases hi; exact hne)]; exact hx
     have o5:=keep o4 (Zgr o4 q14 (by decide))
     have z5:=keep z4 (Zgr z4 q14 (by decide))
     have j5:=keep j4 (Zgr j4 q14 (by decide))
     have q5:=keep q4 (Zgr q4 q14 (by decide))
     have fr5:∀ {a:Pt} {n:Nat} {l:List Nd},Zds Zab eP h.length k4 a n l→Zds Zab eP h.length k5 a n l:=fun f=>⟨f.1,f.2.imp id fun ⟨y,ha,hb,hy⟩=>⟨y,ha,hb,keep hy (Zgr hy q14 (by decide))⟩⟩
     simp only [Zaj]
     rw [Zbg o5 (by simp)]
     simp only [Zas,putRow,List.take_succ_cons,List.take_zero,List.length_cons,List.length_nil,List.drop_succ_cons,List.drop_zero,List.drop_nil,List.cons_append,List.nil_append,List.append_nil]
     rw [Zbm (by omega)]
     have fr6:∀ {a:Pt} {n:Nat} {l:List Nd},Zds Zab eP h.length k5 a n l→Zds Zab eP h.length (k5.set h8.length (.cells Zac [.slice (some (q,0)) P.length c e,.slice (some (k4.length + 1,0)) (g + 1) (g + 1) false] false)) a n l:=fun f=>⟨f.1,f.2.imp id fun ⟨y,ha,hb,hy⟩=>⟨y,ha,hb,by rw [Zbw (Zgr o5 hy (by decide))]; exact hy⟩⟩
     have j6:(k5.set h8.length (.cells Zac [.slice (some (q,0)) P.length c e,.slice (some (k4.length + 1,0)) (g + 1) (g + 1) false] false))[ii]?=some (.cells Zbi (Zdb eS L) false):=by rw [Zbw (Zgr o5 j5 (by decide))]; exact j5
     refine hR2 (g + 1) _ _ (by omega) ⟨rfl,by omega,?_,by rw [Zbw (Ne.symm hz8)]; exact z5,j6,?_,by rw [Zbw (Zgr o5 q5 (by decide))]; exact q5,l ++ [i],ys ++ [⟨i.1.1,i.1.2,na,i.2.length,nc,ne⟩],k4.length + 1,g + 1,false,by rw [hstep,hi']; rfl,by simp [hll],by simp [hyl],Zce o5,?_,by omega,Nat.le_refl _,fun m x i' hx hi''=>?_⟩
     ·exact Zbc.set' ⟨by omega,fun x hx=>by rw [hk5 x (by omega) (fun i hi=>by cases hi; omega)]; exact T4.eq x hx⟩ (by omega)
     ·obtain ⟨hl',hr'⟩:=krw
      refine ⟨hl',hr'.imp id ?_⟩
      rintro ⟨i',o',t,all,ro,ha,hi',hg',x⟩
      cases ha
      rw [kj] at hg'; injection hg' with hg'; injection hg' with g1 g2 g3
      exact ⟨_,_,t,all,ro,rfl,by simp; have:=Own.lt j5; omega,by rw [j6,g1,g2,g3],x⟩
     ·rw [Zbw (by omega)]; simpa [eN] using hi5
     ·by_cases hm:m < g
      ·rw [List.getElem?_append_left (by omega)] at hx hi''
       obtain ⟨p1,p2,p3⟩:=hrep m x i' hx hi''
       exact ⟨p1,p2,fr6 (fr5 (p3.same t24))⟩
      ·have hmg:m=g:=by have:=(List.getElem?_eq_some_iff.1 hx).1; simp [hyl] at this; omega
       subst hmg
       rw [List.getElem?_append_right (by omega)] at hx hi''
       simp [hyl] at hx
       simp [hll] at hi''
       subst hx; subst hi''
       exact ⟨rfl,rfl,fr6 (fr5 nf4)⟩
    ·simp only [Zco,Zae,Zdt,Zah,Zaj,Zam,Zaq,Zaw]
     generalize hk3:k2 ++ [Zcb.cells Zad [.str [],.str [],.slice none 0 0 true] false]=k3
     have t3:Zbc k2.length k2 k3:=by rw [← hk3]; exact Zal
     have n3:k3[k2.length]?=some (.cells Zad [.str [],.str [],.slice none 0 0 true] false):=by rw [← hk3]; simp
     rw [Zbg n3 (by simp)]
     simp only [Zas,Bool.not_false,Zcv]
     have t4:Zbc k2.length k2 (k3.set k2.length (.cells Zad (putRow [.str [],.str [],.slice none 0 0 true] 0 [.str [],.str [],.slice none 0 0 true]) false)):=t3.set' (Nat.le_refl _)
     refine Yph (T2.cat t4) (Nat.le_refl _) (t4.get kz2 (Own.lt kz2)) ?_
     rw [hW,Zyz (k:=g + 1) Ydw (by rw [hstep,hi']; rfl)]
   ·apply Zcu.A12x2i
    have hgn:g=n:=by omega
    subst hgn
    rw [List.take_of_length_le (by omega)] at hl
    rw [Zaz ko]
    simp only [Zao,Zae,Zam,Zaj]
    have rep:Zkr k (some (q,0)) P.length c (some (q1,0)) g c1 ⟨P.map Yfy,l⟩:=by
     refine ⟨?_,⟨ys,?_,by rw [hyl,hll],fun m x i hx hi=>⟨(hrep m x i hx hi).1,(hrep m x i hx hi).2.1,(hrep m x i hx hi).2.2.row Zcr⟩⟩,hgc,hgc1⟩
     ·exact (Vec.mk1 (n:=0) (c:=0) kq).row (by rw [Zat Zcr,List.length_map])
     ·exact (Vec.mk1 (n:=0) (c:=0) kq1).row (by rw [Zat Zrs,hyl])
    have ws:WB ⟨P.map Yfy,l⟩:=by
     obtain ⟨h1,h2⟩:=Zzt hl
     refine ⟨by simp; omega,by simp only; omega,fun p hp=>?_,fun i hi=>?_⟩
     ·simp only [List.mem_map] at hp
      obtain ⟨x,hx,rfl⟩:=hp
      have:=hmem2 x hx
      have h3:=Yly (s:=x)
      exact ⟨by omega,by omega,Yhl (hby2 x hx)⟩
     ·obtain ⟨x,hx,he⟩:=h2 i hi
      have:=Yef (hmem3 x hx) he
      exact ⟨by omega,by omega,by omega,fun p hp=>by have:=this.2.2.2 p hp; omega⟩
    refine (Zkw rep ws).mono ?_
    rintro v m1 ⟨rfl,t1⟩
    simp only [Zaq]
    have M1:=kS.cat t1
    have mz:=t1.get kz (Own.lt kz)
    have mo:=t1.get ko (Own.lt ko)
    rw [hl] at hW
    simp only at hW
    refine Zbs (fun hv=>?_) (fun hv=>?_)
    ·refine Yph M1 (Nat.le_refl _) mz ?_
     rw [hW]; unfold wdQ; rw [if_neg (by rw [hv]; simp)]
    ·rw [Zaz mo]
     simp only [Zao,Zae,Zam,Zaj]
     rw [Zbg mz (by simp)]
     simp only [Zas,putRow,List.take_zero,List.length_cons,List.length_nil,List.drop_succ_cons,List.drop_zero,List.drop_nil,List.cons_append,List.nil_append,List.append_nil,Nat.zero_add]
     rw [Zaz (Zce mz)]
     simp only [Zao,Zae,Zam,Zaj]
     refine ⟨M1.set' (Nat.le_refl _),_,_,_,_,_,_,_,_,_,rfl,?_⟩
     rw [hW]; unfold wdQ; rw [if_pos hv]
     have nz:∀ {x:Nat} {t:TypeId} {cs:List Zay},m1[x]?=some (.cells t cs false)→t≠Zac→(m1.set h.length (.cells Zac [.slice (some (q,0)) P.length c e,.slice (some (q1,0)) g c1 e1] false))[x]?=some (.cells t cs false):=fun {x t cs} hx hne=>by rw [Zbw (Zgr mz hx (Ne.symm hne))]; exact hx
     refine ⟨?_,⟨ys,?_,by rw [hyl,hll],fun m x i hx hi=>⟨(hrep m x i hx hi).1,(hrep m x i hx hi).2.1,?_⟩⟩,hgc,hgc1⟩
     ·exact (Vec.mk1 (n:=0) (c:=0) (nz (t1.get kq (Own.lt kq)) (by decide))).row (by rw [Zat Zcr,List.length_map])
     ·exact (Vec.mk1 (n:=0) (c:=0) (nz (t1.get kq1 (Own.lt kq1)) (by decide))).row (by rw [Zat Zrs,hyl])
     ·have f:=((hrep m x i hx hi).2.2).same t1
      exact (show Zds Zab eP h.length _ x.a x.n i.2 from ⟨f.1,f.2.imp id fun ⟨y,ha,hb,hy⟩=>⟨y,ha,hb,nz hy (by decide)⟩⟩).row Zcr
  refine ⟨fun hlt=>?_,fun hno=>?_⟩
  ·simp only [Zaj]
   have e1:((L.length:Int) - 1).toNat=L.length - 1:=by omega
   refine next _ _ _ _ e1 ?_ (fun i o h=>by cases h; rfl)
   rw [e1]
   refine ⟨by rw [Zat Zna,List.length_drop]; omega,?_⟩
   by_cases h1:L.length=1
   ·left; omega
   ·right
    refine ⟨j,0 + 1 * 1,_,_,_,rfl,Own.lt hr1,hr1,by rw [Zat Zna]; omega,?_⟩
    have:=Yjm (enc:=eS) Zna L 1
    rw [Nat.one_mul] at this
    rw [show 0 + 1 * 1=1 from rfl,this,List.take_of_length_le (by rw [Zat Zna,List.length_drop]; omega)]
  ·simp only [Zaj]
   have e1:((L.length:Int) - 1).toNat=L.length - 1:=by omega
   have e0:L.length=1:=by omega
   refine next _ _ _ _ (by omega) ?_ (fun i o h=>by cases h)
   have:L.drop 1=[]:=List.drop_of_length_le (by omega)
   rw [this]; simp; exact Row.nil
end Go.Sim

set_option linter.unusedVariables false
set_option linter.unusedSimpArgs false
set_option maxRecDepth 20000
namespace Go.Sim
open Go Go.RowKit

def Xas (h h':Zaa) (u:List Zay) (w:Wd):Prop:=∃ a0 n0 c0 e0 q n1 c1 e1 ys,u=[.slice a0 n0 c0 e0,.slice (some (q,0)) n1 c1 e1]∧WDr h.length h' a0 n0 c0 q n1 c1 ys w
theorem Zem.cell {h h':Zaa} {i j o:Nat} (K:Zem i h h') (hj:j < h.length) (hi:j≠i):Zag h' (.ptr (some (j,o)))=Zag h (.ptr (some (j,o))):=by simp only [Zag,K.eq j hj hi]
theorem Zem.get {h h':Zaa} {i j:Nat} {x:Zcb} (K:Zem i h h') (hj:h[j]?=some x) (hi:j≠i):h'[j]?=some x:=by rw [K.eq j (Own.lt hj) hi]; exact hj
theorem Zvq {h:Zaa} (s:List Nat) (hs:s.length≤900) (hb:∀ b∈s,b < 256):Zak pg Zkf [.str s] h fun v h'=>Zbc h.length h h'∧∃ u b,v=.tup [.agg u,.bool b]∧Xas h h' u (wdP s):=by
 apply Zry.call
 simp only [Zaw]
 generalize hh0:h ++ [Zcb.cells Zac [.slice none 0 0 true,.slice none 0 0 true] false]=h0
 have s0:Zbc h.length h h0:=by rw [← hh0]; exact Zal
 have z0:h0[h.length]?=some (.cells Zac [.slice none 0 0 true,.slice none 0 0 true] false):=by rw [← hh0]; simp
 refine (Yue s hs hb).mono ?_
 rintro v h2 ⟨s2,a0,n0,c0,e0,a1,n1,c1,e1,b,rfl,rep⟩
 have S2:=s0.cat s2
 have z2:=s2.get z0 (Own.lt z0)
 have l2:=S2.le
 simp only [Zco,Zae,Zdt,Zaj,Zam,Zaq]
 rw [Zfb]
 simp only [Zas]
 generalize hh3:h2 ++ [Zcb.cells Zac [.slice a0 n0 c0 e0,.slice a1 n1 c1 e1] false]=h3
 have s3:Zbc h2.length h2 h3:=by rw [← hh3]; exact Zal
 have y3:h3[h2.length]?=some (.cells Zac [.slice a0 n0 c0 e0,.slice a1 n1 c1 e1] false):=by rw [← hh3]; simp
 have S3:=S2.cat s3
 have z3:=s3.get z2 (Own.lt z2)
 rw [Zaz y3]
 simp only [Zao,Zae,Zam,Zaj]
 refine (Zyw (rep.same s3) ((Yad hs hb).wb (by omega))).mono ?_
 rintro v h4 ⟨b0,d0,f0,b1,d1,f1,ys,rfl,s4,W4,hd0,hd1,_,_,q,rfl,hq,hqo⟩
 have z4:=s4.get z3 (Own.lt z3)
 simp only [Zdt,Zae,Zaj,Zam]
 rw [Zbg z4 (by simp)]
 simp only [Zas,putRow,List.take_zero,List.length_cons,List.length_nil,List.drop_succ_cons,List.drop_zero,List.drop_nil,List.cons_append,List.nil_append,List.append_nil,Nat.zero_add]
 rw [Zaz (Zce z4)]
 simp only [Zao,Zae,Zam,Zaj]
 have l3:=S3.le
 refine ⟨(S3.cat s4).set' (Nat.le_refl _),_,_,rfl,b0,n0,d0,f0,q,n1,d1,f1,ys,rfl,?_⟩
 have hz:=Own.lt z0
 have l03:=(s2.cat s3).le
 exact ((WDr.of (c0:=d0) (c1:=d1) W4 hd0 hd1 hq hqo).keep (fun j hj hjl=>by rw [Zbw (by omega)])).low (by omega)
theorem Yow {h:Zaa} {x:Int} (hx0:0≤x) (hx9:x < 9):Zak pg Zqw [.int .i64 x] h fun v h'=>Zbc h.length h h'∧∃ u w,v=.agg u∧Xas h h' u w∧WS 1000 w:=by
 apply Zvv.call
 simp only [Zaw]
 generalize hh0:h ++ [Zcb.cells Zac [.slice none 0 0 true,.slice none 0 0 true] false]=h0
 have s0:Zbc h.length h h0:=by rw [← hh0]; exact Zal
 have z0:h0[h.length]?=some (.cells Zac [.slice none 0 0 true,.slice none 0 0 true] false):=by rw [← hh0]; simp
 have hl0:h0.length=h.length + 1:=by rw [← hh0]; simp
 have htm:Int.tmod x ((9:Nat):Int)=x:=by rw [Int.tmod_eq_emod_of_nonneg hx0]; exact Int.emod_eq_of_lt hx0 (by omega)
 rw [htm]
 refine ⟨by omega,⟨by omega,by omega⟩,?_⟩
 obtain ⟨k,rfl⟩:∃ k:Nat,x=k:=⟨x.toNat,by omega⟩
 have hk:k < 9:=by omega
 rw [Zgm,Int.toNat_natCast,Nat.zero_add,Nat.mul_one]
 generalize hL:([.str ([69,32,79,60,69,59,69,32,105,59,69,32,98,59,69,32,108,40,120,41,58,69,32,120,59,69,32,112,40,120,44,121,41,58,69,32,120,38,69,32,121,59,79,32,105,59,79,32,108,40,120,41,58,79,32,120]),.str ([69,32,83,59,69,32,105,59,69,32,108,40,120,41,58,69,32,120,59,69,32,108,40,105,41,59,83,32,112,40,120,44,120,41,58,83,32,120,59,83,32,112,40,105,44,98,41,59,83,32,105,59,83,32,98]),.str ([65,32,66,59,65,32,105,59,65,32,108,40,120,41,58,65,32,120,38,66,32,120,59,66,32,105,59,66,32,108,40,120,41,58,65,32,108,40,120,41]),.str ([65,59,65,32,108,40,120,41,58,65,32,108,40,120,41,59,65,32,109,40,120,41,58,65,32,108,40,109,40,120,41,41,59,65,32,105]),.str ([69,32,79,60,69,32,83,60,69,79,59,69,32,117,59,69,32,105,59,79,32,105,59,83,32,105,59,69,32,109,40,120,41,58,69,32,120,59,79,32,109,40,120,41,58,79,32,120,59,83,32,109,40,120,41,58,83,32,120,38,69,32,109,40,120,41]),.str ([69,32,70,59,69,32,105,59,69,32,98,59,70,32,108,40,120,41,58,69,32,120,59,70,32,109,40,120,41,58,70,32,120,38,69,32,120,59,70,32,112,40,108,40,120,41,44,121,41,58,69,32,120,38,70,32,121,59,70,32,105]),.str ([69,32,79,60,69,59,79,32,105,59,69,32,98,59,69,32,108,40,120,41,58,69,32,120]),.str ([65,32,66,60,65,32,67,60,65,66,59,65,32,105,59,66,32,105,59,67,32,105,59,65,32,108,40,120,41,58,67,32,120,59,66,32,108,40,120,41,58,67,32,120,59,67,32,108,40,120,41,58,67,32,120,59,65,32,117]),.str ([69,59,69,32,112,40,120,44,105,41,58,69,32,120,59,69,32,112,40,105,44,120,41,58,69,32,120,59,69,32,105,59,69,32,98])]:List Zay)=L
 have hx:∃ s:List Nat,L[k]?=some (.str s)∧s.length≤900∧∀ b∈s,b < 256:=by
  rw [← hL]
  match k,hk with
  | 0,_=>exact ⟨_,rfl,by decide,by decide⟩
  | 1,_=>exact ⟨_,rfl,by decide,by decide⟩
  | 2,_=>exact ⟨_,rfl,by decide,by decide⟩
  | 3,_=>exact ⟨_,rfl,by decide,by decide⟩
  | 4,_=>exact ⟨_,rfl,by decide,by decide⟩
  | 5,_=>exact ⟨_,rfl,by decide,by decide⟩
  | 6,_=>exact ⟨_,rfl,by decide,by decide⟩
  | 7,_=>exact ⟨_,rfl,by decide,by decide⟩
  | 8,_=>exact ⟨_,rfl,by decide,by decide⟩
 obtain ⟨s,hs1,hs2,hs3⟩:=hx
 rw [hs1]
 simp only [Zah]
 generalize hh1:h0 ++ [Zcb.cells Zbi L false]=h1
 have s1:Zbc h0.length h0 h1:=by rw [← hh1]; exact Zal
 have z1:=s1.get z0 (Own.lt z0)
 have S1:=s0.cat s1
 refine (Zvq s hs2 hs3).mono ?_
 rintro v h2 ⟨s2,u,b,rfl,a0,n0,c0,e0,q,n1,c1,e1,ys,rfl,d⟩
 have S2:=S1.cat s2
 have z2:=s2.get z1 (Own.lt z1)
 simp only [Zco,Zae,Zdt,Zaj,Zam,Zaq]
 rw [Zfb]
 simp only [Zas]
 generalize hh3:h2 ++ [Zcb.cells Zac [.slice a0 n0 c0 e0,.slice (some (q,0)) n1 c1 e1] false]=h3
 have s3:Zbc h2.length h2 h3:=by rw [← hh3]; exact Zal
 have y3:h3[h2.length]?=some (.cells Zac [.slice a0 n0 c0 e0,.slice (some (q,0)) n1 c1 e1] false):=by rw [← hh3]; simp
 have S3:=S2.cat s3
 have z3:=s3.get z2 (Own.lt z2)
 rw [Zaz y3]
 simp only [Zao,Zae,Zam,Zaj]
 rw [Zbg z3 (by simp)]
 simp only [Zas,putRow,List.take_zero,List.length_cons,List.length_nil,List.drop_succ_cons,List.drop_zero,List.drop_nil,List.cons_append,List.nil_append,List.append_nil,Nat.zero_add]
 rw [Zaz (Zce z3)]
 simp only [Zao,Zae,Zam,Zaj]
 have hz1:=Own.lt z1
 exact ⟨S3.set' (Nat.le_refl _),_,_,rfl,⟨a0,n0,c0,e0,q,n1,c1,e1,ys,rfl,((d.same s3).keep (fun j hj hjl=>by rw [Zbw (by omega)])).low S1.le⟩,Yad hs2 hs3⟩
def RdK (i p k:Nat) (h h':Zaa):Prop:=Zem i h h'∧∃ p',p≤p'∧p'≤p + k∧Rdr h' i p'
theorem RdK.app {i p k:Nat} {h h1 h2:Zaa} (s:Zbc h.length h h1) (K:RdK i p k h1 h2):RdK i p k h h2:=⟨(Zem.of_same s).trans K.1,K.2⟩
theorem Yey {h:Zaa} {i p b m:Nat} {a0:Pt} {n0 c0 q n1 c1:Nat} {e0 e1:Bool} {ys:List EI} {w:Wd} {s:List Nat} (r:Rdr h i p) (hp:p≤900000000000) (d:WDr b h a0 n0 c0 q n1 c1 ys w) (hib:i < b) (hn0:1≤n0) (ws:WS m w) (hs:s.length≤100) :
  Zak pg Zif [.ptr (some (i,0)),.agg [.slice a0 n0 c0 e0,.slice (some (q,0)) n1 c1 e1],.str s] h fun v h'=>∃ c t,v=.agg [.str c,.str t]∧c.length≤1000∧t.length≤1000∧RdK i p 1000 h h':=by
 have hil:=r.lt
 apply Zrp.call
 simp only [Zaw]
 generalize hg0:h ++ [Zcb.cells Zac [.slice a0 n0 c0 e0,.slice (some (q,0)) n1 c1 e1] false]=g0
 generalize hg1:g0 ++ [Zcb.cells Zab [.str [],.str []] false]=g1
 have s0:Zbc h.length h g0:=by rw [← hg0]; exact Zal
 have s1:Zbc g0.length g0 g1:=by rw [← hg1]; exact Zal
 have x0:g0[h.length]?=some (.cells Zac [.slice a0 n0 c0 e0,.slice (some (q,0)) n1 c1 e1] false):=by rw [← hg0]; simp
 have x1:=s1.get x0 (Own.lt x0)
 have y1:g1[g0.length]?=some (.cells Zab [.str [],.str []] false):=by rw [← hg1]; simp
 have l0:g0.length=h.length + 1:=by rw [← hg0]; simp
 have S1:=s0.cat s1
 simp only [Zan x1,Nat.zero_add,List.getElem?_cons_zero,Zaj,true_and]
 refine (Zdd (r.same S1) (by omega) (n0:Int)).mono ?_
 rintro v k1 ⟨x,rfl,hx0,hx1,_,K1,R1,l1⟩
 have hx1:=hx1 (by omega)
 have x2:=K1.get x1 (by omega)
 have y2:=K1.get y1 (by omega)
 have KK1:=(Zem.of_same (i:=i) S1).trans K1
 obtain ⟨k,rfl⟩:∃ k:Nat,x=k:=⟨x.toNat,by omega⟩
 have d1:=(d.same S1).kp K1 hib
 obtain ⟨ic,oc,hkc,ha,_,_,hc,_⟩:=d1.rep.class (k:=k) (by omega)
 subst ha
 have hcl:=(ws.cs _ (List.getElem_mem hkc)).1
 simp only [Zax,Zan x2,List.getElem?_cons_zero,Zau,Int.toNat_natCast,Nat.add_zero,hc,Zah,true_and]
 refine ⟨⟨by omega,by omega⟩,?_⟩
 -- the end
 have fin:∀ (G:Zaa) (t:List Nat) (p':Nat),Zem i k1 G→t.length≤1000→p≤p'→p'≤p + 1000→Rdr G i p'→Zbt (Zbb G (.ptr (some (g0.length,0))) [.str w.cs[k].1,.str t]) fun h_22=>Zcd (Zbe h_22 (.ptr (some (g0.length,0))) 2) fun cs_23=>Zai cs_23 fun c_24 r_25=>Zbd (some c_24) fun s_26=>Zai r_25 fun c_27 r_28=>Zbd (some c_27) fun s_29=>Zbq r_28 (∃ c t,Zay.agg [.str s_26,.str s_29]=.agg [.str c,.str t]∧c.length≤1000∧t.length≤1000∧RdK i p 1000 h h_22):=by
  intro G t p' KG ht h1 h2 RG
  have yG:=KG.get y2 (by omega)
  rw [Zbg yG (by simp)]
  simp only [Zas,putRow,List.take_zero,List.length_cons,List.length_nil,List.drop_succ_cons,List.drop_zero,List.drop_nil,List.cons_append,List.nil_append,List.append_nil,Nat.zero_add]
  rw [Zaz (Zce yG)]
  simp only [Zao,Zae,Zam,Zah]
  have KG':=KK1.trans KG
  refine ⟨_,_,rfl,hcl,ht,⟨by have:=KG'.le; simp; omega,fun j hj hji=>by rw [Zbw (by omega)]; exact KG'.eq j hj hji⟩,p',h1,h2,RG.agree (fun j hj=>by rw [Zbw (by omega)]) (by simp)⟩
 refine Zar (fun hs0=>?_) (fun hs0=>?_)
 ·refine (Zdd R1 (by omega) 2).mono ?_
  rintro v k2 ⟨x,rfl,hx0,hx1',_,K2,R2,l2⟩
  have hx1':=hx1' (by omega)
  simp only [Zax]
  obtain ⟨z,rfl⟩:∃ z:Nat,x=z:=⟨x.toNat,by omega⟩
  have hB:4 ^ (z + 1)≤16:=by
   have:z=0 ∨ z=1:=by omega
   rcases this with rfl | rfl <;> decide
  refine (Zwt z (by omega) R2 (by omega) _).mono ?_
  rintro v k3 ⟨t,rfl,hok,hlen,K3,p3,hp1,hp2,R3⟩
  simp only [Zah]
  exact fin k3 t.txt p3 (K2.trans K3) (by omega) (by omega) (by omega) R3
 ·have hs1:1≤s.length:=by cases s with | nil=>exact absurd rfl hs0 | cons a r=>simp
  refine (Zdd R1 (by omega) (s.length:Nat)).mono ?_
  rintro v k2 ⟨x,rfl,hx0,hx1',_,K2,R2,l2⟩
  have hx1':=hx1' (by omega)
  simp only [Zax]
  have hsl:(sub s x (IntKind.wrap .i64 (x + 1))).length≤100:=Nat.le_trans (Ykr _ _ _) hs
  have hw1:IntKind.wrap .i64 (x + 1)=x + 1:=IntWalk.i64_in _ (by omega)
  refine ⟨⟨by omega,by omega,by omega⟩,by simp; omega,by simp; omega,?_⟩
  generalize sub s x (IntKind.wrap .i64 (x + 1))=y at hsl ⊢
  have hk2l:=R2.lt
  refine (Znk (R2.app _) (by omega) (j:=k2.length) (t:=Zbi) (n:=5) (l:=[y,y,y,[108,40] ++ y ++ [41],y]) (by simp [Zdb,eS]) (by omega) rfl (by omega)).mono ?_
  rintro v k3 ⟨t,ht,rfl,K3,R3,l3⟩
  simp only [Zah]
  have htl:t.length≤1000:=by
   simp only [List.mem_cons,List.not_mem_nil,or_false] at ht
   rcases ht with rfl | rfl | rfl | rfl | rfl <;> first | omega | (simp; omega)
  exact fin k3 t _ (K2.trans ((Zem.app i k2 _).trans K3)) htl (by omega) (by omega) R3
end Go.Sim

set_option linter.unusedVariables false
set_option linter.unusedSimpArgs false
set_option maxRecDepth 20000
namespace Go.Sim
open Go Go.RowKit

theorem Zuq {h l:Zaa} {j o:Nat} (hj:j < h.length):Zag (h ++ l) (.ptr (some (j,o)))=Zag h (.ptr (some (j,o))):=by simp only [Zag,List.getElem?_append_left hj]
def Xbh (I:Ins):Prop:=I.1.1.length≤1000∧I.1.2.length≤1000∧I.2.length≤1000∧∀ q∈I.2,q.1.length≤1000∧q.2.length≤1000
def Yuh (i p:Nat) (h:Zaa) (v:Zay) (h':Zaa):Prop:=∃ (I:Ins) (a:Pt) (c:Nat) (e:Bool),v=.agg [.str I.1.1,.str I.1.2,.slice a I.2.length c e]∧I.2.length≤c∧Zds Zab eP h.length h' a I.2.length I.2∧Xbh I∧RdK i p 10000 h h'
theorem Yso (s:List Nat):(Zrn s).length≤6:=by unfold Zrn; exact Nat.le_trans (List.length_filter_le _ _) (by decide)
theorem Zym {h:Zaa} {i p b m:Nat} {a0:Pt} {n0 c0 q n1 c1:Nat} {e0 e1:Bool} {ys:List EI} {w:Wd} (r:Rdr h i p) (hp:p≤800000000000) (d:WDr b h a0 n0 c0 q n1 c1 ys w) (hib:i < b) (hn0:1≤n0) (ws:WS m w) :
  Zak pg Zjy [.ptr (some (i,0)),.agg [.slice a0 n0 c0 e0,.slice (some (q,0)) n1 c1 e1]] h (Yuh i p h):=by
 have hil:=r.lt
 apply Zdl.call
 simp only [Zaw]
 generalize hg0:h ++ [Zcb.cells Zac [.slice a0 n0 c0 e0,.slice (some (q,0)) n1 c1 e1] false]=g0
 have s0:Zbc h.length h g0:=by rw [← hg0]; exact Zal
 have x0:g0[h.length]?=some (.cells Zac [.slice a0 n0 c0 e0,.slice (some (q,0)) n1 c1 e1] false):=by rw [← hg0]; simp
 have l0:g0.length=h.length + 1:=by rw [← hg0]; simp
 generalize hga:g0 ++ [Zcb.cells Zad [.str [],.str [],.slice none 0 0 true] false]=ga
 have sa:Zbc g0.length g0 ga:=by rw [← hga]; exact Zal
 have xa:=sa.get x0 (Own.lt x0)
 have za:ga[g0.length]?=some (.cells Zad [.str [],.str [],.slice none 0 0 true] false):=by rw [← hga]; simp
 have la:ga.length=g0.length + 1:=by rw [← hga]; simp
 have Sa:=s0.cat sa
 have Ra:=r.same Sa
 refine (Znk (Ra.app _) (by omega) (j:=ga.length) (t:=Zbi) (n:=11) (l:=[[105],[98],[108,40,120,41],[112,40,120,44,121,41],[109,40,120,41],[108,40,105,41],[112,40,120,44,120,41],[112,40,105,44,120,41],[108,40,108,40,120,41,41],[117],[108,40,120,41]]) (by simp [Zdb,eS]) (by omega) rfl (by omega)).mono ?_
 rintro v g1 ⟨hd,hhd,rfl,pg1,Rg1,lg1⟩
 have hhl:hd.length≤10:=by
  simp only [List.mem_cons,List.not_mem_nil,or_false] at hhd
  rcases hhd with rfl | rfl | rfl | rfl | rfl | rfl | rfl | rfl | rfl | rfl | rfl <;> decide
 have Kg1:=(Zem.of_same (i:=i) (Sa.trans (Zbc.app Sa.le [Zcb.cells Zbi [.str [105],.str [98],.str [108,40,120,41],.str [112,40,120,44,121,41],.str [109,40,120,41],.str [108,40,105,41],.str [112,40,120,44,120,41],.str [112,40,105,44,120,41],.str [108,40,108,40,120,41,41],.str [117],.str [108,40,120,41]] false]))).trans pg1
 have xg1:=pg1.get (Zib xa) (by omega)
 have zg1:=pg1.get (Zib za) (by omega)
 simp only [Zah,Zan xg1,Nat.zero_add,List.getElem?_cons_zero,Zaj]
 have Rg1:Rdr g1 i (p + 1):=Rg1
 -- behind the orders
 have fin:∀ (G:Zaa) (zI eX p':Nat) (cl:List Nat),Zem i h G→Rdr G i p'→p≤p'→p'≤p + 2→G[h.length]?=some (.cells Zac [.slice a0 n0 c0 e0,.slice (some (q,0)) n1 c1 e1] false)→G[g0.length]?=some (.cells Zad [.str [],.str [],.slice none 0 0 true] false) →
   G[eX]?=some (.cells Zab [] false)→G[zI]?=some (.cells Zad [.str [],.str [],.slice none 0 0 true] false)→h.length≤eX→g0.length < zI→cl.length≤1000 →
   Zbt (Zbb G (.ptr (some (zI,0))) [.str cl,.str hd,.slice (some (eX,0)) 0 0 true]) fun h_22=>Zak pg Zfm [.ptr (some (i,0)),.slice (some (List.length h_22,0)) 4 4 true] (h_22 ++ [.cells Zky [.int .i64 1,.int .i64 0,.int .i64 1,.int .i64 2] false]) fun v_24 h_25=>Zeb .i64 (some v_24) fun x_26=>Zdl.L4 (Yuh i p h) (some (i,0)) h.length 0 g0.length 0 hd zI 0 x_26 0 h_25:=by
  intro G zI eX p' cl KG RG h1 h2 xG zG eG iG hel hzl hcl
  have hzi:=Own.lt iG
  rw [Zbg iG (by simp)]
  simp only [Zas,putRow,List.take_zero,List.length_cons,List.length_nil,List.drop_succ_cons,List.drop_zero,List.drop_nil,List.cons_append,List.nil_append,List.append_nil,Nat.zero_add]
  have i2:=Zce iG (x:=.cells Zad [.str cl,.str hd,.slice (some (eX,0)) 0 0 true] false)
  have n2:∀ j,j≠zI→(G.set zI (.cells Zad [.str cl,.str hd,.slice (some (eX,0)) 0 0 true] false))[j]?=G[j]?:=fun j hj=>Zbw (fun e=>hj e.symm)
  have l2:(G.set zI (.cells Zad [.str cl,.str hd,.slice (some (eX,0)) 0 0 true] false)).length=G.length:=by simp
  generalize G.set zI (.cells Zad [.str cl,.str hd,.slice (some (eX,0)) 0 0 true] false)=G2 at i2 n2 l2 ⊢
  have hez:eX≠zI:=Zgr eG iG (by decide)
  have K2:Zem i h G2:=⟨by have:=KG.le; omega,fun j hj hji=>by rw [n2 j (by omega)]; exact KG.eq j hj hji⟩
  have R2:Rdr G2 i p':=RG.agree (fun j hj=>n2 j (by omega)) (by omega)
  have x2:G2[h.length]?=some (.cells Zac [.slice a0 n0 c0 e0,.slice (some (q,0)) n1 c1 e1] false):=by rw [n2 _ (by omega)]; exact xG
  have z2:G2[g0.length]?=some (.cells Zad [.str [],.str [],.slice none 0 0 true] false):=by rw [n2 _ (by omega)]; exact zG
  have e2:G2[eX]?=some (.cells Zab [] false):=by rw [n2 _ hez]; exact eG
  refine (Yup (R2.app _) (by omega) (j:=G2.length) (t:=Zky) (n:=4) (l:=[1,0,1,2]) (by simp [Zdb,eI]) (by have:=R2.lt; omega) rfl (by omega)).mono ?_
  rintro v G3 ⟨x,hx,rfl,K3,R3,l3⟩
  have hR2l:=R2.lt
  simp only [List.mem_cons,List.not_mem_nil,or_false] at hx
  have hxb:0≤x∧x≤2:=by rcases hx with rfl | rfl | rfl | rfl <;> omega
  simp only [Zax]
  have hgl:g0.length≠i:=by omega
  refine Zdl.L4ind (J:=fun (g:Nat) x27 h'=>x27=(g:Int)∧(g:Int)≤x∧Zem i h h'∧(∃ p',p≤p'∧p'≤p + 10 + g * 2000∧Rdr h' i p')∧h'[h.length]?=some (.cells Zac [.slice a0 n0 c0 e0,.slice (some (q,0)) n1 c1 e1] false)∧h'[g0.length]?=some (.cells Zad [.str [],.str [],.slice none 0 0 true] false) ∧
    ∃ (l:List Nd) (y c:Nat) (e:Bool),h'[zI]?=some (.cells Zad [.str cl,.str hd,.slice (some (y,0)) l.length c e] false)∧h'[y]?=some (.cells Zab (Zdb eP l) false)∧h.length≤y∧l.length≤g∧l.length≤c∧∀ q∈l,q.1.length≤1000∧q.2.length≤1000) (m:=fun g=>x.toNat - g) (hr:=?_) (g:=0)
   (hj:=⟨rfl,by omega,(K2.trans (Zem.app i G2 _)).trans K3,⟨_,by omega,by omega,R3⟩,K3.get (Zib x2) (by omega),K3.get (Zib z2) (by omega),[],eX,0,true,K3.get (Zib i2) (by omega),K3.get (Zib e2) (by omega),hel,Nat.le_refl _,Nat.le_refl _,by simp⟩) ..
  rintro g x27 k ⟨rfl,hg,Kk,⟨p4,hp1,hp2,Rk⟩,xk,zk,l,y,c,e,ik,yk,hyl,hlg,hlc,hls⟩ R hR
  unfold Zdl.L4t
  have hkl:=Rk.lt
  refine Zar (fun hlt=>?_) (fun hge=>?_)
  ·refine (Zuy hd (by omega)).mono ?_
   rintro v k1 ⟨rfl,t1⟩
   have hvl:(if Zoq hd=true then Zrn hd else []).length≤6:=by split; exact Yso _; simp
   have next:∀ (G:Zaa) (p':Nat),Zem i k G→p≤p'→p'≤p4 + 1→Rdr G i p'→Zdl.J7 (Yuh i p h) R (g:Int) x hd (some (i,0)) zI 0 h.length 0 g0.length 0 G:=by
    intro G p' KG h1 h2 RG
    apply Zdl.J7i
    rw [Zbm (by omega)]
    exact hR (g + 1) _ _ (by omega) ⟨rfl,by omega,Kk.trans KG,⟨p',h1,by omega,RG⟩,KG.get xk (by omega),KG.get zk (by omega),l,y,c,e,KG.get ik (by omega),KG.get yk (by omega),hyl,by omega,hlc,hls⟩
   have add:∀ (G:Zaa) (p':Nat),Zem i k G→p≤p'→p'≤p4 + 1→Rdr G i p' →
     xSl (Zag G (.ptr (some (zI,0 + 2)))) fun a_87 n_88 c_89 e_90=>Zcd (Zbe G (.ptr (some (h.length,0))) 2) fun cs_91=>Zai cs_91 fun c_92 r_93=>xSl (some c_92) fun a_94 n_95 c_96 e_97=>Zai r_93 fun c_98 r_99=>xSl (some c_98) fun a_100 n_101 c_102 e_103=>Zbq r_99 (Zak pg Zhs [.str hd] G fun v_104 h_105=>
      Zbd (some v_104) fun s_106=>(Zbe h_105 (.ptr (some (h.length,0))) 2=Zbe G (.ptr (some (h.length,0))) 2)∧(Zag h_105 (.ptr (some (zI,0 + 2)))=Zag G (.ptr (some (zI,0 + 2))))∧Zak pg Zif [.ptr (some (i,0)),.agg [.slice a_94 n_95 c_96 e_97,.slice a_100 n_101 c_102 e_103],.str s_106] h_105 fun v_107 h_108=>
      Zqh v_107 fun cs_109=>Zai cs_109 fun c_110 r_111=>Zbd (some c_110) fun s_112=>Zai r_111 fun c_113 r_114=>Zbd (some c_113) fun s_115=>Zbq r_114 ((Zag h_108 (.ptr (some (zI,0 + 2)))=Zag h_105 (.ptr (some (zI,0 + 2))))∧((Zbe (h_108 ++ [.cells Zab [.str s_112,.str s_115] false]) (.ptr (some (h.length,0))) 2=Zbe h_108 (.ptr (some (h.length,0))) 2)∧(Zag (h_108 ++ [.cells Zab [.str s_112,.str s_115] false]) (.ptr (some (zI,0 + 2)))=Zag h_108 (.ptr (some (zI,0 + 2))))∧Zci pg Zbo (h_108 ++ [.cells Zab [.str s_112,.str s_115] false]) (.slice a_87 n_88 c_89 e_90) (.slice (some (List.length h_108,0)) 1 1 true) fun v_117 h_118=>xSl (some v_117) fun a_119 n_120 c_121 e_122=>(Zbe h_118 (.ptr (some (h.length,0))) 2=Zbe (h_108 ++ [.cells Zab [.str s_112,.str s_115] false]) (.ptr (some (h.length,0))) 2)∧Zbt (Zbb h_118 (.ptr (some (zI,0 + 2))) [.slice a_119 n_120 c_121 e_122]) fun h_123=>Zdl.J7 (Yuh i p h) R (g:Int) x hd (some (i,0)) zI 0 h.length 0 g0.length 0 h_123))):=by
    intro G p' KG h1 h2 RG
    have xG:=KG.get xk (by omega)
    have zG:=KG.get zk (by omega)
    have iG:=KG.get ik (by omega)
    have yG:=KG.get yk (by omega)
    simp only [Zan iG,Nat.zero_add,List.getElem?_cons_succ,List.getElem?_cons_zero,Zaj]
    rw [Zaz xG]
    simp only [Zao,Zae,Zam,Zaj]
    refine (Zuy hd (by omega)).mono ?_
    rintro v G1 ⟨rfl,t1⟩
    have xG1:=t1.get xG (Own.lt xG)
    have iG1:=t1.get iG (Own.lt iG)
    have yG1:=t1.get yG (Own.lt yG)
    have zG1:=t1.get zG (Own.lt zG)
    simp only [Zah]
    refine ⟨by rw [Zaz xG1],by rw [Zan iG1]; rfl,?_⟩
    have KK:=Kk.trans KG
    have dG:=((d.kp KK hib).same t1)
    refine (Yey (RG.same t1) (by omega) dG hib hn0 ws (by omega)).mono ?_
    rintro v G2 ⟨c',t',rfl,hc',ht',K2,p5,hp5,hp6,R5⟩
    have il2:=t1.le
    have xG2:=K2.get xG1 (by omega)
    have iG2:=K2.get iG1 (by omega)
    have yG2:=K2.get yG1 (by omega)
    have zG2:=K2.get zG1 (by omega)
    simp only [Zdt,Zae,Zam,Zah]
    refine ⟨by rw [Zan iG2,Zan iG1],by rw [Zaz (Zib xG2),Zaz xG2],by rw [Zan (Zib iG2),Zan iG2],?_⟩
    have R5l:=R5.lt
    refine (Vec.mk1 (n:=l.length) (c:=c) yG2).pushN (sz:=2) Zhi Zng Zni Znh (by rw [Zat Zcr]) rfl (by omega) rfl (by omega) (fun G4 hl4 hi4 hk4=>?_)
    have keep:∀ {x:Nat} {o:Zcb},G2[x]?=some o→x≠y→G4[x]?=some o:=fun {x o} hx hne=>by rw [hk4 x (Own.lt hx) (fun i hi=>by cases hi; exact hne)]; exact hx
    have xG4:=keep xG2 (Zgr xG2 yG2 (by decide))
    have iG4:=keep iG2 (Zgr iG2 yG2 (by decide))
    have zG4:=keep zG2 (Zgr zG2 yG2 (by decide))
    simp only [Zaj]
    refine ⟨by rw [Zaz xG4,Zaz (Zib xG2)],?_⟩
    rw [Zbg iG4 (by simp)]
    simp only [Zas,putRow,List.take_succ_cons,List.take_zero,List.length_cons,List.length_nil,List.drop_succ_cons,List.drop_zero,List.drop_nil,List.cons_append,List.nil_append,List.append_nil]
    apply Zdl.J7i
    rw [Zbm (by omega)]
    have hiy:i≠y:=by omega
    have R6:Rdr (G4.set zI (.cells Zad [.str cl,.str hd,.slice (some (G2.length + 1,0)) (l.length + 1) (l.length + 1) false] false)) i p5:=R5.agree (fun j hj=>by rw [Zbw (by omega),hk4 j (by omega) (fun i' hi'=>by cases hi'; omega)]) (by simp; omega)
    have K26:Zem i h (G4.set zI (.cells Zad [.str cl,.str hd,.slice (some (G2.length + 1,0)) (l.length + 1) (l.length + 1) false] false)):=by
     have K02:=(KK.trans (Zem.of_same t1)).trans K2
     have:=K02.le
     exact ⟨by simp; omega,fun j hj hji=>by rw [Zbw (by omega),hk4 j (by omega) (fun i' hi'=>by cases hi'; omega)]; exact K02.eq j hj hji⟩
    have KKl:=((KK.trans (Zem.of_same t1)).trans K2).le
    refine hR (g + 1) _ _ (by omega) ⟨rfl,by omega,K26,⟨p5,by omega,by omega,R6⟩,by rw [Zbw (by omega)]; exact xG4,by rw [Zbw (by omega)]; exact zG4,l ++ [(c',t')],G2.length + 1,l.length + 1,false,by simpa using Zce iG4,?_,by omega,by simp; omega,by simp,fun q hq=>?_⟩
    ·rw [Zbw (Zgr iG4 hi4 (by decide))]; simpa [eP] using hi4
    ·rcases List.mem_append.1 hq with hq | hq
     ·exact hls q hq
     ·rw [List.mem_singleton] at hq; subst hq; exact ⟨hc',ht'⟩
   simp only [Zah,Zaw]
   generalize hvv:(if Zoq hd=true then Zrn hd else [])=vs at hvl
   refine Zbs (fun hv=>?_) (fun hv=>?_)
   ·exact add k1 p4 (Zem.of_same t1) hp1 (by omega) (Rk.same t1)
   ·refine (Zdd (Rk.same t1) (by omega) 4).mono ?_
    rintro v k2 ⟨z,rfl,_,_,_,K2,R2',_⟩
    simp only [Zax]
    refine Zcw (fun _=>?_) (fun _=>?_)
    ·exact add k2 _ ((Zem.of_same t1).trans K2) (by omega) (by omega) R2'
    ·exact next k2 _ ((Zem.of_same t1).trans K2) (by omega) (by omega) R2'
  ·apply Zdl.A4x0i
   rw [Zpb ik]
   simp only [Zao,Zae,Zam,Zah,Zaj]
   rw [Zbg zk (by simp)]
   simp only [Zas,putRow,List.take_zero,List.length_cons,List.length_nil,List.drop_succ_cons,List.drop_zero,List.drop_nil,List.cons_append,List.nil_append,List.append_nil,Nat.zero_add]
   rw [Zpb (Zce zk)]
   simp only [Zao,Zae,Zam,Zah,Zaj]
   refine ⟨((cl,hd),l),some (y,0),c,e,rfl,hlc,⟨rfl,.inr ⟨y,rfl,hyl,by rw [Zbw (Zgr zk yk (by decide))]; exact yk⟩⟩,⟨hcl,by simp only; omega,by simp only; omega,hls⟩,⟨by have:=Kk.le; simp; omega,fun j hj hji=>by rw [Zbw (by omega)]; exact Kk.eq j hj hji⟩,p4,hp1,by omega,Rk.agree (fun j hj=>by rw [Zbw (by omega)]) (by simp)⟩
 have Rg1':=Rg1.lt
 have hxl:=Own.lt xg1
 have hzl1:=Own.lt zg1
 refine ⟨?_,?_,?_⟩
 ·
  refine (Zdd Rg1 (by omega) (n0:Int)).mono ?_
  rintro v g2 ⟨x,rfl,hx0,hx1,_,pg2,Rg2,lg2⟩
  have hx1:=hx1 (by omega)
  have qg2:=Own.lt xg1
  have q2g2:=Own.lt zg1
  have Kg2:=Kg1.trans pg2
  have xg2:=pg2.get xg1 (by first | omega | (have:=Own.lt xg1; omega))
  have zg2:=pg2.get zg1 (by first | omega | (have:=Own.lt zg1; omega))
  obtain ⟨k,rfl⟩:∃ k:Nat,x=k:=⟨x.toNat,by omega⟩
  obtain ⟨ic,oc,hkc,ha,hicl,_,cg2,_⟩:=(d.kp Kg2 hib).rep.class (k:=k) (by omega)
  subst ha
  have hcl:=(ws.cs _ (List.getElem_mem hkc)).1
  simp only [Zax,Zan xg2,Zan xg1,Zau,Int.toNat_natCast,Nat.add_zero,cg2,Zah,true_and,eq_self,List.getElem?_cons_zero]
  refine ⟨⟨by omega,by omega⟩,?_⟩
  refine ⟨?_,?_⟩
  ·
   generalize hg3:g2 ++ [Zcb.cells Zab [] false]=g3
   have sg3:Zbc g2.length g2 g3:=by rw [← hg3]; exact Zal
   have lg3:g3.length=g2.length + 1:=by rw [← hg3]; simp
   have Kg3:=Kg2.trans (Zem.of_same (i:=i) sg3)
   have Rg3:=Rg2.same sg3
   have xg3:=sg3.get xg2 (Own.lt xg2)
   have zg3:=sg3.get zg2 (Own.lt zg2)
   have eg3:g3[g2.length]?=some (.cells Zab [] false):=by rw [← hg3]; simp
   have qg3:=Own.lt xg2
   have cg3:Zag g3 (.ptr (some (ic,oc + k * 2)))=some (.str w.cs[k].1):=by rw [← hg3,Zuq (by omega)]; exact cg2
   try simp only [Zan xg3,Zan xg2,cg3,cg2,true_and,eq_self,List.getElem?_cons_zero]
   generalize hg4:g3 ++ [Zcb.cells Zad [.str [],.str [],.slice none 0 0 true] false]=g4
   have sg4:Zbc g3.length g3 g4:=by rw [← hg4]; exact Zal
   have lg4:g4.length=g3.length + 1:=by rw [← hg4]; simp
   have Kg4:=Kg3.trans (Zem.of_same (i:=i) sg4)
   have Rg4:=Rg3.same sg4
   have xg4:=sg4.get xg3 (Own.lt xg3)
   have zg4:=sg4.get zg3 (Own.lt zg3)
   have ig4:g4[g3.length]?=some (.cells Zad [.str [],.str [],.slice none 0 0 true] false):=by rw [← hg4]; simp
   have eg4:=sg4.get eg3 (Own.lt eg3)
   have qg4:=Own.lt xg3
   have cg4:Zag g4 (.ptr (some (ic,oc + k * 2)))=some (.str w.cs[k].1):=by rw [← hg4,Zuq (by omega)]; exact cg3
   try simp only [Zan xg4,Zan xg3,cg4,cg3,true_and,eq_self,List.getElem?_cons_zero]
   exact fin g4 g3.length g2.length _ _ Kg4 Rg4 (by omega) (by omega) xg4 zg4 eg4 ig4 (by omega) (by omega) hcl
  ·
   generalize hg5:g2 ++ [Zcb.cells Zad [.str [],.str [],.slice none 0 0 true] false]=g5
   have sg5:Zbc g2.length g2 g5:=by rw [← hg5]; exact Zal
   have lg5:g5.length=g2.length + 1:=by rw [← hg5]; simp
   have Kg5:=Kg2.trans (Zem.of_same (i:=i) sg5)
   have Rg5:=Rg2.same sg5
   have xg5:=sg5.get xg2 (Own.lt xg2)
   have zg5:=sg5.get zg2 (Own.lt zg2)
   have ig5:g5[g2.length]?=some (.cells Zad [.str [],.str [],.slice none 0 0 true] false):=by rw [← hg5]; simp
   have qg5:=Own.lt xg2
   have cg5:Zag g5 (.ptr (some (ic,oc + k * 2)))=some (.str w.cs[k].1):=by rw [← hg5,Zuq (by omega)]; exact cg2
   try simp only [Zan xg5,Zan xg2,cg5,cg2,true_and,eq_self,List.getElem?_cons_zero]
   generalize hg6:g5 ++ [Zcb.cells Zab [] false]=g6
   have sg6:Zbc g5.length g5 g6:=by rw [← hg6]; exact Zal
   have lg6:g6.length=g5.length + 1:=by rw [← hg6]; simp
   have Kg6:=Kg5.trans (Zem.of_same (i:=i) sg6)
   have Rg6:=Rg5.same sg6
   have xg6:=sg6.get xg5 (Own.lt xg5)
   have zg6:=sg6.get zg5 (Own.lt zg5)
   have eg6:g6[g5.length]?=some (.cells Zab [] false):=by rw [← hg6]; simp
   have ig6:=sg6.get ig5 (Own.lt ig5)
   have qg6:=Own.lt xg5
   have cg6:Zag g6 (.ptr (some (ic,oc + k * 2)))=some (.str w.cs[k].1):=by rw [← hg6,Zuq (by omega)]; exact cg5
   try simp only [Zan xg6,Zan xg5,cg6,cg5,true_and,eq_self,List.getElem?_cons_zero]
   exact fin g6 g2.length g5.length _ _ Kg6 Rg6 (by omega) (by omega) xg6 zg6 eg6 ig6 (by omega) (by omega) hcl
 ·
  generalize hg7:g1 ++ [Zcb.cells Zab [] false]=g7
  have sg7:Zbc g1.length g1 g7:=by rw [← hg7]; exact Zal
  have lg7:g7.length=g1.length + 1:=by rw [← hg7]; simp
  have Kg7:=Kg1.trans (Zem.of_same (i:=i) sg7)
  have Rg7:=Rg1.same sg7
  have xg7:=sg7.get xg1 (Own.lt xg1)
  have zg7:=sg7.get zg1 (Own.lt zg1)
  have eg7:g7[g1.length]?=some (.cells Zab [] false):=by rw [← hg7]; simp
  have qg7:=Own.lt xg1
  try simp only [Zan xg7,Zan xg1,true_and,eq_self,List.getElem?_cons_zero]
  refine ⟨?_,?_⟩
  ·
   refine (Zdd Rg7 (by omega) (n0:Int)).mono ?_
   rintro v g8 ⟨x,rfl,hx0,hx1,_,pg8,Rg8,lg8⟩
   have hx1:=hx1 (by omega)
   have qg8:=Own.lt xg7
   have q2g8:=Own.lt zg7
   have Kg8:=Kg7.trans pg8
   have xg8:=pg8.get xg7 (by first | omega | (have:=Own.lt xg7; omega))
   have zg8:=pg8.get zg7 (by first | omega | (have:=Own.lt zg7; omega))
   have eg8:=pg8.get eg7 (by first | omega | (have:=Own.lt eg7; omega))
   obtain ⟨k,rfl⟩:∃ k:Nat,x=k:=⟨x.toNat,by omega⟩
   obtain ⟨ic,oc,hkc,ha,hicl,_,cg8,_⟩:=(d.kp Kg8 hib).rep.class (k:=k) (by omega)
   subst ha
   have hcl:=(ws.cs _ (List.getElem_mem hkc)).1
   simp only [Zax,Zan xg8,Zan xg7,Zau,Int.toNat_natCast,Nat.add_zero,cg8,Zah,true_and,eq_self,List.getElem?_cons_zero]
   refine ⟨⟨by omega,by omega⟩,?_⟩
   generalize hg9:g8 ++ [Zcb.cells Zad [.str [],.str [],.slice none 0 0 true] false]=g9
   have sg9:Zbc g8.length g8 g9:=by rw [← hg9]; exact Zal
   have lg9:g9.length=g8.length + 1:=by rw [← hg9]; simp
   have Kg9:=Kg8.trans (Zem.of_same (i:=i) sg9)
   have Rg9:=Rg8.same sg9
   have xg9:=sg9.get xg8 (Own.lt xg8)
   have zg9:=sg9.get zg8 (Own.lt zg8)
   have ig9:g9[g8.length]?=some (.cells Zad [.str [],.str [],.slice none 0 0 true] false):=by rw [← hg9]; simp
   have eg9:=sg9.get eg8 (Own.lt eg8)
   have qg9:=Own.lt xg8
   have cg9:Zag g9 (.ptr (some (ic,oc + k * 2)))=some (.str w.cs[k].1):=by rw [← hg9,Zuq (by omega)]; exact cg8
   try simp only [Zan xg9,Zan xg8,cg9,cg8,true_and,eq_self,List.getElem?_cons_zero]
   exact fin g9 g8.length g1.length _ _ Kg9 Rg9 (by omega) (by omega) xg9 zg9 eg9 ig9 (by omega) (by omega) hcl
  ·
   generalize hg10:g7 ++ [Zcb.cells Zad [.str [],.str [],.slice none 0 0 true] false]=g10
   have sg10:Zbc g7.length g7 g10:=by rw [← hg10]; exact Zal
   have lg10:g10.length=g7.length + 1:=by rw [← hg10]; simp
   have Kg10:=Kg7.trans (Zem.of_same (i:=i) sg10)
   have Rg10:=Rg7.same sg10
   have xg10:=sg10.get xg7 (Own.lt xg7)
   have zg10:=sg10.get zg7 (Own.lt zg7)
   have ig10:g10[g7.length]?=some (.cells Zad [.str [],.str [],.slice none 0 0 true] false):=by rw [← hg10]; simp
   have eg10:=sg10.get eg7 (Own.lt eg7)
   have qg10:=Own.lt xg7
   try simp only [Zan xg10,Zan xg7,true_and,eq_self,List.getElem?_cons_zero]
   refine (Zdd Rg10 (by omega) (n0:Int)).mono ?_
   rintro v g11 ⟨x,rfl,hx0,hx1,_,pg11,Rg11,lg11⟩
   have hx1:=hx1 (by omega)
   have qg11:=Own.lt xg10
   have q2g11:=Own.lt zg10
   have Kg11:=Kg10.trans pg11
   have xg11:=pg11.get xg10 (by first | omega | (have:=Own.lt xg10; omega))
   have zg11:=pg11.get zg10 (by first | omega | (have:=Own.lt zg10; omega))
   have eg11:=pg11.get eg10 (by first | omega | (have:=Own.lt eg10; omega))
   have ig11:=pg11.get ig10 (by first | omega | (have:=Own.lt ig10; omega))
   obtain ⟨k,rfl⟩:∃ k:Nat,x=k:=⟨x.toNat,by omega⟩
   obtain ⟨ic,oc,hkc,ha,hicl,_,cg11,_⟩:=(d.kp Kg11 hib).rep.class (k:=k) (by omega)
   subst ha
   have hcl:=(ws.cs _ (List.getElem_mem hkc)).1
   simp only [Zax,Zan xg11,Zan xg10,Zau,Int.toNat_natCast,Nat.add_zero,cg11,Zah,true_and,eq_self,List.getElem?_cons_zero]
   refine ⟨⟨by omega,by omega⟩,?_⟩
   exact fin g11 g7.length g1.length _ _ Kg11 Rg11 (by omega) (by omega) xg11 zg11 eg11 ig11 (by omega) (by omega) hcl
 ·
  generalize hg12:g1 ++ [Zcb.cells Zad [.str [],.str [],.slice none 0 0 true] false]=g12
  have sg12:Zbc g1.length g1 g12:=by rw [← hg12]; exact Zal
  have lg12:g12.length=g1.length + 1:=by rw [← hg12]; simp
  have Kg12:=Kg1.trans (Zem.of_same (i:=i) sg12)
  have Rg12:=Rg1.same sg12
  have xg12:=sg12.get xg1 (Own.lt xg1)
  have zg12:=sg12.get zg1 (Own.lt zg1)
  have ig12:g12[g1.length]?=some (.cells Zad [.str [],.str [],.slice none 0 0 true] false):=by rw [← hg12]; simp
  have qg12:=Own.lt xg1
  try simp only [Zan xg12,Zan xg1,true_and,eq_self,List.getElem?_cons_zero]
  refine ⟨?_,?_⟩
  ·
   refine (Zdd Rg12 (by omega) (n0:Int)).mono ?_
   rintro v g13 ⟨x,rfl,hx0,hx1,_,pg13,Rg13,lg13⟩
   have hx1:=hx1 (by omega)
   have qg13:=Own.lt xg12
   have q2g13:=Own.lt zg12
   have Kg13:=Kg12.trans pg13
   have xg13:=pg13.get xg12 (by first | omega | (have:=Own.lt xg12; omega))
   have zg13:=pg13.get zg12 (by first | omega | (have:=Own.lt zg12; omega))
   have ig13:=pg13.get ig12 (by first | omega | (have:=Own.lt ig12; omega))
   obtain ⟨k,rfl⟩:∃ k:Nat,x=k:=⟨x.toNat,by omega⟩
   obtain ⟨ic,oc,hkc,ha,hicl,_,cg13,_⟩:=(d.kp Kg13 hib).rep.class (k:=k) (by omega)
   subst ha
   have hcl:=(ws.cs _ (List.getElem_mem hkc)).1
   simp only [Zax,Zan xg13,Zan xg12,Zau,Int.toNat_natCast,Nat.add_zero,cg13,Zah,true_and,eq_self,List.getElem?_cons_zero]
   refine ⟨⟨by omega,by omega⟩,?_⟩
   generalize hg14:g13 ++ [Zcb.cells Zab [] false]=g14
   have sg14:Zbc g13.length g13 g14:=by rw [← hg14]; exact Zal
   have lg14:g14.length=g13.length + 1:=by rw [← hg14]; simp
   have Kg14:=Kg13.trans (Zem.of_same (i:=i) sg14)
   have Rg14:=Rg13.same sg14
   have xg14:=sg14.get xg13 (Own.lt xg13)
   have zg14:=sg14.get zg13 (Own.lt zg13)
   have eg14:g14[g13.length]?=some (.cells Zab [] false):=by rw [← hg14]; simp
   have ig14:=sg14.get ig13 (Own.lt ig13)
   have qg14:=Own.lt xg13
   have cg14:Zag g14 (.ptr (some (ic,oc + k * 2)))=some (.str w.cs[k].1):=by rw [← hg14,Zuq (by omega)]; exact cg13
   try simp only [Zan xg14,Zan xg13,cg14,cg13,true_and,eq_self,List.getElem?_cons_zero]
   exact fin g14 g1.length g13.length _ _ Kg14 Rg14 (by omega) (by omega) xg14 zg14 eg14 ig14 (by omega) (by omega) hcl
  ·
   generalize hg15:g12 ++ [Zcb.cells Zab [] false]=g15
   have sg15:Zbc g12.length g12 g15:=by rw [← hg15]; exact Zal
   have lg15:g15.length=g12.length + 1:=by rw [← hg15]; simp
   have Kg15:=Kg12.trans (Zem.of_same (i:=i) sg15)
   have Rg15:=Rg12.same sg15
   have xg15:=sg15.get xg12 (Own.lt xg12)
   have zg15:=sg15.get zg12 (Own.lt zg12)
   have eg15:g15[g12.length]?=some (.cells Zab [] false):=by rw [← hg15]; simp
   have ig15:=sg15.get ig12 (Own.lt ig12)
   have qg15:=Own.lt xg12
   try simp only [Zan xg15,Zan xg12,true_and,eq_self,List.getElem?_cons_zero]
   refine (Zdd Rg15 (by omega) (n0:Int)).mono ?_
   rintro v g16 ⟨x,rfl,hx0,hx1,_,pg16,Rg16,lg16⟩
   have hx1:=hx1 (by omega)
   have qg16:=Own.lt xg15
   have q2g16:=Own.lt zg15
   have Kg16:=Kg15.trans pg16
   have xg16:=pg16.get xg15 (by first | omega | (have:=Own.lt xg15; omega))
   have zg16:=pg16.get zg15 (by first | omega | (have:=Own.lt zg15; omega))
   have eg16:=pg16.get eg15 (by first | omega | (have:=Own.lt eg15; omega))
   have ig16:=pg16.get ig15 (by first | omega | (have:=Own.lt ig15; omega))
   obtain ⟨k,rfl⟩:∃ k:Nat,x=k:=⟨x.toNat,by omega⟩
   obtain ⟨ic,oc,hkc,ha,hicl,_,cg16,_⟩:=(d.kp Kg16 hib).rep.class (k:=k) (by omega)
   subst ha
   have hcl:=(ws.cs _ (List.getElem_mem hkc)).1
   simp only [Zax,Zan xg16,Zan xg15,Zau,Int.toNat_natCast,Nat.add_zero,cg16,Zah,true_and,eq_self,List.getElem?_cons_zero]
   refine ⟨⟨by omega,by omega⟩,?_⟩
   exact fin g16 g1.length g12.length _ _ Kg16 Rg16 (by omega) (by omega) xg16 zg16 eg16 ig16 (by omega) (by omega) hcl
--END ORDERS
end Go.Sim

set_option linter.unusedVariables false
set_option linter.unusedSimpArgs false
set_option maxRecDepth 20000
namespace Go.Sim
open Go Go.RowKit

theorem WDr.setW {b:Nat} {h:Zaa} {a0:Pt} {n0 c0 q n1 c1:Nat} {ys:List EI} {w:Wd} {z:Nat} {cs:List Zay} {x:Zcb} (d:WDr b h a0 n0 c0 q n1 c1 ys w) (hz:h[z]?=some (.cells Zac cs false)):WDr b (h.set z x) a0 n0 c0 q n1 c1 ys w:=by
 have off:∀ {j:Nat} {t:TypeId} {c:List Zay},h[j]?=some (.cells t c false)→t≠Zac→(h.set z x)[j]?=some (.cells t c false):=fun {j t c} hj hne=>by rw [Zbw (Zgr hz hj (Ne.symm hne))]; exact hj
 exact ⟨⟨d.cls.1,d.cls.2.imp id fun ⟨i,ha,hb,hi⟩=>⟨i,ha,hb,off hi (by decide)⟩⟩,d.le0,d.bq,off d.ob (by decide),d.len,d.wl,d.le1,fun k x' i hx hi=>⟨(d.need k x' i hx hi).1,(d.need k x' i hx hi).2.1,⟨(d.need k x' i hx hi).2.2.1,(d.need k x' i hx hi).2.2.2.imp id fun ⟨i,ha,hb,hi⟩=>⟨i,ha,hb,off hi (by decide)⟩⟩⟩⟩
theorem RdK.setW {i p k z:Nat} {h h':Zaa} {x:Zcb} (r:RdK i p k h h') (hz:h.length≤z) (hi:i < h.length):RdK i p k h (h'.set z x):=
 ⟨⟨by have:=r.1.le; simp; omega,fun j hj hji=>by rw [Zbw (by omega)]; exact r.1.eq j hj hji⟩,r.2.imp fun p' ⟨h1,h2,h3⟩=>⟨h1,h2,h3.agree (fun j hj=>Zbw (by omega)) (by simp)⟩⟩
def DWQ (i p k m:Nat) (h:Zaa) (v:Zay) (h':Zaa):Prop:=∃ u w,v=.agg u∧Xas h h' u w∧WS m w∧RdK i p k h h'
theorem Yse {h:Zaa} {i p:Nat} (r:Rdr h i p) (hp:p≤700000000000):Zak pg Zsr [.ptr (some (i,0))] h (DWQ i p 100000 1010 h):=by
 have hil:=r.lt
 apply Zmv.call
 simp only [Zaw]
 generalize hg0:h ++ [Zcb.cells Zac [.slice none 0 0 true,.slice none 0 0 true] false]=g0
 have s0:Zbc h.length h g0:=by rw [← hg0]; exact Zal
 have z0:g0[h.length]?=some (.cells Zac [.slice none 0 0 true,.slice none 0 0 true] false):=by rw [← hg0]; simp
 have l0:g0.length=h.length + 1:=by rw [← hg0]; simp
 refine (Zdd (r.same s0) (by omega) 2).mono ?_
 rintro v g1 ⟨x,rfl,_,_,_,K1,R1,l1⟩
 have z1:=K1.get z0 (by omega)
 have KK1:=(Zem.of_same (i:=i) s0).trans K1
 simp only [Zax]
 refine Zcw (fun _=>?_) (fun _=>?_)
 ·refine (Zdd R1 (by omega) 9).mono ?_
  rintro v g2 ⟨y,rfl,hy0,hy1,_,K2,R2,l2⟩
  simp only [Zax]
  refine (Yow hy0 (hy1 (by omega))).mono ?_
  rintro v g3 ⟨s3,u,w,rfl,⟨a0,n0,c0,e0,q,n1,c1,e1,ys,rfl,d⟩,ws⟩
  have z3:=s3.get (K2.get z1 (by omega)) (by have:=Own.lt z1; omega)
  have K3:=(KK1.trans K2).trans (Zem.of_same s3)
  simp only [Zdt,Zae,Zaj,Zam]
  rw [Zbg z3 (by simp)]
  simp only [Zas,putRow,List.take_zero,List.length_cons,List.length_nil,List.drop_succ_cons,List.drop_zero,List.drop_nil,List.cons_append,List.nil_append,List.append_nil,Nat.zero_add]
  rw [Zaz (Zce z3)]
  simp only [Zao,Zae,Zam,Zaj]
  have rk:RdK i p 100000 h g3:=⟨K3,_,by omega,by omega,R2.same s3⟩
  exact ⟨_,w,rfl,⟨a0,n0,c0,e0,q,n1,c1,e1,ys,rfl,(d.low (by omega)).setW z3⟩,ws.mono (by omega),rk.setW (Nat.le_refl _) hil⟩
 ·have h1l:=R1.lt
  refine (Znk (R1.app _) (by omega) (j:=g1.length) (t:=Zbi) (n:=5) (l:=Zxp) (by simp [Zdb,eS,Zxp]) (by omega) rfl (by omega)).mono ?_
  rintro v g2 ⟨s,hs,rfl,K2,R2,l2⟩
  simp only [Zah]
  have hsz:s.length≤900∧∀ b∈s,b < 256:=by
   simp only [Zxp,List.mem_cons,List.not_mem_nil,or_false] at hs
   rcases hs with rfl | rfl | rfl | rfl | rfl <;> exact ⟨by decide,by decide⟩
  obtain ⟨hcs,his⟩:=Yxs s hs
  have K02:=(KK1.trans (Zem.app i g1 [Zcb.cells Zbi [.str [69],.str [69,32,79,60,69],.str [65,32,66],.str [65,32,66,60,65,32,67,60,65,66],.str [69,32,79,60,69,32,83]] false])).trans K2
  have z2:=K2.get (Zib z1) (by omega)
  refine (Zvq s hsz.1 hsz.2).mono ?_
  rintro v g3 ⟨s3,u,bb,rfl,a0,n0,c0,e0,q,n1,c1,e1,ys,rfl,d⟩
  have z3:=s3.get z2 (Own.lt z2)
  have K03:=K02.trans (Zem.of_same s3)
  simp only [Zco,Zdt,Zae,Zaj,Zam,Zaq]
  rw [Zfb]
  simp only [Zas]
  generalize hg4:g3 ++ [Zcb.cells Zac [.slice a0 n0 c0 e0,.slice (some (q,0)) n1 c1 e1] false]=g4
  have s4:Zbc g3.length g3 g4:=by rw [← hg4]; exact Zal
  have y4:g4[g3.length]?=some (.cells Zac [.slice a0 n0 c0 e0,.slice (some (q,0)) n1 c1 e1] false):=by rw [← hg4]; simp
  have z4:=s4.get z3 (Own.lt z3)
  have K04:=K03.trans (Zem.of_same s4)
  have hz2:=Own.lt z2
  have l3:=s3.le
  have hiz:i≠g3.length:=by omega
  refine (Zdd ((R2.same s3).same s4) (by omega) 6).mono ?_
  rintro v g5 ⟨x5,rfl,hx50,hx51,_,K5,R5,l5⟩
  have hx51:=hx51 (by omega)
  simp only [Zax]
  rw [IntWalk.i64_in (1 + x5) (by omega)]
  have y5:=K5.get y4 (by omega)
  have z5:=K5.get z4 (by omega)
  have K05:=K04.trans K5
  have ws0:=Yad hsz.1 hsz.2
  have hn0:1≤n0:=by
   have:=d.cls.1
   have h2:(wdP s).cs.length≠0:=fun e=>hcs (List.eq_nil_of_length_eq_zero e)
   omega
  have d5:WDr h.length g5 a0 n0 c0 q n1 c1 ys (wdP s):=(((d.low (by omega)).same s4)).kp K5 (by omega)
  refine Zmv.L5ind (J:=fun (g:Nat) x21 k=>x21=(g:Int)∧(g:Int)≤1 + x5∧Zem i h k∧(∃ p',p≤p'∧p'≤p + 10 + g * 10000∧Rdr k i p')∧k[h.length]?=some (.cells Zac [.slice none 0 0 true,.slice none 0 0 true] false) ∧
    ∃ q n1 c1 e1 ys w,k[g3.length]?=some (.cells Zac [.slice a0 n0 c0 e0,.slice (some (q,0)) n1 c1 e1] false)∧WDr h.length k a0 n0 c0 q n1 c1 ys w∧WS (1000 + g) w) (m:=fun g=>(1 + x5).toNat - g) (hr:=?_) (g:=0)
   (hj:=⟨rfl,by omega,K05,⟨_,by omega,by omega,R5⟩,z5,q,n1,c1,e1,ys,_,y5,d5,ws0⟩) ..
  rintro g x21 k ⟨rfl,hg,Kk,⟨p4,hp1,hp2,Rk⟩,zk,q,n1,c1,e1,ys,w,yk,dk,wsk⟩ R hR
  have hkl:=Rk.lt
  have hyl:=Own.lt yk
  have hn1:n1≤2000:=by have:=wsk.li; have:=dk.wl; omega
  unfold Zmv.L5t
  refine Zar (fun hlt=>?_) (fun hge=>?_)
  ·simp only [Zan yk,Nat.zero_add,List.getElem?_cons_succ,List.getElem?_cons_zero,Zaj]
   rw [Zaz yk]
   simp only [Zao,Zae,Zam,Zaj,true_and]
   refine (Zym Rk (by omega) dk (by omega) hn0 wsk).mono ?_
   rintro v k1 ⟨I,na,nc,ne,rfl,hnc,nf,isz,K1',p5,hp3,hp4,R5'⟩
   have yk1:=K1'.get yk (by omega)
   have zk1:=K1'.get zk (by omega)
   have dk1:=dk.kp K1' (by omega)
   have hk1l:=K1'.le
   simp only [Zdt,Zae,Zam,Zah,Zaj,Zaw]
   refine ⟨by rw [Zan yk1]; rfl,by rw [Zan (Zib yk1),Zan yk1],?_⟩
   refine (Vec.mk1 (n:=n1) (c:=c1) dk1.ob).pushN (sz:=3) Zrz Ych Yba Yby (by rw [Zat Zrs,dk1.len]) rfl (by omega) rfl (by omega) (fun k2 hl2 hi2 hk2=>?_)
   have hqb:=dk1.bq
   have yk2:k2[g3.length]?=some (.cells Zac [.slice a0 n0 c0 e0,.slice (some (q,0)) n1 c1 e1] false):=by rw [hk2 _ (Own.lt yk1) (fun i hi=>by cases hi; exact Zgr yk1 dk1.ob (by decide))]; exact yk1
   have zk2:k2[h.length]?=some (.cells Zac [.slice none 0 0 true,.slice none 0 0 true] false):=by rw [hk2 _ (Own.lt zk1) (fun i hi=>by cases hi; exact Zgr zk1 dk1.ob (by decide))]; exact zk1
   simp only [Zaj]
   rw [Zbg yk2 (by simp)]
   simp only [Zas,putRow,List.take_succ_cons,List.take_zero,List.length_cons,List.length_nil,List.drop_succ_cons,List.drop_zero,List.drop_nil,List.cons_append,List.nil_append,List.append_nil]
   rw [Zbm (by omega)]
   have dk2:WDr h.length k2 a0 n0 c0 (k1.length + 1) (n1 + 1) (n1 + 1) (ys ++ [⟨I.1.1,I.1.2,na,I.2.length,nc,ne⟩]) ⟨w.cs,w.is ++ [I]⟩:=
    dk1.push (z:=q) (x:=⟨I.1.1,I.1.2,na,I.2.length,nc,ne⟩) ⟨rfl,rfl,nf.low (by omega)⟩ (by omega) (by simpa [eN] using hi2) (fun o ho=>by rw [dk1.ob] at ho; cases ho; exact ⟨_,rfl⟩) (fun j hj hne=>hk2 j hj (fun i hi=>by cases hi; exact hne)) (Nat.le_refl _)
   have K2':Zem i h k2:=by
    have K01:=Kk.trans K1'
    have:=K01.le
    exact ⟨by omega,fun j hj hji=>by rw [hk2 j (by omega) (fun i' hi'=>by cases hi'; omega)]; exact K01.eq j hj hji⟩
   have rk:RdK i p (10 + (g + 1) * 10000) h k2:=⟨K2',p5,by omega,by omega,R5'.agree (fun j hj=>hk2 j (by omega) (fun i' hi'=>by cases hi'; omega)) (by omega)⟩
   obtain ⟨K3',p6,hp5,hp6,R6⟩:=rk.setW (z:=g3.length) (x:=.cells Zac [.slice a0 n0 c0 e0,.slice (some (k1.length + 1,0)) (n1 + 1) (n1 + 1) false] false) (by omega) hil
   exact hR (g + 1) _ _ (by omega) ⟨rfl,by omega,K3',⟨p6,hp5,by omega,R6⟩,by rw [Zbw (by omega)]; exact zk2,k1.length + 1,n1 + 1,n1 + 1,false,_,_,Zce yk2,dk2.setW yk2,wsk.addI isz⟩
  ·apply Zmv.A5x0i
   rw [Zaz yk]
   simp only [Zao,Zae,Zam,Zaj]
   rw [Zbg zk (by simp)]
   simp only [Zas,putRow,List.take_zero,List.length_cons,List.length_nil,List.drop_succ_cons,List.drop_zero,List.drop_nil,List.cons_append,List.nil_append,List.append_nil,Nat.zero_add]
   rw [Zaz (Zce zk)]
   simp only [Zao,Zae,Zam,Zaj]
   have rk:RdK i p 100000 h k:=⟨Kk,p4,hp1,by omega,Rk⟩
   exact ⟨_,w,rfl,⟨a0,n0,c0,e0,q,n1,c1,e1,ys,rfl,dk.setW zk⟩,wsk.mono (by omega),rk.setW (Nat.le_refl _) hil⟩
end Go.Sim
