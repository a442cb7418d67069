/- A part of the proof of a statement of this seat: see the text that holds the theorem. No condition. -/
import Derived.Test.YtflfcofeedjblaaPTCOwn
import Derived.Test.YtflfcofeedjblaaCLawI
import Derived.Test.YtflfcofeedjblaaNm
import Derived.Test.YtflfcofeedjblaaCSplit
import Derived.Test.YtflfcofeedjblaaPTCSrch
set_option linter.unusedVariables false
set_option linter.unusedSimpArgs false
set_option linter.all false
set_option linter.unusedVariables false
set_option linter.unusedSimpArgs false
set_option maxRecDepth 20000
namespace Go.Sim
open Go Go.RowKit
theorem Znn {h:Zab} {b:Nat} {a:Pt} {n c:Nat} {e:Bool} {l:List Nd} {k:Int} (f:Zcd Zat eP b h a n l) (hk:0≤k∧k + 2 * n≤4611686018427387000) :
  Zag pg Zie [.slice a n c e,.int .i64 k] h fun v h'=>v=.int .i64 (k + 2 * n)∧Ztz a n h h'∧Zcd Zat eP b h' a n (Zhk k n):=by
 apply Zey.call
 obtain ⟨hl,hf⟩:=f
 refine Zey.L2ind _ _ _ _ _ (J:=fun (g:Nat) x1 x5 h'=>x5=(g:Int)∧g≤n∧x1=k + 2 * g∧Ztz a n h h'∧(n=0 ∨ ∃ i,a=some (i,0)∧b≤i∧h'[i]?=some (.cells Zat (Zdf eP (Zhk k g ++ l.drop g)) false))) (fun g=>n - g) ?_ 0 _ _ _
  ⟨rfl,by omega,by simp,Ztz.refl _ _ _,by simpa [Zhk] using hf⟩
 rintro g x1 x5 h' ⟨rfl,hg,rfl,hO,hst⟩ R hR
 unfold Zey.L2t
 refine Zaq (fun hlt=>?_) (fun hge=>?_)
 ·rcases hst with h0 | ⟨i,rfl,hbi,ho⟩
  ·omega
  have hn0:n≠0:=by omega
  have hgl:g < (Zhk k g ++ l.drop g).length:=by simp [Zex]; omega
  have hlen:(Zdf eP (Zhk k g ++ l.drop g)).length=n * 2:=by rw [Zbl Zdg]; simp [Zex]; omega
  refine (Zdq (by omega)).mono ?_
  rintro v h1 ⟨rfl,s1⟩
  simp only [Zaj,Zbd,Int.toNat_natCast,Nat.zero_add,Nat.add_zero]
  have ho1:h1[i]?=some (.cells Zat (Zdf eP (Zhk k g ++ l.drop g)) false):=by rw [s1.eq i (Own.lt ho)]; exact ho
  rw [Zay ho1 (by rw [hlen]; simp; omega)]
  simp only [Zam]
  refine ⟨by omega,(Zdq (by rw [IntWalk.i64_in _ (by omega)]; omega)).mono ?_⟩
  rintro v h2 ⟨rfl,s2⟩
  simp only [Zaj]
  rw [IntWalk.i64_in (k + 2 * (g:Int) + 1) (by omega)]
  have ho2:h2[i]?=some (.cells Zat (Zbj (Zdf eP (Zhk k g ++ l.drop g)) (g * 2) [.str (Zfu (k + 2 * g))]) false):=by rw [s2.eq i (by simp; exact Own.lt ho1)]; exact Zbm ho1
  have hlen2:(Zbj (Zdf eP (Zhk k g ++ l.drop g)) (g * 2) [.str (Zfu (k + 2 * g))]).length=n * 2:=by rw [Zog (by rw [hlen]; simp; omega),hlen]
  rw [Zay ho2 (by rw [hlen2]; simp; omega)]
  simp only [Zam]
  rw [IntWalk.i64_in _ (by omega),Zcp (by omega)]
  refine ⟨by omega,hR (g + 1) _ _ _ (by omega) ⟨rfl,by omega,by omega,((hO.same s1).set hn0 |>.same s2).set hn0,.inr ⟨i,rfl,hbi,?_⟩⟩⟩
  rw [Zbm ho2,Ycx hgl]
  congr 3
  rw [List.take_left' (Zex k g),Zsn]
  have:(Zhk k g ++ l.drop g).drop (g + 1)=l.drop (g + 1):=by
   rw [← List.drop_drop,List.drop_left' (Zex k g),List.drop_drop]
  rw [this]; simp
 ·have:g=n:=by omega
  subst this
  apply Zey.A2x0i
  refine ⟨rfl,hO,Zex _ _,?_⟩
  rw [List.drop_of_length_le (by omega),List.append_nil] at hst
  exact hst
theorem Zro {h:Zab} {a:Pt} {n c:Nat} {e:Bool} {k:Int} (r:Row h.length h a (n * 2) (Zdf eP (Zhk k n))) (hk:0≤k∧k + 2 * n≤4611686018427387000) :
  Zag pg Zib [.slice a n c e,.int .i64 k] h fun v h'=>v=.int .i64 (k + 2 * n)∧Zbb h.length h h':=by
 apply Zfa.call
 refine Zfa.L2ind _ _ _ _ _ (J:=fun (g:Nat) x1 x5 h'=>x5=(g:Int)∧g≤n∧x1=k + 2 * g∧Zbb h.length h h') (fun g=>n - g) ?_ 0 _ _ _ ⟨rfl,by omega,by simp,Zbb.refl _ _⟩
 rintro g x1 x5 h' ⟨rfl,hg,rfl,hS⟩ R hR
 unfold Zfa.L2t
 refine Zaq (fun hlt=>?_) (fun hge=>?_)
 ·obtain ⟨i,o,hgl,rfl,hi,_,hc⟩:=Row.el Zdg (r.same hS) (Zex k n) (k:=g) (by omega) (by omega)
  rw [Zul k (by omega)] at hc
  have c0:=hc 0 (by omega)
  have c1:=hc 1 (by omega)
  simp only [eP,List.getElem?_cons_zero,List.getElem?_cons_succ] at c0 c1
  simp only [Zbd,Int.toNat_natCast,c0,Zaj]
  refine ⟨by omega,(Zdq (by omega)).mono ?_⟩
  rintro v h1 ⟨rfl,s1⟩
  have hl:=hS.le
  simp only [Zaj]
  have c01:=(s1.mono hl).cell (by omega) c0
  have c11:=(s1.mono hl).cell (by omega) c1
  refine ⟨c01,?_⟩
  simp only [decide_true,Bool.not_true,Zbr,Zbd,c11,Zaj]
  refine ⟨by omega,(Zdq (by rw [IntWalk.i64_in _ (by omega)]; omega)).mono ?_⟩
  rintro v h2 ⟨rfl,s2⟩
  rw [IntWalk.i64_in (k + 2 * (g:Int) + 1) (by omega)]
  simp only [Zaj,decide_true,Bool.not_true,Zbr]
  have S1:=hS.trans (s1.mono hl)
  have c12:=(s2.mono S1.le).cell (by omega) c11
  rw [IntWalk.i64_in _ (by omega),Zcp (by omega)]
  exact ⟨c12,hR (g + 1) _ _ _ (by omega) ⟨rfl,by omega,by omega,S1.trans (s2.mono S1.le)⟩⟩
 ·have:g=n:=by omega
  subst this
  exact Zfa.A2x0i _ _ _ ⟨rfl,hS⟩


theorem Ztw {cs:List Zai} {o:Nat} {v:Zai} (h:o < cs.length):Zbj cs o [v]=cs.set o v:=by
 unfold Zbj; rw [List.set_eq_take_append_cons_drop,if_pos h]; simp
theorem Zka {h:Zab} {i j:Nat} {t t':TypeId} {cs cs':List Zai} (hi:h[i]?=some (.cells t cs false)) (hj:h[j]?=some (.cells t' cs' false)) (ht:t≠t'):i≠j:=by
 intro e; subst e; rw [hi] at hj; cases hj; exact ht rfl
theorem Yet:Zaa≠Zap:=by decide
theorem Zcd.off {α:Type} {ty:TypeId} {enc:α→List Zai} {b:Nat} {h h':Zab} {a:Pt} {n:Nat} {l:List α} (f:Zcd ty enc b h a n l) (hk:∀ i,a=some (i,0)→n≠0→i < h.length→h'[i]?=h[i]?):Zcd ty enc b h' a n l:=by
 obtain ⟨hl,h0 | ⟨i,ha,hb,hi⟩⟩:=f
 ·exact ⟨hl,.inl h0⟩
 ·by_cases hn:n=0
  ·exact ⟨hl,.inl hn⟩
  ·exact ⟨hl,.inr ⟨i,ha,hb,by rw [hk i ha hn (Own.lt hi)]; exact hi⟩⟩
theorem Zpq {h:Zab} {b n c:Nat} {e:Bool} {a:Pt} {ys:List EI} {is:List Ins} {k:Int} (f:Zcd Zaa eN b h a n ys) (hl:ys.length=is.length) (hn20:n≤1048576) (hi20:∀ i∈is,i.2.length≤1048576)
  (hN:∀ (k:Nat) (x:EI) (i:Ins),ys[k]?=some x→is[k]?=some i→Zcd Zap eP b h x.a x.n i.2) (sep:∀ (j k:Nat) (x y:EI),j≠k→ys[j]?=some x→ys[k]?=some y→x.n≠0→y.n≠0→x.a≠y.a)
  {H:Nat} (hH:∀ i,a=some (i,0)→n≠0→i < H) (hHn:∀ (q:Nat) (x:EI),ys[q]?=some x→∀ j,x.a=some (j,0)→x.n≠0→j < H)
  (hk:0≤k∧k≤4398046511104):Zag pg Zeu [.slice a n c e,.int .i64 k] h fun v h'=>(∃ z,v=.int .i64 z∧0≤z∧z≤13194139533312)∧Mid b H h h':=by
 apply Zcr.call
 obtain ⟨hyl,hf⟩:=f
 refine Zcr.L2ind _ _ _ _ _ (J:=fun (g:Nat) x1 x5 h'=>x5=(g:Int)∧g≤n∧0≤x1∧x1≤k + g * 2097160∧Mid b H h h' ∧
   (n=0 ∨ ∃ i cs,a=some (i,0)∧b≤i∧i < H∧h'[i]?=some (.cells Zaa cs false)∧cs.length=n * 3∧∀ (q:Nat) (x:EI),ys[q]?=some x→cs[q * 3 + 2]?=some (.slice x.a x.n x.cp x.e)) ∧
   (∀ (q:Nat) (x:EI) (i:Ins),g≤q→ys[q]?=some x→is[q]?=some i→Zcd Zap eP b h' x.a x.n i.2∧∀ j,x.a=some (j,0)→x.n≠0→j < H)) (fun g=>n - g) ?_ 0 _ _ _
  ⟨rfl,by omega,hk.1,by omega,Mid.refl _ _ _,?_,?_⟩
 ·rintro g x1 x5 h' ⟨rfl,hg,h0,hx1,hM,hst,hrow⟩ R hR
  unfold Zcr.L2t
  refine Zaq (fun hlt=>?_) (fun hge=>?_)
  ·rcases hst with hz | ⟨i,cs,rfl,hbi,hih,hi,hcl,hsl⟩
   ·omega
   have hgy:g < ys.length:=by omega
   have hgi:g < is.length:=by omega
   have hB:(g:Int) * 2097160≤1048576 * 2097160:=by omega
   have hlm:=hM.1
   refine (Zdq (by omega)).mono ?_
   rintro v h1 ⟨rfl,s1⟩
   simp only [Zaj,Zbd,Int.toNat_natCast,Nat.zero_add,Nat.add_zero]
   have i1:=s1.get hi (Own.lt hi)
   rw [Zay i1 (by rw [hcl]; simp; omega),Ztw (by rw [hcl]; omega)]
   simp only [Zam]
   refine ⟨by omega,(Zdq (by rw [IntWalk.i64_in _ (by omega)]; omega)).mono ?_⟩
   rintro v h2 ⟨rfl,s2⟩
   simp only [Zaj]
   have i2:=s2.get (Zbm i1 (x:=.cells Zaa (cs.set (g * 3) (.str (Zfu x1))) false)) (by simp; exact Own.lt i1)
   rw [Zay i2 (by rw [List.length_set,hcl]; simp; omega),Ztw (by rw [List.length_set,hcl]; omega)]
   simp only [Zam]
   have i3:=Zbm i2 (x:=.cells Zaa ((cs.set (g * 3) (.str (Zfu x1))).set (g * 3 + 1) (.str (Zfu (IntKind.wrap .i64 (x1 + 1))))) false)
   have hcell:((cs.set (g * 3) (.str (Zfu x1))).set (g * 3 + 1) (.str (Zfu (IntKind.wrap .i64 (x1 + 1)))))[g * 3 + 2]?=some (.slice ys[g].a ys[g].n ys[g].cp ys[g].e):=by
    rw [List.getElem?_set_ne (by omega),List.getElem?_set_ne (by omega)]
    exact hsl g ys[g] (List.getElem?_eq_getElem hgy)
   refine ⟨by omega,by omega,?_⟩
   rw [Zba i3,hcell]
   simp only [Zae]
   rw [IntWalk.i64_in (x1 + 1) (by omega),IntWalk.i64_in (x1 + 1 + 1) (by omega)] at *
   generalize hh3:h2.set i (.cells Zaa ((cs.set (g * 3) (.str (Zfu x1))).set (g * 3 + 1) (.str (Zfu (x1 + 1)))) false)=h3 at *
   have M3:Mid b H h h3:=by
    rw [← hh3]
    exact ((((hM.same s1).set hbi hih).same s2).set hbi hih)
   have oth:∀ j,j≠i→j < h'.length→h3[j]?=h'[j]?:=fun j hj hjl=>by
    rw [← hh3,Zbn (Ne.symm hj),s2.eq j (by simp; have:=s1.le; omega),Zbn (Ne.symm hj),s1.eq j hjl]
   have hrow3:∀ (q:Nat) (x:EI) (ii:Ins),g≤q→ys[q]?=some x→is[q]?=some ii→Zcd Zap eP b h3 x.a x.n ii.2∧∀ j,x.a=some (j,0)→x.n≠0→j < H:=fun q x ii hq hx hii=>by
    obtain ⟨p1,p2⟩:=hrow q x ii hq hx hii
    refine ⟨p1.off fun j ha hn hj=>oth j (fun e=>?_) hj,p2⟩
    subst e
    rcases p1.2 with h0 | ⟨j',ha',_,hj'⟩
    ·exact hn h0
    ·rw [ha] at ha'; cases ha'
     exact Zka hi hj' Yet rfl
   obtain ⟨p1,p2⟩:=hrow3 g ys[g] is[g] (Nat.le_refl _) (List.getElem?_eq_getElem hgy) (List.getElem?_eq_getElem hgi)
   have hlen:=hi20 is[g] (List.getElem_mem hgi)
   have hpn:=p1.1
   refine (Zmt p1 (k:=x1 + 1 + 1) (by omega)).mono ?_
   rintro v h4 ⟨rfl,o4,f4⟩
   simp only [Zbg]
   rw [Zcp (by omega)]
   have i4:h4[i]?=some (.cells Zaa ((cs.set (g * 3) (.str (Zfu x1))).set (g * 3 + 1) (.str (Zfu (x1 + 1)))) false):=by
    rw [o4.2 i (Own.lt i3) fun j hj hn=>?_]; exact i3
    rcases p1.2 with h0 | ⟨j',ha',_,hj'⟩
    ·exact absurd h0 hn
    ·rw [hj] at ha'; cases ha'
     exact Zka i3 hj' Yet
   refine hR (g + 1) _ _ _ (by omega) ⟨rfl,by omega,by omega,by push_cast; omega,M3.trans ?_,.inr ⟨i,_,rfl,hbi,hih,i4,by simp [hcl],fun q x hx=>?_⟩,fun q x ii hq hx hii=>?_⟩
   ·refine ⟨o4.1,fun j hj hn=>o4.2 j hj fun q hq h0=>?_⟩
    have:=p2 q hq h0
    rcases p1.2 with hz | ⟨j',ha',hb',_⟩
    ·exact absurd hz h0
    ·rw [hq] at ha'; cases ha'; omega
   ·rw [List.getElem?_set_ne (by omega),List.getElem?_set_ne (by omega)]
    exact hsl q x hx
   ·obtain ⟨r1,r2⟩:=hrow3 q x ii (by omega) hx hii
    refine ⟨r1.off fun j ha hn hj=>o4.2 j hj fun q' hq' h0=>?_,r2⟩
    intro e; subst e
    exact sep g q ys[g] x (by omega) (List.getElem?_eq_getElem hgy) hx h0 hn (by rw [hq',ha])
  ·apply Zcr.A2x0i
   exact ⟨⟨_,rfl,h0,by omega⟩,hM⟩
 ·rcases hf with h0 | ⟨i,ha,hbi,hi⟩
  ·exact .inl h0
  by_cases hn0:n=0
  ·exact .inl hn0
  refine .inr ⟨i,_,ha,hbi,hH i ha hn0,hi,by rw [Zbl Zgu,hyl],fun q x hx=>?_⟩
  have hq:=(List.getElem?_eq_some_iff.1 hx).1
  have hd:=Zta Zgu ys q
  have h2:(Zdf eN ys)[q * 3 + 2]?=((Zdf eN ys).drop (q * 3))[2]?:=by rw [List.getElem?_drop]
  rw [h2,hd,List.drop_eq_getElem_cons hq,Zfv]
  have:ys[q]=x:=by rw [List.getElem?_eq_getElem hq] at hx; exact Option.some.inj hx
  rw [this]; rfl
 ·intro q x i _ hx hii
  refine ⟨hN q x i hx hii,fun j ha hn=>?_⟩
  exact hHn q x hx j ha hn
structure Yjo (H:Nat) (a0:Pt) (n0:Nat) (a1:Pt) (n1:Nat) (ys:List EI):Prop where
 cls:∀ i,a0=some (i,0)→n0≠0→i < H
 ins:∀ i,a1=some (i,0)→n1≠0→i < H
 need:∀ (q:Nat) (x:EI),ys[q]?=some x→∀ j,x.a=some (j,0)→x.n≠0→j < H
theorem Zfw.bel {b:Nat} {h:Zab} {a0 a1:Pt} {n0 n1:Nat} {ys:List EI} {w:Wd} (f:Zfw b h a0 n0 a1 n1 ys w):Yjo h.length a0 n0 a1 n1 ys:=
 ⟨fun i hi hn=>(f.cls.in i hi hn).2,fun i hi hn=>(f.ins.in i hi hn).2,fun q x hx j hj hn=>by
  have hq:=(List.getElem?_eq_some_iff.1 hx).1
  exact ((f.need q x (w.is[q]'(by have:=f.len; omega)) hx (List.getElem?_eq_getElem _)).2.2.in j hj hn).2⟩
theorem Zuz {h:Zab} {b n0 c0 n1 c1:Nat} {e0 e1:Bool} {a0 a1:Pt} {ys:List EI} {w:Wd} {k:Int} (f:Zfw b h a0 n0 a1 n1 ys w) (hb:WB w) {H:Nat} (hH:Yjo H a0 n0 a1 n1 ys) (hHl:H≤h.length) (hk:0≤k∧k≤1048576) :
  Zag pg Zfj [.agg [.slice a0 n0 c0 e0,.slice a1 n1 c1 e1],.int .i64 k] h fun v h'=>(∃ z,v=.int .i64 z∧0≤z∧z≤13194139533312)∧Mid b H h h':=by
 have hl0:=f.cls.1
 have hl1:=f.ins.1
 have hlc:=hb.lc
 have hli:=hb.li
 have hyl:=f.len
 apply Ziu.call
 simp only [Zbh]
 generalize hh0:h ++ [Zbv.cells Zac [.slice a0 n0 c0 e0,.slice a1 n1 c1 e1] false]=h0
 have s0:Zbb h.length h h0:=by rw [← hh0]; exact Zan
 have w0:h0[h.length]?=some (Zna a0 n0 c0 e0 a1 n1 c1 e1):=by rw [← hh0]; simp [Zna]
 simp only [Zln w0,Nat.zero_add,List.getElem?_cons_succ,List.getElem?_cons_zero,Zae]
 have f0:=f.same s0
 refine (Znn f0.cls (by omega)).mono ?_
 rintro v h2 ⟨rfl,o2,g2⟩
 simp only [Zbg]
 have hin:=f.cls.in
 have w2:h2[h.length]?=some (Zna a0 n0 c0 e0 a1 n1 c1 e1):=by
  rw [o2.2 _ (Own.lt w0) fun j hj hn=>by have:=(hin j hj hn).2; omega]; exact w0
 simp only [Zln w2,Nat.zero_add,List.getElem?_cons_succ,List.getElem?_cons_zero,Zae]
 have M2:Mid b H h h2:=(Mid.of_same s0).trans (o2.mid fun i hi hn=>⟨(hin i hi hn).1,hH.cls i hi hn⟩)
 have offC:∀ (ty:TypeId),ty≠Zat→∀ {α:Type} {enc:α→List Zai} {a:Pt} {n:Nat} {l:List α},Zcd ty enc b h0 a n l→Zcd ty enc b h2 a n l:=fun ty hty α enc a n l p=>p.off fun j ha hn hj=>o2.2 j hj fun q hq h0 e=>by
  subst e
  rcases p.2 with hz | ⟨j',ha',_,hj'⟩
  ·exact hn hz
  ·rw [ha] at ha'; cases ha'
   rcases f0.cls.2 with hz | ⟨j',ha',_,hj''⟩
   ·exact h0 hz
   ·rw [hq] at ha'; cases ha'
    exact Zka hj' hj'' hty rfl
 have n1:Zaa≠Zat:=by decide
 have n2:Zap≠Zat:=by decide
 refine (Zpq (offC _ n1 f0.ins) hyl (by omega) (fun i hi=>(hb.is i hi).2.2.1) (fun k x i hx hi=>offC _ n2 (f0.need k x i hx hi).2.2) f.sep hH.ins hH.need (by omega)).mono ?_
 rintro v h3 ⟨⟨z,rfl,hz0,hz1⟩,M3⟩
 simp only [Zbg]
 exact ⟨⟨z,rfl,hz0,hz1⟩,M2.trans M3⟩
end Go.Sim

set_option linter.unusedVariables false
namespace Go.Sim
open Go Go.RowKit
end Go.Sim

set_option linter.unusedSimpArgs false
set_option linter.unusedVariables false
namespace Go.Sim

def Yhe (k:Wk):Nat→Nd→Bool
 | 0,n=>(k.cand n).any fun x=>match k.needs x n.2 with | some ms=>decide (ms=[]) | none=>false
 | d + 1,n=>(k.cand n).any fun x=>match k.needs x n.2 with | some ms=>ms.all (Yhe k d) | none=>false
def Ydk (n:Nd) (d:Nat):List Nat:=n.1 ++ [32] ++ n.2 ++ [32] ++ [48 + d]
theorem Yez {n m:Nd} {d e:Nat} (hn:n.1.length=1) (hm:m.1.length=1) (h:Ydk n d=Ydk m e):n=m∧d=e:=by
 unfold Ydk at h
 have h1:=List.append_inj_right' h rfl
 have h2:=List.append_inj_left' h rfl
 have h3:=List.append_inj_left' h2 rfl
 rw [List.append_assoc,List.append_assoc] at h3
 have h4:=List.append_inj h3 (by omega)
 have h5:=List.append_inj h4.2 rfl
 simp at h1
 exact ⟨Prod.ext h4.1 h5.2,h1⟩
theorem Zzs {cs:List Nd} {c:List Nat} (h:Zhl cs=true) (hk:Zfs cs c=true):c.length=1:=by
 unfold Zfs at hk
 obtain ⟨x,hx,he⟩:=List.any_eq_true.1 hk
 obtain ⟨i,hi,rfl⟩:=List.getElem_of_mem hx
 unfold Zhl at h
 simp only [Bool.and_eq_true,List.all_eq_true] at h
 have:=h.1 i (List.mem_range.2 hi)
 unfold Zqk at this
 simp only [Bool.and_eq_true] at this
 have h1:=this.1.1
 rw [Zho hi] at h1
 have he:=of_decide_eq_true he
 rw [he] at h1
 unfold Zoz at h1
 match c,h1 with
 | [a],_=>rfl
theorem Zst {w:Wd} (hw:Zeh w=true) {n:Nd} (h:Zpb w n=true):n.1.length=1:=by
 unfold Zeh at hw
 unfold Zpb at h
 simp only [Bool.and_eq_true] at hw h
 exact Zzs hw.1.1 h.1
end Go.Sim

set_option linter.unusedVariables false
set_option linter.unusedSimpArgs false
set_option maxRecDepth 20000
namespace Go.Sim
open Go Go.RowKit

def Ycm (w:Wd) (es:List ME):Prop:=∀ e∈es,∃ s b,e.1=.str s∧e.2.1=.bool b∧∀ n d,Zpb w n=true→s=Ydk n d→b=Yhe (wk w) d n
theorem Ztb:∀ (es:List ME) (s:List Nat) (i:Nat),(∀ e∈es,∃ s,e.1=.str s)→∃ r,Zrr es s i=some r∧∀ j v,r=some (j,v)→∃ e∈es,e.1=.str s∧e.2.1=v
 | [],s,i,h=>⟨none,rfl,fun j v h=>by cases h⟩
 | (k,v,c) :: es,s,i,h=>by
  obtain ⟨t,ht⟩:=h (k,v,c) (by simp)
  simp only at ht
  subst ht
  unfold Zrr
  by_cases hst:s=t
  ·rw [if_pos hst]
   exact ⟨_,rfl,fun j u hj=>by cases hj; exact ⟨_,List.mem_cons_self,by rw [hst],rfl⟩⟩
  ·rw [if_neg hst]
   obtain ⟨r,hr,hm⟩:=Ztb es s (i + 1) fun e he=>h e (by simp [he])
   exact ⟨r,hr,fun j u hj=>by obtain ⟨e,he,h1⟩:=hm j u hj; exact ⟨e,by simp [he],h1⟩⟩
theorem Zsv {α:Type} {f:α→α}:∀ {l:List α} {i:Nat} {x:α},x∈l.modify i f→x∈l ∨ ∃ y∈l,x=f y
 | [],i,x,h=>by cases i <;> simp at h
 | y :: l,0,x,h=>by
  simp at h
  rcases h with rfl | h
  ·exact .inr ⟨y,by simp,rfl⟩
  ·exact .inl (by simp [h])
 | y :: l,i + 1,x,h=>by
  simp at h
  rcases h with rfl | h
  ·exact .inl (by simp)
  ·rcases Zsv h with h | ⟨z,hz,rfl⟩
   ·exact .inl (by simp [h])
   ·exact .inr ⟨z,by simp [hz],rfl⟩
section
variable {hb:Zab} {i m:Nat} {u v:Zai} {w:Wd} {h:Zab}
end
theorem Zls.get {i:Nat} {h h':Zab} (k:Zls i h h') {j:Nat} {x:Zbv} (hj:h[j]?=some x) (hne:j≠i):h'[j]?=some x:=by rw [k.eq j (Own.lt hj) hne]; exact hj
end Go.Sim

set_option linter.unusedVariables false
set_option linter.unusedSimpArgs false
set_option maxRecDepth 20000
namespace Go.Sim
open Go Go.RowKit

theorem Ycm.at {w:Wd} {es:List ME} (ok:Ycm w es) {n:Nd} {d:Nat} (hv:Zpb w n=true) (s:List Nat) (hs:s=Ydk n d) {K:Option Zai→Prop} (h0:K none) (h1:K (some (.bool (Yhe (wk w) d n)))):Zvw es s K:=by
 obtain ⟨r,hr,hm⟩:=Ztb es s 0 fun e he=>by obtain ⟨s,b,h,_⟩:=ok e he; exact ⟨s,h⟩
 unfold Zvw
 rw [hr]
 match r,hm with
 | none,_=>exact h0
 | some (j,v),hm=>
  obtain ⟨e,he,e1,e2⟩:=hm j v rfl
  obtain ⟨s',b',k1,k2,k3⟩:=ok e he
  rw [k1] at e1
  cases e1
  rw [k2] at e2
  subst e2
  rw [k3 n d hv hs]
  exact h1
theorem Ycm.put {w:Wd} (hw:Zeh w=true) {es:List ME} (ok:Ycm w es) {clk:Nat} {n:Nd} {d:Nat} (hv:Zpb w n=true) {K:List ME→Nat→Prop} (hK:∀ es' clk',Ycm w es'→K es' clk'):Ygn es clk (Ydk n d) (.bool (Yhe (wk w) d n)) K:=by
 have new:∀ c:Nat,∀ s b,(Zai.str (Ydk n d),Zai.bool (Yhe (wk w) d n),c).1=.str s→(Zai.str (Ydk n d),Zai.bool (Yhe (wk w) d n),c).2.1=.bool b→∀ n' d',Zpb w n'=true→s=Ydk n' d'→b=Yhe (wk w) d' n':=by
  intro c s b hs hb n' d' hv' he
  cases hs; cases hb
  obtain ⟨rfl,rfl⟩:=Yez (Zst hw hv) (Zst hw hv') he
  rfl
 obtain ⟨r,hr,_⟩:=Ztb es (Ydk n d) 0 fun e he=>by obtain ⟨s,b,h,_⟩:=ok e he; exact ⟨s,h⟩
 unfold Ygn
 rw [hr]
 match r with
 | none=>
  refine hK _ _ fun e he=>?_
  rcases List.mem_append.1 he with he | he
  ·exact ok e he
  ·rw [List.mem_singleton] at he
   subst he
   exact ⟨_,_,rfl,rfl,new clk _ _ rfl rfl⟩
 | some (j,v)=>
  refine hK _ _ fun e he=>?_
  rcases Zsv he with he | ⟨y,hy,rfl⟩
  ·exact ok e he
  ·exact ⟨_,_,rfl,rfl,new y.2.2 _ _ rfl rfl⟩
end Go.Sim

set_option linter.unusedVariables false
set_option linter.unusedSimpArgs false
set_option maxRecDepth 20000
namespace Go.Sim
open Go Go.RowKit

end Go.Sim

set_option linter.unusedVariables false
set_option linter.unusedSimpArgs false
set_option maxRecDepth 20000
namespace Go.Sim
open Go Go.RowKit

structure FrO (O O':List Nat) (h h':Zab):Prop where
 le:h.length≤h'.length
 eq:∀ j,j < h.length→j ∉ O→h'[j]?=h[j]?
 nw:∀ j,j∈O'→j∈O ∨ h.length≤j
theorem FrO.of_same {O:List Nat} {h h':Zab} (s:Zbb h.length h h'):FrO O O h h':=⟨s.le,fun j hj _=>s.eq j hj,fun j hj=>.inl hj⟩
theorem FrO.trans {O O1 O2:List Nat} {h h1 h2:Zab} (f:FrO O O1 h h1) (g:FrO O1 O2 h1 h2):FrO O O2 h h2:=by
 have:=f.le; have:=g.le
 refine ⟨by omega,fun j hj hn=>?_,fun j hj=>?_⟩
 ·have hn1:j ∉ O1:=fun hm=>by
   rcases f.nw j hm with h | h
   ·exact hn h
   ·omega
  rw [g.eq j (by omega) hn1]
  exact f.eq j hj hn
 ·rcases g.nw j hj with h | h
  ·exact f.nw j h
  ·exact .inr (by omega)
theorem FrO.get {O O':List Nat} {h h':Zab} (f:FrO O O' h h') {j:Nat} {x:Zbv} (hj:h[j]?=some x) (hn:j ∉ O):h'[j]?=some x:=by rw [f.eq j (Own.lt hj) hn]; exact hj
theorem FrO.row {O O':List Nat} {h h':Zab} (f:FrO O O' h h') {a:Pt} {n:Nat} {cs:List Zai} (r:Row h.length h a n cs) (hn:∀ j o,n≠0→a=some (j,o)→j ∉ O):Row h'.length h' a n cs:=by
 obtain ⟨hl,r⟩:=r
 by_cases h0:n=0
 ·exact ⟨hl,.inl h0⟩
 ·refine ⟨hl,r.imp id ?_⟩
  rintro ⟨j,o',t,all,ro,ha,hi,hg,x⟩
  have:=f.le
  exact ⟨j,o',t,all,ro,ha,by omega,by rw [f.eq j hi (hn j o' h0 ha)]; exact hg,x⟩
section
variable {hb:Zab} {i:Nat} {u v:Zai} {w:Wd} {h:Zab} {O:List Nat} {tab:List (List Nat × Bool)}
end
end Go.Sim

set_option linter.unusedVariables false
set_option linter.unusedSimpArgs false
set_option maxRecDepth 20000
namespace Go.Sim
open Go Go.RowKit

end Go.Sim

set_option linter.unusedVariables false
set_option linter.unusedSimpArgs false
set_option maxRecDepth 20000
namespace Go.Sim
open Go Go.RowKit

theorem Zdb:pg.underlying Zaz=some (.slice Zaa):=by kernel_rfl
theorem Zes:pg.cellsOf Zaa=3:=by kernel_rfl
theorem Zet:pg.okElem Zaa=true:=by kernel_rfl
theorem Zer:pg.bytesOf Zaa≤127:=Nat.le_of_ble_eq_true (by kernel_rfl)
theorem Yeh:pg.underlying Zik=some (.slice Zat):=by kernel_rfl
theorem Yja:pg.cellsOf Zat=2:=by kernel_rfl
theorem Yil:pg.okElem Zat=true:=by kernel_rfl
theorem Yic:pg.bytesOf Zat≤127:=Nat.le_of_ble_eq_true (by kernel_rfl)
theorem Ygd {h:Zab} {i j:Nat} {t t':TypeId} {cs cs':List Zai} {ro ro':Bool} (hi:h[i]?=some (.cells t cs ro)) (hj:h[j]?=some (.cells t' cs' ro')) (hne:t≠t'):i≠j:=by
 rintro rfl; rw [hi] at hj; injection hj with hj; injection hj with hj _ _; exact hne hj
def NNs (h:Zab) (a1:Pt) (n1:Nat) (w:Wd):Prop:=∃ xs,Row h.length h a1 (n1 * 3) (Zdf eN xs)∧Zzp h xs w.is∧∀ x∈xs,x.a≠none
theorem NNs.same {h h':Zab} {a1:Pt} {n1:Nat} {w:Wd} (r:NNs h a1 n1 w) (s:Zbb h.length h h'):NNs h' a1 n1 w:=by
 obtain ⟨xs,h1,h2,h3⟩:=r
 exact ⟨xs,h1.same' s,h2.same s,h3⟩
theorem Zfw.nns {b:Nat} {h:Zab} {a0 a1:Pt} {n0 n1:Nat} {xs:List EI} {w:Wd} (f:Zfw b h a0 n0 a1 n1 xs w):NNs h a1 n1 w:=
 ⟨xs,f.ins.row Zgu,⟨f.len,fun k x i hx hi=>⟨(f.need k x i hx hi).1,(f.need k x i hx hi).2.1,(f.need k x i hx hi).2.2.row Zdg⟩⟩,f.nn⟩
end Go.Sim

set_option linter.unusedVariables false
set_option linter.unusedSimpArgs false
set_option maxRecDepth 20000
namespace Go.Sim
open Go Go.RowKit

def z3:List Zai:=[.str [],.str [],.slice none 0 0 true]
theorem Zhv (l:List EI):(Zdf eN l).all Zai.leaf=true:=Zmw (enc:=eN) (fun _=>rfl) l
end Go.Sim

set_option linter.unusedVariables false
set_option linter.unusedSimpArgs false
set_option maxRecDepth 20000
namespace Go.Sim
open Go Go.RowKit

theorem Row.part {b:Nat} {h:Zab} {i o N:Nat} {cs:List Zai} (r:Row b h (some (i,o)) N cs) {lo len:Nat} (hl:lo + len≤N) (hp:len≠0):Row b h (some (i,o + lo)) len ((cs.drop lo).take len):=by
 obtain ⟨h1,h2⟩:=r
 rcases h2 with h2 | ⟨i',o',t,all,ro,ha,hb,hg,hle,hcs⟩
 ·omega
 ·cases ha
  refine ⟨by rw [List.length_take,List.length_drop]; omega,.inr ⟨i,o + lo,t,all,ro,rfl,hb,hg,by omega,?_⟩⟩
  rw [hcs,List.drop_take,List.take_take,List.drop_drop,Nat.min_eq_left (by omega)]
end Go.Sim

set_option linter.unusedVariables false
set_option linter.unusedSimpArgs false
set_option maxRecDepth 20000
namespace Go.Sim
open Go Go.RowKit

theorem Yfd:pg.underlying Zaz=some (.slice Zaa):=by kernel_rfl
theorem Yjc:pg.cellsOf Zaa=3:=by kernel_rfl
theorem Yhv:pg.okElem Zaa=true:=by kernel_rfl
theorem Yio:pg.bytesOf Zaa≤127:=Nat.le_of_ble_eq_true (by kernel_rfl)
theorem Yfb:pg.underlying Zik=some (.slice Zat):=by kernel_rfl
theorem Yjh:pg.cellsOf Zat=2:=by kernel_rfl
theorem Yiv:pg.okElem Zat=true:=by kernel_rfl
theorem Yje:pg.bytesOf Zat≤127:=Nat.le_of_ble_eq_true (by kernel_rfl)
theorem Yht {h:Zab} {i j:Nat} {t t':TypeId} {cs cs':List Zai} {ro ro':Bool} (hi:h[i]?=some (.cells t cs ro)) (hj:h[j]?=some (.cells t' cs' ro')) (hne:t≠t'):i≠j:=by
 rintro rfl; rw [hi] at hj; injection hj with hj; injection hj with hj _ _; exact hne hj
theorem Zvr {h:Zab} {a:Pt} {n cp:Nat} {e:Bool} {i:Ins} (r:Row h.length h a (n * 2) (Zdf eP i.2)) (hn:n≤1048576) :
  Zag pg Zej [.agg [.str i.1.1,.str i.1.2,.slice a n cp e]] h fun v h'=>∃ a' c' e',v=.agg [.str i.1.1,.str i.1.2,.slice a' n c' e']∧Zbb h.length h h'∧Zcd Zap eP h.length h' a' n i.2∧a'≠none∧n≤c':=by
 have hl:i.2.length=n:=by have:=r.1; rw [Zbl Zdg] at this; omega
 apply Ziq.call
 simp only [Zbh]
 generalize hh0:h ++ [Zbv.cells Zaa [.str i.1.1,.str i.1.2,.slice a n cp e] false]=h0
 generalize hh1:h0 ++ [Zbv.cells Zaa [.str [],.str [],.slice none 0 0 true] false]=h1
 generalize hh2:h1 ++ [Zbv.cells Zap [] false]=h2
 have s0:Zbb h.length h h0:=by rw [← hh0]; exact Zan
 have s1:Zbb h0.length h0 h1:=by rw [← hh1]; exact Zan
 have s2:Zbb h1.length h1 h2:=by rw [← hh2]; exact Zan
 have l0:h0.length=h.length + 1:=by rw [← hh0]; simp
 have l1:h1.length=h0.length + 1:=by rw [← hh1]; simp
 have l2:h2.length=h1.length + 1:=by rw [← hh2]; simp
 have x0:h0[h.length]?=some (.cells Zaa [.str i.1.1,.str i.1.2,.slice a n cp e] false):=by rw [← hh0]; simp
 have y1:h1[h0.length]?=some (.cells Zaa [.str [],.str [],.slice none 0 0 true] false):=by rw [← hh1]; simp
 have z2:h2[h1.length]?=some (.cells Zap [] false):=by rw [← hh2]; simp
 have x2:=s2.get (s1.get x0 (by omega)) (by omega)
 have y2:=s2.get y1 (by omega)
 have S2:=(s0.cat s1).cat s2
 simp only [Zba x2,Nat.zero_add,List.getElem?_cons_succ,List.getElem?_cons_zero,Zae]
 refine Vec.app0 (n:=0) z2 Zxu Yfq Ygf Yfo (by simp) (r.same' S2).rowOf (Zmw (enc:=eP) (fun _=>rfl) i.2) (by omega) (fun h3 hl3 hi3 hk3=>?_)
 have x3:h3[h.length]?=some (.cells Zaa [.str i.1.1,.str i.1.2,.slice a n cp e] false):=by rw [hk3 _ (by omega) (by omega)]; exact x2
 have y3:h3[h0.length]?=some (.cells Zaa [.str [],.str [],.slice none 0 0 true] false):=by rw [hk3 _ (by omega) (by omega)]; exact y2
 simp only [Zae,Nat.zero_add]
 rw [Zay x3 (by simp)]
 simp only [Zam,Zbj,List.take_succ_cons,List.take_zero,List.length_cons,List.length_nil,List.drop_succ_cons,List.drop_zero,List.drop_nil,List.cons_append,List.nil_append,List.append_nil]
 rw [Zdt (Zbm x3)]
 simp only [Zar,Zah,Zal,Zaj,Zae]
 have y4:(h3.set h.length (Zbv.cells Zaa [.str i.1.1,.str i.1.2,.slice (some (h2.length,0)) n n false] false))[h0.length]?=some (.cells Zaa [.str [],.str [],.slice none 0 0 true] false):=by rw [Zbn (by omega)]; exact y3
 rw [Zay y4 (by simp)]
 simp only [Zam,Zbj,List.take_zero,List.length_cons,List.length_nil,List.drop_succ_cons,List.drop_zero,List.drop_nil,List.cons_append,List.nil_append,List.append_nil]
 rw [Zdt (Zbm y4)]
 simp only [Zar,Zah,Zal,Zaj,Zae]
 refine ⟨_,_,_,rfl,⟨by simp; omega,fun j hj=>?_⟩,⟨hl,.inr ⟨h2.length,rfl,by omega,?_⟩⟩,by simp,Nat.le_refl _⟩
 ·rw [Zbn (by omega),Zbn (by omega),hk3 j (by omega) (by omega)]; exact S2.eq j hj
 ·rw [Zbn (by omega),Zbn (by omega),hi3]; simp
theorem Zwq {h:Zab} {a0 a:Pt} {n0 c0 n cp:Nat} {e:Bool} {w:Wd} (r:Zip h a0 n0 c0 a n cp w) (b:WB w) :
  Zag pg Zeq [.slice a n cp e] h fun v h'=>∃ a' c' e' ys,v=.slice a' n c' e'∧n≤c'∧Zbb h.length h h'∧Zcd Zaa eN h.length h' a' n ys∧ys.length=w.is.length∧a'≠none ∧
   (∀ (k:Nat) (x:EI) (i:Ins),ys[k]?=some x→w.is[k]?=some i→x.c=i.1.1∧x.t=i.1.2∧Zcd Zap eP h.length h' x.a x.n i.2) ∧
   (∀ (j k:Nat) (x y:EI),j≠k→ys[j]?=some x→ys[k]?=some y→x.n≠0→y.n≠0→x.a≠y.a)∧(∀ x∈ys,x.a≠none)∧∃ q,a'=some (q,0)∧h.length≤q∧h'[q]?=some (.cells Zaa (Zdf eN ys) false):=by
 have hl:=r.len1
 have hli:=b.li
 apply Zdk.call
 simp only [Zbh]
 refine Zdk.L3ind (J:=fun (g:Nat) a3 n3 c3 e3 x9 h'=>x9=(g:Int)∧g≤n∧Zbb h.length h h'∧∃ (q:Nat) (ys:List EI),a3=some (q,0)∧n3=g∧g≤c3∧h.length≤q∧ys.length=g∧h'[q]?=some (.cells Zaa (Zdf eN ys) false) ∧
   (∀ (k:Nat) (x:EI) (i:Ins),ys[k]?=some x→w.is[k]?=some i→x.c=i.1.1∧x.t=i.1.2∧Zcd Zap eP h.length h' x.a x.n i.2) ∧
   (∀ (j k:Nat) (x y:EI),j≠k→ys[j]?=some x→ys[k]?=some y→x.n≠0→y.n≠0→x.a≠y.a)∧∀ x∈ys,x.a≠none) (m:=fun g=>n - g) (hr:=?_) (g:=0)
  (hj:=⟨rfl,by omega,Zbb.app (Nat.le_refl _) _,h.length,[],rfl,rfl,by omega,Nat.le_refl _,rfl,by simp,by simp,by simp,by simp⟩) ..
 rintro g a3 n3 c3 e3 x9 h' ⟨rfl,hg,hs,q,ys,rfl,rfl,hgc,hql,hy,ho,hrep,hsep,hnn⟩ R hR
 unfold Zdk.L3t
 refine Zaq (fun hlt=>?_) (fun hge=>?_)
 ·obtain ⟨i0,o0,hgl,a2,n2,c2,e2,rfl,hb0,hr,_,_,_,hrow,hn2⟩:=(r.same hs).inst (k:=n3) (by omega)
  have hb:=b.is _ (List.getElem_mem hgl)
  simp only [Zbd,Int.toNat_natCast,hr,Zar,Zah,Zal,Zaj,Zae,Zbh]
  refine ⟨by omega,?_⟩
  generalize hh1:h' ++ [Zbv.cells Zaa [.str [],.str [],.slice none 0 0 true] false]=h1
  have s1:Zbb h'.length h' h1:=by rw [← hh1]; exact Zan
  have o1:h1[h'.length]?=some (.cells Zaa [.str [],.str [],.slice none 0 0 true] false):=by rw [← hh1]; simp
  rw [Zay o1 (by simp)]
  simp only [Zam,Zbj,List.take_zero,List.length_cons,List.length_nil,List.drop_succ_cons,List.drop_zero,List.drop_nil,List.cons_append,List.nil_append,List.append_nil,Nat.zero_add]
  generalize hh2:h1.set h'.length (Zbv.cells Zaa [.str w.is[n3].1.1,.str w.is[n3].1.2,.slice a2 n2 c2 e2] false)=h2
  have o2:h2[h'.length]?=some (.cells Zaa [.str w.is[n3].1.1,.str w.is[n3].1.2,.slice a2 n2 c2 e2] false):=by rw [← hh2]; exact Zbm o1
  have s2:Zbb h'.length h' h2:=by rw [← hh2]; exact s1.set' (Nat.le_refl _)
  rw [Zdt o2]
  simp only [Zar,Zah,Zal,Zaj,Zae]
  refine (Zvr (i:=w.is[n3]) (hrow.same' s2) (by omega)).mono ?_
  rintro v h3 ⟨a',c',e',rfl,s3,f3,hnn3,hc3⟩
  simp only [Zcj,Zah,Zal,Zaj,Zae,Zbh]
  have S3:=s2.cat s3
  have hol:=Own.lt ho
  have ho3:=S3.get ho hol
  have hle2:=s2.le
  have hle3:=s3.le
  have hlh:=hs.le
  refine (Vec.mk1 ho3).pushN Yfd Yjc Yhv Yio (by rw [Zbl Zgu,hy]) rfl (by omega) rfl (by omega) (fun h4 hl4 hi4 hk4=>?_)
  simp only [Zae]
  rw [Zcp (by omega)]
  have keep:∀ {a:Pt} {m:Nat} {l:List Nd} {b:Nat},Zcd Zap eP b h3 a m l→Zcd Zap eP b h4 a m l:=fun f=>⟨f.1,f.2.imp id fun ⟨j,ha,hbj,hc⟩=>⟨j,ha,hbj,by rw [hk4 j (Own.lt hc) (fun j' hj'=>by cases hj'; exact Yht hc ho3 (by decide))]; exact hc⟩⟩
  refine hR (n3 + 1) _ _ _ _ _ _ (by omega) ⟨rfl,by omega,⟨by omega,fun j hj=>?_⟩,h3.length + 1,ys ++ [⟨w.is[n3].1.1,w.is[n3].1.2,a',n2,c',e'⟩],rfl,rfl,Nat.le_refl _,by omega,by simp [hy],by rw [hi4]; simp [eN],?_,?_,fun x hx=>?_⟩
  ·rw [hk4 j (by omega) (fun j' hj'=>by cases hj'; omega),S3.eq j (by omega)]; exact hs.eq j hj
  ·intro k x j hx hj
   by_cases hk:k < n3
   ·rw [List.getElem?_append_left (by omega)] at hx
    obtain ⟨p1,p2,p3⟩:=hrep k x j hx hj
    exact ⟨p1,p2,keep (p3.same S3)⟩
   ·have hkg:k=n3:=by have:=(List.getElem?_eq_some_iff.1 hx).1; simp at this; omega
    subst hkg
    rw [List.getElem?_append_right (by omega)] at hx
    simp [hy] at hx
    subst hx
    rw [List.getElem?_eq_getElem hgl] at hj
    cases hj
    exact ⟨rfl,rfl,keep ⟨f3.1,f3.2.imp id fun ⟨j,ha,hbj,hc⟩=>⟨j,ha,by omega,hc⟩⟩⟩
  ·have old:∀ (k:Nat) (x:EI),k < n3→ys[k]?=some x→x.n≠0→n2≠0→x.a≠a':=by
    intro k x hk hx h0 h2' he
    obtain ⟨_,_,p3⟩:=hrep k x w.is[k] hx (List.getElem?_eq_getElem (by omega))
    obtain ⟨_,p3⟩:=p3
    obtain ⟨_,f3'⟩:=f3
    rcases p3 with p3 | ⟨j,ha,_,hc⟩
    ·exact h0 p3
    ·rcases f3' with f3' | ⟨j',ha',hb',_⟩
     ·exact h2' f3'
     ·rw [ha,ha'] at he; cases he; have:=Own.lt hc; omega
   intro j k x y hjk hx hy' h0 h0'
   by_cases hj:j < n3 <;> by_cases hk:k < n3
   ·rw [List.getElem?_append_left (by omega)] at hx hy'
    exact hsep j k x y hjk hx hy' h0 h0'
   ·have hkg:k=n3:=by have:=(List.getElem?_eq_some_iff.1 hy').1; simp at this; omega
    subst hkg
    rw [List.getElem?_append_left (by omega)] at hx
    rw [List.getElem?_append_right (by omega)] at hy'
    simp [hy] at hy'
    subst hy'
    exact old j x hj hx h0 h0'
   ·have hjg:j=n3:=by have:=(List.getElem?_eq_some_iff.1 hx).1; simp at this; omega
    subst hjg
    rw [List.getElem?_append_left (by omega)] at hy'
    rw [List.getElem?_append_right (by omega)] at hx
    simp [hy] at hx
    subst hx
    exact fun he=>old k y hk hy' h0' h0 he.symm
   ·have:=(List.getElem?_eq_some_iff.1 hx).1
    have:=(List.getElem?_eq_some_iff.1 hy').1
    simp at *
    omega
  ·rcases List.mem_append.1 hx with hx | hx
   ·exact hnn x hx
   ·rw [List.mem_singleton] at hx; subst hx; exact hnn3
 ·apply Zdk.A3x0i
  have:n3=n:=by omega
  subst this
  exact ⟨_,_,_,ys,rfl,hgc,hs,⟨hy,.inr ⟨q,rfl,hql,ho⟩⟩,by omega,by simp,hrep,hsep,hnn,q,rfl,hql,ho⟩
theorem Zun {h:Zab} {a0 a1:Pt} {n0 c0 n1 c1:Nat} {e0 e1:Bool} {w:Wd} (r:Zip h a0 n0 c0 a1 n1 c1 w) (b:WB w) :
  Zag pg Zep [.agg [.slice a0 n0 c0 e0,.slice a1 n1 c1 e1]] h fun v h'=>∃ b0 d0 f0 b1 d1 f1 ys,v=.agg [.slice b0 n0 d0 f0,.slice b1 n1 d1 f1]∧Zbb h.length h h'∧Zfw h.length h' b0 n0 b1 n1 ys w∧n0≤d0∧n1≤d1∧b0≠none∧b1≠none∧∃ q,b1=some (q,0)∧h.length≤q∧h'[q]?=some (.cells Zaa (Zdf eN ys) false):=by
 have hl0:=r.len0
 have hlc:=b.lc
 apply Zjs.call
 simp only [Zbh]
 generalize hh0:h ++ [Zbv.cells Zac [.slice a0 n0 c0 e0,.slice a1 n1 c1 e1] false]=h0
 generalize hh1:h0 ++ [Zbv.cells Zac [.slice none 0 0 true,.slice none 0 0 true] false]=h1
 generalize hh2:h1 ++ [Zbv.cells Zat [] false]=h2
 have s0:Zbb h.length h h0:=by rw [← hh0]; exact Zan
 have s1:Zbb h0.length h0 h1:=by rw [← hh1]; exact Zan
 have s2:Zbb h1.length h1 h2:=by rw [← hh2]; exact Zan
 have l0:h0.length=h.length + 1:=by rw [← hh0]; simp
 have l1:h1.length=h0.length + 1:=by rw [← hh1]; simp
 have l2:h2.length=h1.length + 1:=by rw [← hh2]; simp
 have x0:h0[h.length]?=some (.cells Zac [.slice a0 n0 c0 e0,.slice a1 n1 c1 e1] false):=by rw [← hh0]; simp
 have y1:h1[h0.length]?=some (.cells Zac [.slice none 0 0 true,.slice none 0 0 true] false):=by rw [← hh1]; simp
 have z2:h2[h1.length]?=some (.cells Zat [] false):=by rw [← hh2]; simp
 have x2:=s2.get (s1.get x0 (by omega)) (by omega)
 have y2:=s2.get y1 (by omega)
 have S2:=(s0.cat s1).cat s2
 simp only [Zba x2,Nat.zero_add,List.getElem?_cons_succ,List.getElem?_cons_zero,Zae]
 refine Vec.app0 (n:=0) z2 Yfb Yjh Yiv Yje (by simp) ((r.same S2).cls.rowOf) (Zmw (enc:=eP) (fun _=>rfl) w.cs) (by omega) (fun h3 hl3 hi3 hk3=>?_)
 have x3:h3[h.length]?=some (.cells Zac [.slice a0 n0 c0 e0,.slice a1 n1 c1 e1] false):=by rw [hk3 _ (by omega) (by omega)]; exact x2
 have y3:h3[h0.length]?=some (.cells Zac [.slice none 0 0 true,.slice none 0 0 true] false):=by rw [hk3 _ (by omega) (by omega)]; exact y2
 have S3:Zbb h.length h h3:=⟨by omega,fun j hj=>by rw [hk3 j (by omega) (by omega)]; exact S2.eq j hj⟩
 simp only [Zae,Nat.zero_add]
 rw [Zay x3 (by simp)]
 simp only [Zam,Zbj,List.take_zero,List.length_cons,List.length_nil,List.drop_succ_cons,List.drop_zero,List.drop_nil,List.cons_append,List.nil_append,List.append_nil]
 generalize hh4:h3.set h.length (Zbv.cells Zac [.slice (some (h2.length,0)) n0 n0 false,.slice a1 n1 c1 e1] false)=h4
 have x4:h4[h.length]?=some (.cells Zac [.slice (some (h2.length,0)) n0 n0 false,.slice a1 n1 c1 e1] false):=by rw [← hh4]; exact Zbm x3
 have y4:h4[h0.length]?=some (.cells Zac [.slice none 0 0 true,.slice none 0 0 true] false):=by rw [← hh4,Zbn (by omega)]; exact y3
 have z4:h4[h2.length]?=some (.cells Zat (Zdf eP w.cs) false):=by rw [← hh4,Zbn (by omega),hi3]; simp
 have S4:Zbb h.length h h4:=by rw [← hh4]; exact S3.set' (Nat.le_refl _)
 have l4:h4.length=h3.length:=by rw [← hh4]; simp
 simp only [Zba x4,List.getElem?_cons_succ,List.getElem?_cons_zero,Zae]
 refine (Zwq (r.same S4) b).mono ?_
 rintro v h5 ⟨b1,d1,f1,ys,rfl,hd1,s5,g5,hyl,hbn,hrep,hsep,hnn,qq,hqq1,hqq2,hqq3⟩
 simp only [Zae]
 have l5:=s5.le
 have x5:=s5.get x4 (by omega)
 have y5:=s5.get y4 (by omega)
 have z5:=s5.get z4 (by omega)
 rw [Zay x5 (by simp)]
 simp only [Zam,Zbj,List.take_succ_cons,List.take_zero,List.length_cons,List.length_nil,List.drop_succ_cons,List.drop_zero,List.drop_nil,List.cons_append,List.nil_append,List.append_nil]
 rw [Zck (Zbm x5)]
 simp only [Zar,Zah,Zal,Zae]
 have y6:(h5.set h.length (Zbv.cells Zac [.slice (some (h2.length,0)) n0 n0 false,.slice b1 n1 d1 f1] false))[h0.length]?=some (.cells Zac [.slice none 0 0 true,.slice none 0 0 true] false):=by rw [Zbn (by omega)]; exact y5
 rw [Zay y6 (by simp)]
 simp only [Zam,Zbj,List.take_zero,List.length_cons,List.length_nil,List.drop_succ_cons,List.drop_zero,List.drop_nil,List.cons_append,List.nil_append,List.append_nil]
 rw [Zck (Zbm y6)]
 simp only [Zar,Zah,Zal,Zae]
 have kp:∀ j,h2.length≤j→((h5.set h.length (Zbv.cells Zac [.slice (some (h2.length,0)) n0 n0 false,.slice b1 n1 d1 f1] false)).set h0.length (Zbv.cells Zac [.slice (some (h2.length,0)) n0 n0 false,.slice b1 n1 d1 f1] false))[j]?=h5[j]?:=fun j hj=>by rw [Zbn (by omega),Zbn (by omega)]
 refine ⟨_,_,_,_,_,_,ys,rfl,⟨by simp; omega,fun j hj=>?_⟩,⟨⟨hl0,.inr ⟨h2.length,rfl,by omega,by rw [kp _ (Nat.le_refl _)]; exact z5⟩⟩,g5.keep (by omega) fun j hj _=>kp j (by omega),hyl,fun k x i hx hi=>?_,hsep,hnn,by simp⟩,Nat.le_refl _,hd1,by simp,hbn,qq,hqq1,by omega,by rw [kp qq (by omega)]; exact hqq3⟩
 ·rw [Zbn (by omega),Zbn (by omega),s5.eq j (by omega)]; exact S4.eq j hj
 ·obtain ⟨p1,p2,p3⟩:=hrep k x i hx hi
  exact ⟨p1,p2,p3.keep (by omega) fun j hj _=>kp j (by omega)⟩
theorem Zqi {h:Zab} {a0 a1:Pt} {n0 c0 n1 c1:Nat} {e0 e1:Bool} {w:Wd} (r:Zip h a0 n0 c0 a1 n1 c1 w) (b:WB w) :
  Zag pg Zep [.agg [.slice a0 n0 c0 e0,.slice a1 n1 c1 e1]] h fun v h'=>∃ b0 d0 f0 b1 d1 f1 ys,v=.agg [.slice b0 n0 d0 f0,.slice b1 n1 d1 f1]∧Zbb h.length h h'∧Zfw h.length h' b0 n0 b1 n1 ys w∧n0≤d0∧n1≤d1∧b0≠none∧b1≠none:=by
 refine (Zun r b).mono ?_
 rintro v h' ⟨b0,d0,f0,b1,d1,f1,ys,k1,k2,k3,k4,k5,k6,k7,_⟩
 exact ⟨b0,d0,f0,b1,d1,f1,ys,k1,k2,k3,k4,k5,k6,k7⟩
end Go.Sim

set_option linter.unusedVariables false
set_option linter.unusedSimpArgs false
set_option maxRecDepth 20000
namespace Go.Sim
open Go Go.RowKit

def Yfl (ys:List EI) (g:Nat):Nat:=((ys.take g).map (·.n)).sum
theorem Zur {ys:List EI} {g:Nat} (hg:g < ys.length):Yfl ys (g + 1)=Yfl ys g + ys[g].n:=by
 unfold Yfl
 rw [List.take_succ_eq_append_getElem hg,List.map_append,List.sum_append]; simp
theorem Zwg {ys:List EI} (h:∀ x∈ys,x.n≤1048576):∀ g,g≤ys.length→Yfl ys g≤g * 1048576
 | 0,_=>by simp [Yfl]
 | g + 1,hg=>by
  have:=Zwg h g (by omega)
  have h2:=h _ (List.getElem_mem (show g < ys.length by omega))
  rw [Zur (by omega)]; omega
def KI (k:Int) (ys:List EI) (g:Nat):Int:=k + 2 * ((g:Int) + (Yfl ys g:Nat))
theorem Yci {k:Int} {ys:List EI} {g:Nat} (hg:g < ys.length):KI k ys (g + 1)=KI k ys g + 2 + 2 * (ys[g].n:Nat):=by
 unfold KI; rw [Zur hg]; push_cast; omega
def MkI (b:Nat) (h:Zab) (a:Pt) (n:Nat) (ys:List EI) (k:Int):Prop:=n=0 ∨ ∃ i cs,a=some (i,0)∧b≤i∧h[i]?=some (.cells Zaa cs false)∧n * 3≤cs.length ∧
 ∀ (q:Nat) (x:EI),ys[q]?=some x→cs[q * 3]?=some (.str (Zfu (KI k ys q)))∧cs[q * 3 + 1]?=some (.str (Zfu (KI k ys q + 1)))∧cs[q * 3 + 2]?=some (.slice x.a x.n x.cp x.e)∧Zcd Zap eP b h x.a x.n (Zhk (KI k ys q + 2) x.n)
theorem MkI.same {b:Nat} {h h':Zab} {a:Pt} {n:Nat} {ys:List EI} {k:Int} (m:MkI b h a n ys k) (s:Zbb h.length h h'):MkI b h' a n ys k:=
 m.imp id fun ⟨i,cs,h1,h2,h3,h4,h5⟩=>⟨i,cs,h1,h2,s.get h3 (Own.lt h3),h4,fun q x hx=>⟨(h5 q x hx).1,(h5 q x hx).2.1,(h5 q x hx).2.2.1,(h5 q x hx).2.2.2.same s⟩⟩
def UnI (b:Nat) (h:Zab) (a:Pt) (n:Nat) (ys:List EI):Prop:=n=0 ∨ ∃ i cs,a=some (i,0)∧b≤i∧h[i]?=some (.cells Zaa cs false)∧n * 3≤cs.length∧∀ (q:Nat) (x:EI),ys[q]?=some x→cs[q * 3 + 2]?=some (.slice x.a x.n x.cp x.e)
theorem Yeg {h:Zab} {b n c:Nat} {e:Bool} {a:Pt} {ys:List EI} {k:Int} (hyl:ys.length=n) (hn20:n≤1048576) (un:UnI b h a n ys) (h20:∀ x∈ys,x.n≤1048576)
  (hN:∀ (q:Nat) (x:EI),ys[q]?=some x→∃ l,Zcd Zap eP b h x.a x.n l) (sep:∀ (j k:Nat) (x y:EI),j≠k→ys[j]?=some x→ys[k]?=some y→x.n≠0→y.n≠0→x.a≠y.a)
  (hk:0≤k∧k≤4398046511104):Zag pg Zeu [.slice a n c e,.int .i64 k] h fun v h'=>v=.int .i64 (KI k ys n)∧Zbb b h h'∧MkI b h' a n ys k∧∀ (j:Nat) (ty:TypeId) (cs:List Zai),ty≠Zaa→ty≠Zap→h[j]?=some (Zbv.cells ty cs false)→h'[j]?=some (Zbv.cells ty cs false):=by
 apply Zcr.call
 refine Zcr.L2ind (J:=fun (g:Nat) x1 x5 h'=>x5=(g:Int)∧g≤n∧x1=KI k ys g∧(h.length≤h'.length∧(∀ j,j < b→h'[j]?=h[j]?)∧∀ (j:Nat) (ty:TypeId) (cs:List Zai),ty≠Zaa→ty≠Zap→h[j]?=some (Zbv.cells ty cs false)→h'[j]?=some (Zbv.cells ty cs false)) ∧
   (n=0 ∨ ∃ i cs,a=some (i,0)∧b≤i∧h'[i]?=some (.cells Zaa cs false)∧n * 3≤cs.length∧(∀ (q:Nat) (x:EI),ys[q]?=some x→cs[q * 3 + 2]?=some (.slice x.a x.n x.cp x.e)) ∧
    ∀ (q:Nat) (x:EI),q < g→ys[q]?=some x→cs[q * 3]?=some (.str (Zfu (KI k ys q)))∧cs[q * 3 + 1]?=some (.str (Zfu (KI k ys q + 1)))) ∧
   (∀ (q:Nat) (x:EI),q < g→ys[q]?=some x→Zcd Zap eP b h' x.a x.n (Zhk (KI k ys q + 2) x.n)) ∧
   (∀ (q:Nat) (x:EI),g≤q→ys[q]?=some x→∃ l,Zcd Zap eP b h' x.a x.n l)) (m:=fun g=>n - g) (hr:=?_) (g:=0)
  (hj:=⟨rfl,by omega,by simp [KI,Yfl],⟨Nat.le_refl _,fun _ _=>rfl,fun _ _ _ _ _ h=>h⟩,un.imp id fun ⟨i,cs,h1,h2,h3,h4,h5⟩=>⟨i,cs,h1,h2,h3,h4,h5,fun q x hq=>absurd hq (by omega)⟩,fun q x hq=>absurd hq (by omega),fun q x _ hx=>hN q x hx⟩) ..
 rintro g x1 x5 h' ⟨rfl,hg,rfl,⟨hle,hsb,hot⟩,hst,hdone,htodo⟩ R hR
 have hns:=Zwg h20 g (by omega)
 have hK:0≤KI k ys g∧KI k ys g≤4398046511104 + 2 * (1048576 + 1048576 * 1048576):=by unfold KI; have:g * 1048576≤1048576 * 1048576:=Nat.mul_le_mul_right _ (by omega); omega
 unfold Zcr.L2t
 refine Zaq (fun hlt=>?_) (fun hge=>?_)
 ·rcases hst with hz | ⟨i,cs,rfl,hbi,hi,hcl,hsl,hmk⟩
  ·omega
  have hgy:g < ys.length:=by omega
  have hx20:=h20 _ (List.getElem_mem hgy)
  generalize hx1:KI k ys g=x1 at hK
  refine (Zdq (by omega)).mono ?_
  rintro v h1 ⟨rfl,s1⟩
  simp only [Zaj,Zbd,Int.toNat_natCast,Nat.zero_add,Nat.add_zero]
  have i1:=s1.get hi (Own.lt hi)
  rw [Zay i1 (by simp; omega),Ztw (by omega)]
  simp only [Zam]
  refine ⟨by omega,(Zdq (by rw [IntWalk.i64_in _ (by omega)]; omega)).mono ?_⟩
  rintro v h2 ⟨rfl,s2⟩
  simp only [Zaj]
  have i2:=s2.get (Zbm i1 (x:=.cells Zaa (cs.set (g * 3) (.str (Zfu x1))) false)) (by simp; exact Own.lt i1)
  rw [Zay i2 (by rw [List.length_set]; simp; omega),Ztw (by rw [List.length_set]; omega)]
  simp only [Zam]
  have i3:=Zbm i2 (x:=.cells Zaa ((cs.set (g * 3) (.str (Zfu x1))).set (g * 3 + 1) (.str (Zfu (IntKind.wrap .i64 (x1 + 1))))) false)
  have hcell:((cs.set (g * 3) (.str (Zfu x1))).set (g * 3 + 1) (.str (Zfu (IntKind.wrap .i64 (x1 + 1)))))[g * 3 + 2]?=some (.slice ys[g].a ys[g].n ys[g].cp ys[g].e):=by
   rw [List.getElem?_set_ne (by omega),List.getElem?_set_ne (by omega)]
   exact hsl g ys[g] (List.getElem?_eq_getElem hgy)
  refine ⟨by omega,by omega,?_⟩
  rw [Zba i3,hcell]
  simp only [Zae]
  rw [IntWalk.i64_in (x1 + 1) (by omega),IntWalk.i64_in (x1 + 1 + 1) (by omega)] at *
  generalize hcs:(cs.set (g * 3) (.str (Zfu x1))).set (g * 3 + 1) (.str (Zfu (x1 + 1)))=cs3 at *
  generalize hh3:h2.set i (.cells Zaa cs3 false)=h3 at *
  have le1:=s1.le
  have le2:=s2.le
  have hil:=Own.lt hi
  have l2:h2.length=h3.length:=by rw [← hh3]; simp
  have oth:∀ j,j≠i→j < h'.length→h3[j]?=h'[j]?:=fun j hj hjl=>by
   rw [← hh3,Zbn (Ne.symm hj),s2.eq j (by simp; omega),Zbn (Ne.symm hj),s1.eq j hjl]
  simp at le2
  have keep3:∀ {x:EI} {l:List Nd},Zcd Zap eP b h' x.a x.n l→Zcd Zap eP b h3 x.a x.n l:=fun p=>p.off fun j ha hn hj=>oth j (fun e=>by
   subst e
   rcases p.2 with h0 | ⟨j',ha',_,hj'⟩
   ·exact hn h0
   ·rw [ha] at ha'; cases ha'
    exact Zka hi hj' Yet rfl) hj
  obtain ⟨l,pg0⟩:=htodo g ys[g] (Nat.le_refl _) (List.getElem?_eq_getElem hgy)
  have p1:=keep3 pg0
  refine (Zmt p1 (k:=x1 + 1 + 1) (by omega)).mono ?_
  rintro v h4 ⟨rfl,o4,f4⟩
  simp only [Zbg]
  rw [Zcp (by omega)]
  have i4:h4[i]?=some (.cells Zaa cs3 false):=by
   rw [o4.2 i (Own.lt i3) fun j hj hn=>?_]; exact i3
   rcases p1.2 with h0 | ⟨j',ha',_,hj'⟩
   ·exact absurd h0 hn
   ·rw [hj] at ha'; cases ha'
    exact Zka i3 hj' Yet
  have keep4:∀ {q:Nat} {x:EI} {l:List Nd},q≠g→ys[q]?=some x→Zcd Zap eP b h' x.a x.n l→Zcd Zap eP b h4 x.a x.n l:=fun hq hx p=>(keep3 p).off fun j ha hn hj=>o4.2 j hj fun q' hq' h0=>by
   intro e; subst e
   exact sep g _ ys[g] _ (Ne.symm hq) (List.getElem?_eq_getElem hgy) hx h0 hn (by rw [hq',ha])
  have hKs:=Yci (k:=k) hgy
  rw [hx1] at hKs
  have o41:=o4.1
  refine hR (g + 1) _ _ _ (by omega) ⟨rfl,by omega,by rw [hKs]; omega,⟨by omega,fun j hj=>?_,fun j ty cs' h1 h2 hj=>?_⟩,.inr ⟨i,cs3,rfl,hbi,i4,by rw [← hcs]; simp; exact hcl,fun q x hx=>?_,fun q x hq hx=>?_⟩,fun q x hq hx=>?_,fun q x hq hx=>?_⟩
  ·have hbl:j < h'.length:=by omega
   rw [o4.2 j (by omega) fun q hq h0=>?_,oth j (by omega) hbl]
   ·exact hsb j hj
   ·rcases p1.2 with hz | ⟨j',ha',hb',_⟩
    ·exact absurd hz h0
    ·rw [hq] at ha'; cases ha'; omega
  ·have h9:=hot j ty cs' h1 h2 hj
   have hjl:=Own.lt h9
   rw [o4.2 j (by omega) fun q hq h0=>?_,oth j (Zka h9 hi h1) hjl]
   ·exact h9
   ·rcases pg0.2 with hz | ⟨j',ha',hb',hc'⟩
    ·exact absurd hz h0
    ·rw [hq] at ha'; cases ha'; exact Zka h9 hc' h2
  ·rw [← hcs,List.getElem?_set_ne (by omega),List.getElem?_set_ne (by omega)]
   exact hsl q x hx
  ·by_cases hqg:q=g
   ·subst hqg
    rw [← hcs,hx1]
    refine ⟨?_,?_⟩
    ·rw [List.getElem?_set_ne (by omega),List.getElem?_set_self (by omega)]
    ·rw [List.getElem?_set_self (by rw [List.length_set]; omega)]
   ·rw [← hcs]
    rw [List.getElem?_set_ne (by omega),List.getElem?_set_ne (by omega),List.getElem?_set_ne (by omega),List.getElem?_set_ne (by omega)]
    exact hmk q x (by omega) hx
  ·by_cases hqg:q=g
   ·subst hqg
    rw [List.getElem?_eq_getElem hgy] at hx; cases hx
    rw [hx1]
    rw [show x1 + 2=x1 + 1 + 1 by omega]; exact f4
   ·exact keep4 hqg hx (hdone q x (by omega) hx)
  ·obtain ⟨l',p'⟩:=htodo q x (by omega) hx
   exact ⟨l',keep4 (by omega) hx p'⟩
 ·apply Zcr.A2x0i
  have hgn:g=n:=by omega
  subst hgn
  refine ⟨rfl,⟨hle,hsb⟩,hst.imp id fun ⟨i,cs,h1,h2,h3,h4,h5,h6⟩=>⟨i,cs,h1,h2,h3,h4,fun q x hx=>?_⟩,hot⟩
  have hq:q < g:=by have:=(List.getElem?_eq_some_iff.1 hx).1; omega
  exact ⟨(h6 q x hq hx).1,(h6 q x hq hx).2,h5 q x hx,hdone q x hq hx⟩
theorem Yfc {h:Zab} {b n c:Nat} {e:Bool} {a:Pt} {ys:List EI} {k:Int} (hyl:ys.length=n) (hn20:n≤1048576) (h20:∀ x∈ys,x.n≤1048576) (m:MkI b h a n ys k) (hk:0≤k∧k≤4398046511104) :
  Zag pg Zgl [.slice a n c e,.int .i64 k] h fun v h'=>v=.int .i64 (KI k ys n)∧Zbb h.length h h':=by
 apply Zeb.call
 refine Zeb.L2ind (J:=fun (g:Nat) x1 x5 h'=>x5=(g:Int)∧g≤n∧x1=KI k ys g∧Zbb h.length h h') (m:=fun g=>n - g) (hr:=?_) (g:=0) (hj:=⟨rfl,by omega,by simp [KI,Yfl],Zbb.refl _ _⟩) ..
 rintro g x1 x5 h' ⟨rfl,hg,rfl,hS⟩ R hR
 have hns:=Zwg h20 g (by omega)
 have hK:0≤KI k ys g∧KI k ys g≤4398046511104 + 2 * (1048576 + 1048576 * 1048576):=by unfold KI; have:g * 1048576≤1048576 * 1048576:=Nat.mul_le_mul_right _ (by omega); omega
 unfold Zeb.L2t
 refine Zaq (fun hlt=>?_) (fun hge=>?_)
 ·rcases m.same hS with hz | ⟨i,cs,rfl,hbi,hi,hcl,hq⟩
  ·omega
  have hgy:g < ys.length:=by omega
  have hx20:=h20 _ (List.getElem_mem hgy)
  obtain ⟨q1,q2,q3,q4⟩:=hq g ys[g] (List.getElem?_eq_getElem hgy)
  have hKs:=Yci (k:=k) hgy
  generalize hx1:KI k ys g=x1 at *
  simp only [Zbd,Int.toNat_natCast,Zba hi,Nat.zero_add,Nat.add_zero,q1,Zaj]
  refine ⟨by omega,(Zdq (by omega)).mono ?_⟩
  rintro v h1 ⟨rfl,s1⟩
  have i1:=s1.get hi (Own.lt hi)
  simp only [Zaj,Zba i1,q1,q2,decide_true,Bool.not_true,Zbr,true_and]
  refine ⟨by omega,(Zdq (by rw [IntWalk.i64_in _ (by omega)]; omega)).mono ?_⟩
  rintro v h2 ⟨rfl,s2⟩
  have i2:=s2.get i1 (Own.lt i1)
  rw [IntWalk.i64_in (x1 + 1) (by omega)]
  simp only [Zaj,Zba i2,q2,q3,decide_true,Bool.not_true,Zbr,true_and,Zae]
  rw [IntWalk.i64_in (x1 + 1 + 1) (by omega)]
  have q4':=(q4.same s1).same s2
  rw [show x1 + 2=x1 + 1 + 1 by omega] at q4'
  refine ⟨by omega,(Zuc (q4'.row Zdg) (by omega)).mono ?_⟩
  rintro v h3 ⟨rfl,s3⟩
  simp only [Zbg]
  refine Zaq (fun hneg=>by omega) (fun _=>?_)
  rw [Zcp (by omega)]
  exact hR (g + 1) _ _ _ (by omega) ⟨rfl,by omega,by rw [hKs]; omega,((hS.cat s1).cat s2).cat s3⟩
 ·apply Zeb.A2x0i
  have hgn:g=n:=by omega
  subst hgn
  exact ⟨rfl,hS⟩
structure Zsc (b:Nat) (h:Zab) (a0:Pt) (n0:Nat) (a1:Pt) (n1:Nat) (ys:List EI) (w:Wd):Prop where
 cls:Zcd Zat eP b h a0 n0 w.cs
 ins:n1=0 ∨ ∃ i tl,a1=some (i,0)∧b≤i∧h[i]?=some (.cells Zaa (Zdf eN ys ++ tl) false)
 len:ys.length=n1
 wl:w.is.length=n1
 need:∀ (k:Nat) (x:EI) (i:Ins),ys[k]?=some x→w.is[k]?=some i→x.c=i.1.1∧x.t=i.1.2∧Zcd Zap eP b h x.a x.n i.2
 sep:∀ (j k:Nat) (x y:EI),j≠k→ys[j]?=some x→ys[k]?=some y→x.n≠0→y.n≠0→x.a≠y.a
theorem Zsc.same {b:Nat} {h h':Zab} {a0 a1:Pt} {n0 n1:Nat} {xs:List EI} {w:Wd} (f:Zsc b h a0 n0 a1 n1 xs w) (s:Zbb h.length h h'):Zsc b h' a0 n0 a1 n1 xs w:=
 ⟨f.cls.same s,f.ins.imp id fun ⟨i,tl,h1,h2,h3⟩=>⟨i,tl,h1,h2,s.get h3 (Own.lt h3)⟩,f.len,f.wl,fun k x i hx hi=>⟨(f.need k x i hx hi).1,(f.need k x i hx hi).2.1,(f.need k x i hx hi).2.2.same s⟩,f.sep⟩
theorem Zsc.above {b:Nat} {h h':Zab} {a0 a1:Pt} {n0 n1:Nat} {xs:List EI} {w:Wd} (f:Zsc b h a0 n0 a1 n1 xs w) (hk:∀ i,b≤i→i < h.length→h'[i]?=h[i]?):Zsc b h' a0 n0 a1 n1 xs w:=
 ⟨f.cls.keep (Nat.le_refl _) hk,f.ins.imp id fun ⟨i,tl,h1,h2,h3⟩=>⟨i,tl,h1,h2,by rw [hk i h2 (Own.lt h3)]; exact h3⟩,f.len,f.wl,fun k x i hx hi=>⟨(f.need k x i hx hi).1,(f.need k x i hx hi).2.1,(f.need k x i hx hi).2.2.keep (Nat.le_refl _) hk⟩,f.sep⟩
theorem Zsc.rep {b:Nat} {h:Zab} {a0 a1:Pt} {n0 c0 n1 c1:Nat} {xs:List EI} {w:Wd} (f:Zsc b h a0 n0 a1 n1 xs w) (h0:n0≤c0) (h1:n1≤c1):Zip h a0 n0 c0 a1 n1 c1 w:=by
 have hfe:(Zdf eN xs).length=n1 * 3:=by rw [Zbl Zgu,f.len]
 refine ⟨f.cls.row Zdg,⟨xs,⟨hfe,?_⟩,by rw [f.len,f.wl],fun k x i hx hi=>⟨(f.need k x i hx hi).1,(f.need k x i hx hi).2.1,(f.need k x i hx hi).2.2.row Zdg⟩⟩,h0,h1⟩
 rcases f.ins with hz | ⟨i,tl,rfl,hb,hi⟩
 ·left; omega
 ·refine .inr ⟨i,0,_,_,_,rfl,Own.lt hi,hi,by rw [List.length_append,hfe]; omega,?_⟩
  rw [List.drop_zero,← hfe,List.take_left']; rfl
theorem Zsc.small {b:Nat} {h:Zab} {a0 a1:Pt} {n0 n1:Nat} {xs:List EI} {w:Wd} (f:Zsc b h a0 n0 a1 n1 xs w) (hb:WB w):∀ x∈xs,x.n≤1048576:=by
 intro x hx
 obtain ⟨q,hq,rfl⟩:=List.mem_iff_getElem.1 hx
 have hqi:q < w.is.length:=by rw [f.wl,← f.len]; exact hq
 have:=(f.need q _ _ (List.getElem?_eq_getElem hq) (List.getElem?_eq_getElem hqi)).2.2.1
 have:=(hb.is _ (List.getElem_mem hqi)).2.2.1
 omega
def MkW (b:Nat) (h:Zab) (a0:Pt) (n0:Nat) (a1:Pt) (n1:Nat) (ys:List EI):Prop:=Zcd Zat eP b h a0 n0 (Zhk 1 n0)∧MkI b h a1 n1 ys (1 + 2 * (n0:Int))
theorem MkW.same {b:Nat} {h h':Zab} {a0 a1:Pt} {n0 n1:Nat} {ys:List EI} (m:MkW b h a0 n0 a1 n1 ys) (s:Zbb h.length h h'):MkW b h' a0 n0 a1 n1 ys:=⟨m.1.same s,m.2.same s⟩
theorem Yco {k:Int} {ys:List EI} {n:Nat} (hk:0≤k):0≤KI k ys n:=by unfold KI; omega
theorem Zts {h:Zab} {b n0 c0 n1 c1:Nat} {e0 e1:Bool} {a0 a1:Pt} {ys:List EI} {w:Wd} (f:Zsc b h a0 n0 a1 n1 ys w) (hb:WB w) (hbl:b≤h.length) :
  Zag pg Zfj [.agg [.slice a0 n0 c0 e0,.slice a1 n1 c1 e1],.int .i64 1] h fun v h'=>v=.int .i64 (KI (1 + 2 * (n0:Int)) ys n1)∧Zbb b h h'∧MkW b h' a0 n0 a1 n1 ys∧∀ (j:Nat) (cs:List Zai),h[j]?=some (Zbv.cells Zac cs false)→h'[j]?=some (Zbv.cells Zac cs false):=by
 have hl0:=f.cls.1
 have hlc:=hb.lc
 have hli:=hb.li
 have hyl:=f.len
 have hwl:=f.wl
 apply Ziu.call
 simp only [Zbh]
 generalize hh0:h ++ [Zbv.cells Zac [.slice a0 n0 c0 e0,.slice a1 n1 c1 e1] false]=h0
 have s0:Zbb h.length h h0:=by rw [← hh0]; exact Zan
 have w0:h0[h.length]?=some (Zna a0 n0 c0 e0 a1 n1 c1 e1):=by rw [← hh0]; simp [Zna]
 have w0l:=Own.lt w0
 simp only [Zln w0,Nat.zero_add,List.getElem?_cons_succ,List.getElem?_cons_zero,Zae]
 have f0:=f.same s0
 refine (Znn f0.cls (by omega)).mono ?_
 rintro v h2 ⟨rfl,o2,g2⟩
 simp only [Zbg]
 have hin:=f.cls.in
 have hin0:=f0.cls.in
 have w2:h2[h.length]?=some (Zna a0 n0 c0 e0 a1 n1 c1 e1):=by
  rw [o2.2 _ (Own.lt w0) fun j hj hn=>by have:=(hin j hj hn).2; omega]; exact w0
 simp only [Zln w2,Nat.zero_add,List.getElem?_cons_succ,List.getElem?_cons_zero,Zae]
 have offC:∀ {i:Nat} {ty:TypeId} {cs:List Zai},ty≠Zat→h0[i]?=some (.cells ty cs false)→h2[i]?=some (.cells ty cs false):=fun {i ty cs} hty hi=>by
  rw [o2.2 i (Own.lt hi) fun q hq h0 e=>?_]; exact hi
  subst e
  rcases f0.cls.2 with hz | ⟨j',ha',_,hj''⟩
  ·exact h0 hz
  ·rw [hq] at ha'; cases ha'
   exact Zka hi hj'' hty rfl
 have n1':Zaa≠Zat:=by decide
 have n2':Zap≠Zat:=by decide
 have un:UnI b h2 a1 n1 ys:=f0.ins.imp id fun ⟨i,tl,h1,h2',h3⟩=>by
  refine ⟨i,_,h1,h2',offC n1' h3,by rw [List.length_append,Zbl Zgu,hyl]; omega,fun q x hx=>?_⟩
  have hq:=(List.getElem?_eq_some_iff.1 hx).1
  rw [List.getElem?_append_left (by rw [Zbl Zgu]; omega)]
  have hd:=Zta Zgu ys q
  have h2:(Zdf eN ys)[q * 3 + 2]?=((Zdf eN ys).drop (q * 3))[2]?:=by rw [List.getElem?_drop]
  rw [h2,hd,List.drop_eq_getElem_cons hq,Zfv]
  have:ys[q]=x:=by rw [List.getElem?_eq_getElem hq] at hx; exact Option.some.inj hx
  rw [this]; rfl
 refine (Yeg hyl (by omega) un (f.small hb) (fun q x hx=>?_) f.sep (k:=1 + 2 * (n0:Int)) (by omega)).mono ?_
 ·have hq:=(List.getElem?_eq_some_iff.1 hx).1
  have hqi:q < w.is.length:=by omega
  obtain ⟨_,_,p⟩:=f0.need q x _ hx (List.getElem?_eq_getElem hqi)
  exact ⟨_,p.1,p.2.imp id fun ⟨j,ha,hbj,hc⟩=>⟨j,ha,hbj,offC n2' hc⟩⟩
 rintro v h3 ⟨rfl,s3,mk,oth⟩
 simp only [Zbg]
 have le2:=o2.1
 have le0:=s0.le
 refine ⟨by trivial,⟨by have:=s3.le; omega,fun j hj=>?_⟩,⟨?_,mk⟩,fun j cs hj=>oth j _ _ (by decide) (by decide) (offC (by decide) (s0.get hj (Own.lt hj)))⟩
 ·rw [s3.eq j hj,o2.2 j (by omega) fun q hq hn=>by have:=(hin0 q hq hn).1; omega,s0.eq j (by omega)]
 ·exact ⟨g2.1,g2.2.imp id fun ⟨i,ha,hb',hc⟩=>⟨i,ha,hb',oth i _ _ (by decide) (by decide) hc⟩⟩
theorem Zos {h:Zab} {b n0 c0 n1 c1:Nat} {e0 e1:Bool} {a0 a1:Pt} {ys:List EI} (m:MkW b h a0 n0 a1 n1 ys) (hyl:ys.length=n1) (hn0:n0≤1048576) (hn1:n1≤1048576) (h20:∀ x∈ys,x.n≤1048576) :
  Zag pg Zha [.agg [.slice a0 n0 c0 e0,.slice a1 n1 c1 e1],.int .i64 1] h fun v h'=>v=.int .i64 (KI (1 + 2 * (n0:Int)) ys n1)∧Zbb h.length h h':=by
 apply Zlz.call
 simp only [Zbh]
 generalize hh0:h ++ [Zbv.cells Zac [.slice a0 n0 c0 e0,.slice a1 n1 c1 e1] false]=h0
 have s0:Zbb h.length h h0:=by rw [← hh0]; exact Zan
 have w0:h0[h.length]?=some (Zna a0 n0 c0 e0 a1 n1 c1 e1):=by rw [← hh0]; simp [Zna]
 simp only [Zln w0,Nat.zero_add,List.getElem?_cons_succ,List.getElem?_cons_zero,Zae]
 have m0:=m.same s0
 refine (Zro (m0.1.row Zdg) (by omega)).mono ?_
 rintro v h1 ⟨rfl,s1⟩
 have w1:=s1.get w0 (Own.lt w0)
 simp only [Zbg,Zln w1,List.getElem?_cons_succ,List.getElem?_cons_zero,Zae]
 refine Zaq (fun hneg=>by omega) (fun _=>?_)
 refine (Yfc hyl hn1 h20 (m0.2.same s1) (by omega)).mono ?_
 rintro v h2 ⟨rfl,s2⟩
 simp only [Zbg]
 have:=Yco (k:=1 + 2 * (n0:Int)) (ys:=ys) (n:=n1) (by omega)
 refine Zaq (fun hneg=>by omega) (fun _=>?_)
 exact ⟨by trivial,(s0.cat s1).cat s2⟩
end Go.Sim

set_option linter.unusedVariables false
set_option linter.unusedSimpArgs false
set_option maxRecDepth 20000
namespace Go.Sim
open Go Go.RowKit

end Go.Sim

set_option linter.unusedVariables false
set_option linter.unusedSimpArgs false
set_option maxRecDepth 20000
namespace Go.Sim
open Go Go.RowKit

def noW:Wd:=⟨[],[]⟩
theorem Yke:WB noW:=⟨by simp [noW],by simp [noW],by simp [noW],by simp [noW]⟩
theorem Yfz {b:Nat} {h:Zab}:Zsc b h none 0 none 0 [] noW:=⟨⟨rfl,.inl rfl⟩,.inl rfl,rfl,rfl,by simp,by simp⟩
theorem Yiz {h:Zab}:Zip h none 0 0 none 0 0 noW:=(Yfz (b:=0)).rep (Nat.le_refl _) (Nat.le_refl _)
end Go.Sim

set_option linter.unusedVariables false
set_option linter.unusedSimpArgs false
set_option maxRecDepth 20000
namespace Go.Sim
open Go Go.RowKit
structure WB1 (w:Wd):Prop where
 lc:w.cs.length≤1048576
 li:w.is.length≤1048577
 cs:∀ p∈w.cs,p.1.length≤1048576∧p.2.length≤1048576∧∀ b∈p.1,b < 256
 is:∀ i∈w.is,i.1.1.length≤1048576∧i.1.2.length≤1048576∧i.2.length≤1048576∧∀ p∈i.2,p.1.length≤1048576∧p.2.length≤1048576
theorem Zwd {h:Zab} {a0 a1 a2:Pt} {n0 c0 n1 c1 n2 c2 j:Nat} {e0 e1 e2:Bool} {w:Wd} {ns:List Nd} {ct tt:List Nat} (r:Zip h a0 n0 c0 a1 n1 c1 w) (b:WB1 w) (hj:h[j]?=some (Zna a0 n0 c0 e0 a1 n1 c1 e1))
  (r2:Row h.length h a2 (n2 * 2) (Zdf eP ns)) (hn2:n2≤1048576) (hns:∀ p∈ns,p.2.length≤1048576) (htt:tt.length≤1048576) :
  Zag pg Zbo [.agg [.str ct,.str tt,.slice a2 n2 c2 e2],.ptr (some (j,0))] h fun v h'=>v=.bool (!Ziw w.cs ((ct,tt),ns))∧Zbb h.length h h':=by
 apply Zfr.call
 simp only [Zbh]
 have s1:Zbb h.length h (h ++ [.cells Zaa [.str ct,.str tt,.slice a2 n2 c2 e2] false]):=Zan
 rw [Yca (s1.get hj (Own.lt hj)),Yek]
 simp only [Zar,Zah,Zal,Zae,Zaj]
 have hlc:=b.lc
 have hl0:=r.len0
 refine (Zlw (r.cls.same' s1) r.le0 (by omega) (fun p hp=>(b.cs p hp).2.1) (r2.same' s1) hn2 hns htt).mono ?_
 rintro v h2 ⟨rfl,s2⟩
 simp only [Zau]
 exact ⟨by trivial,s1.cat s2⟩
theorem Zvn {h:Zab} {a0 a1:Pt} {n0 c0 n1 c1 j:Nat} {e0 e1:Bool} {w:Wd} (r:Zip h a0 n0 c0 a1 n1 c1 w) (b:WB1 w) (hj:h[j]?=some (Zna a0 n0 c0 e0 a1 n1 c1 e1)) :
  Zag pg Zbx [.slice a1 n1 c1 e1,.fn Zbo [.ptr (some (j,0))]] h fun v h'=>(∃ z:Int,v=.int .i64 z∧decide (z ≥ 0)=!w.is.all (Ziw w.cs))∧Zbb h.length h h':=by
 have hl:=r.len1
 have hli:=b.li
 apply Zak.call
 refine Zak.L2ind _ _ _ _ _ _ _ (J:=fun (g:Nat) x8 h'=>x8=(g:Int)∧g≤n1∧Zbb h.length h h'∧(w.is.take g).all (Ziw w.cs)=true) (fun g=>n1 - g) ?_ 0 _ _ ⟨rfl,by omega,Zbb.refl _ _,rfl⟩
 rintro g x8 h' ⟨rfl,hg,hS,hk⟩ R hR
 unfold Zak.L2t
 refine Zaq (fun hlt=>?_) (fun hge=>?_)
 ·obtain ⟨i,o,hgl,a2,n2,c2,e2,rfl,_,hr,_,_,_,hrow,hn⟩:=(r.same hS).inst (k:=g) (by omega)
  simp only [Zbd,Int.toNat_natCast,hr,Zar,Zah,Zal,Zaj,Zae]
  have hb:=b.is _ (List.getElem_mem hgl)
  refine ⟨by omega,(Zwd (r.same hS) b (hS.get hj (Own.lt hj)) hrow (by omega) (fun p hp=>(hb.2.2.2 p hp).2) hb.2.1).mono ?_⟩
  rintro v h2 ⟨rfl,s2⟩
  simp only [Zau]
  have hS2:=hS.cat s2
  refine Zci (fun he=>?_) (fun he=>?_)
  ·exact ⟨⟨_,rfl,by rw [Zmr hgl he]; simp⟩,hS2⟩
  ·rw [Zcp (by omega)]
   exact hR (g + 1) _ _ (by omega) ⟨rfl,by omega,hS2,Zeo hgl hk he⟩
 ·apply Zak.A2x0i
  have:g=n1:=by omega
  subst this
  rw [List.take_of_length_le (by omega)] at hk
  exact ⟨⟨_,rfl,by rw [hk]; rfl⟩,hS⟩
theorem Zrt {h:Zab} {a0 a1:Pt} {n0 c0 n1 c1:Nat} {e0 e1:Bool} {w:Wd} (r:Zip h a0 n0 c0 a1 n1 c1 w) (b:WB1 w) :
  Zag pg Zew [.agg [.slice a0 n0 c0 e0,.slice a1 n1 c1 e1]] h fun v h'=>v=.bool (Zeh w)∧Zbb h.length h h':=by
 have hl0:=r.len0
 have hl1:=r.len1
 have hlc:=b.lc
 apply Zig.call
 simp only [Zbh]
 generalize hh0:h ++ [Zbv.cells Zac [.slice a0 n0 c0 e0,.slice a1 n1 c1 e1] false]=h0
 have s0:Zbb h.length h h0:=by rw [← hh0]; exact Zan
 have w0:h0[h.length]?=some (Zna a0 n0 c0 e0 a1 n1 c1 e1):=by rw [← hh0]; simp [Zna]
 rw [Yca w0]
 simp only [Zar,Zah,Zal,Zae]
 refine (Zmh (r.cls.same' s0) r.le0 (by omega) (fun p hp=>(b.cs p hp).2.1)).mono ?_
 rintro v h2 ⟨rfl,s2⟩
 have S2:=s0.cat s2
 have w2:=s2.get w0 (Own.lt w0)
 simp only [Zau]
 refine Zfg (fun b1=>?_) (fun b1=>⟨by unfold Zeh; rw [b1]; rfl,S2⟩)
 simp only [Zln w2,Nat.zero_add,List.getElem?_cons_succ,List.getElem?_cons_zero,Zae]
 refine Zaq (fun b2=>?_) (fun b2=>⟨by unfold Zeh; rw [b1]; simp [show ¬ w.is.length≤10 by omega],S2⟩)
 apply Zbp.call
 refine (Zvn (r.same S2) b w2).mono ?_
 rintro v h3 ⟨⟨z,rfl,hz⟩,s3⟩
 simp only [Zbg,Zau]
 refine ⟨?_,S2.cat s3⟩
 rw [hz,Bool.not_not]
 unfold Zeh
 rw [b1]; simp [show w.is.length≤10 by omega]
theorem Zqo {h:Zab} {a0 a1:Pt} {n0 c0 n1 c1:Nat} {e0 e1:Bool} {w:Wd} (r:Zip h a0 n0 c0 a1 n1 c1 w) (b:WB1 w) :
  Zag pg Zav [.agg [.slice a0 n0 c0 e0,.slice a1 n1 c1 e1]] h fun v h'=>v=.bool (Zeh w)∧Zbb h.length h h':=by
 have hl0:=r.len0
 have hl1:=r.len1
 have hlc:=b.lc
 have hli:=b.li
 apply Zdh.call
 simp only [Zbh]
 generalize hh0:h ++ [Zbv.cells Zac [.slice a0 n0 c0 e0,.slice a1 n1 c1 e1] false]=h0
 have s0:Zbb h.length h h0:=by rw [← hh0]; exact Zan
 have w0:h0[h.length]?=some (Zna a0 n0 c0 e0 a1 n1 c1 e1):=by rw [← hh0]; simp [Zna]
 simp only [Zln w0,Nat.zero_add,List.getElem?_cons_succ,List.getElem?_cons_zero,Zae]
 refine Zdh.L2ind _ _ _ _ _ _ _ _ (J:=fun (g:Nat) x8 h'=>x8=(g:Int)∧g≤n1∧Zbb h0.length h0 h'∧(w.is.take g).all (Ziw w.cs)=true) (fun g=>n1 - g) ?_ 0 _ _ ⟨rfl,by omega,Zbb.refl _ _,rfl⟩
 rintro g x8 h' ⟨rfl,hg,hS,hk⟩ R hR
 have SS:=s0.cat hS
 have w1:=hS.get w0 (Own.lt w0)
 unfold Zdh.L2t
 refine Zaq (fun hlt=>?_) (fun hge=>?_)
 ·obtain ⟨i,o,hgl,a2,n2,c2,e2,rfl,_,hr,_,_,_,hrow,hn⟩:=(r.same SS).inst (k:=g) (by omega)
  simp only [Zbd,Int.toNat_natCast,hr,Zar,Zah,Zal,Zaj,Zae,Zbh]
  rw [Zym]
  generalize hq:h' ++ [Zbv.cells Zaa [.str w.is[g].1.1,.str w.is[g].1.2,.slice a2 n2 c2 e2] false]=hq'
  have sq:Zbb h'.length h' hq':=by rw [← hq]; exact Zan
  simp only [Zam]
  rw [Yca (sq.get w1 (Own.lt w1)),← hq,Yek,hq]
  simp only [Zar,Zah,Zal,Zaj,Zae]
  have hb:=b.is _ (List.getElem_mem hgl)
  have Sq:=SS.cat sq
  refine ⟨by omega,(Zkv (r.cls.same' Sq) r.le0 (by omega) (fun p hp=>(b.cs p hp).2.1) (fun p hp=>(b.cs p hp).2.2) (hrow.same' sq) (by omega) (fun p hp=>(hb.2.2.2 p hp).2) hb.2.1).mono ?_⟩
  rintro v h2 ⟨rfl,s2⟩
  simp only [Zau]
  refine Zci (fun he=>?_) (fun he=>?_)
  ·exact ⟨by unfold Zeh; rw [Zmr hgl he]; simp,Sq.cat s2⟩
  ·rw [Zcp (by omega)]
   exact hR (g + 1) _ _ (by omega) ⟨rfl,by omega,(hS.cat sq).cat s2,Zeo hgl hk he⟩
 ·apply Zdh.A2x0i
  have:g=n1:=by omega
  subst this
  rw [List.take_of_length_le (by omega)] at hk
  simp only [Zln w1,Nat.zero_add,List.getElem?_cons_zero,Zae]
  refine (Zmg (r.cls.same' SS) r.le0 (by omega) (fun p hp=>(b.cs p hp).2.1) (fun p hp=>(b.cs p hp).2.2)).mono ?_
  rintro v h2 ⟨rfl,s2⟩
  simp only [Zau]
  have w2:=s2.get w1 (Own.lt w1)
  refine Zfg (fun b1=>?_) (fun b1=>⟨by unfold Zeh; rw [b1]; rfl,SS.cat s2⟩)
  simp only [Zln w2,Nat.zero_add,List.getElem?_cons_succ,List.getElem?_cons_zero,Zae]
  refine ⟨?_,SS.cat s2⟩
  unfold Zeh
  rw [b1,hk]; congr 1; rw [Bool.eq_iff_iff]; simp; omega
end Go.Sim
