/- A part of the proof of a statement of this seat: see the text that holds the theorem. No condition. -/
import Derived.Test.YtdglddliggejdaaGreatNm
import Derived.Test.YtdglddliggejdaaGreatCSup2
import Derived.Test.YtdglddliggejdaaGreatCWVar2
import Derived.Test.YtdglddliggejdaaGreatCGrT
import Derived.Test.YtdglddliggejdaaGreatCSTy
import Derived.Test.YtdglddliggejdaaGreatPTCIn
import Derived.Test.YtdglddliggejdaaGreatCSMatch
set_option linter.unusedVariables false
set_option linter.unusedSimpArgs false
set_option linter.all false
set_option linter.unusedVariables false
set_option linter.unusedSimpArgs false
set_option maxRecDepth 20000
namespace Go.Sim
open Go Go.RowKit

structure Yul (b:Nat) (h:Zaa) (a:Pt) (n c:Nat) (l:List Nd):Prop where
 vec:Vec Zae h a n c (Zdq eP l)
 len:l.length=n
 low:∀ i,a=some (i,0)→b≤i
 cap:n≤c
theorem Yul.row {b:Nat} {h:Zaa} {a:Pt} {n c:Nat} {l:List Nd} (f:Yul b h a n c l):Row h.length h a (n * 2) (Zdq eP l):=f.vec.row (by rw [Zay Zfp,f.len])
theorem Yul.same {b:Nat} {h h':Zaa} {a:Pt} {n c:Nat} {l:List Nd} (f:Yul b h a n c l) (s:Zbe h.length h h'):Yul b h' a n c l:=⟨f.vec.same s,f.len,f.low,f.cap⟩
def But (a:Pt) (h h':Zaa):Prop:=h.length≤h'.length∧∀ j,j < h.length→(∀ i,a=some (i,0)→j≠i)→h'[j]?=h[j]?
theorem But.of {a:Pt} {h h':Zaa} (s:Zbe h.length h h'):But a h h':=⟨s.le,fun j hj _=>s.eq j hj⟩
theorem But.below {a:Pt} {b:Nat} {h h':Zaa} (s:But a h h') (hb:b≤h.length) (hl:∀ i,a=some (i,0)→b≤i):Zbe b h h':=⟨s.1,fun j hj=>s.2 j (by omega) fun i hi=>by have:=hl i hi; omega⟩
end Go.Sim

set_option linter.unusedSimpArgs false
set_option linter.unusedVariables false
namespace Go.Sim

structure Wk where
 cand:Nd→List Int
 needs:Int→List Nat→Option (List Nd)
 most:List Int→Int
inductive Fnd where
 | ok (s:List Nat)
 | no (why:List Nat) (n:Nd)
end Go.Sim

set_option linter.unusedVariables false
set_option linter.unusedSimpArgs false
set_option maxRecDepth 20000
namespace Go.Sim
open Go Go.RowKit

structure FrS (i:Nat) (qa:Pt) (h h':Zaa) (qa':Pt):Prop where
 le:h.length≤h'.length
 eq:∀ j,j < h.length→j≠i→(∀ q,qa=some (q,0)→j≠q)→h'[j]?=h[j]?
 pt:qa'=qa ∨ ∀ q,qa'=some (q,0)→h.length≤q
theorem FrS.of_same {i:Nat} {qa:Pt} {h h':Zaa} (s:Zbe h.length h h'):FrS i qa h h' qa:=⟨s.le,fun j hj _ _=>s.eq j hj,.inl rfl⟩
theorem FrS.refl (i:Nat) (qa:Pt) (h:Zaa):FrS i qa h h qa:=.of_same (Zbe.refl _ _)
theorem FrS.ne {i:Nat} {qa qa':Pt} {h h':Zaa} (f:FrS i qa h h' qa') {j:Nat} (hj:j < h.length) (hq:∀ q,qa=some (q,0)→j≠q):∀ q,qa'=some (q,0)→j≠q:=by
 intro q hq'
 rcases f.pt with e | e
 ·exact hq q (e ▸ hq')
 ·have:=e q hq'; omega
theorem FrS.trans {i:Nat} {qa qa1 qa2:Pt} {h h1 h2:Zaa} (f:FrS i qa h h1 qa1) (g:FrS i qa1 h1 h2 qa2):FrS i qa h h2 qa2:=by
 have:=f.le; have:=g.le
 refine ⟨by omega,fun j hj hi hq=>?_,?_⟩
 ·rw [g.eq j (by omega) hi (f.ne hj hq)]; exact f.eq j hj hi hq
 ·rcases g.pt with e | e
  ·rcases f.pt with e' | e'
   ·exact .inl (e.trans e')
   ·exact .inr fun q hq=>e' q (e ▸ hq)
  ·exact .inr fun q hq=>by have:=e q hq; omega
theorem FrS.set {i:Nat} {qa:Pt} {h:Zaa} {x:Zcc}:FrS i qa h (h.set i x) qa:=⟨by simp,fun j _ hi _=>Zbl (fun e=>hi e.symm),.inl rfl⟩
theorem FrS.get {i:Nat} {qa qa':Pt} {h h':Zaa} (f:FrS i qa h h' qa') {j:Nat} {x:Zcc} (hj:h[j]?=some x) (hi:j≠i) (hq:∀ q,qa=some (q,0)→j≠q):h'[j]?=some x:=by rw [f.eq j (Own.lt hj) hi hq]; exact hj
theorem FrS.row {i:Nat} {qa qa':Pt} {h h':Zaa} (f:FrS i qa h h' qa') {a:Pt} {n:Nat} {cs:List Zas} (r:Row h.length h a n cs) (hn:∀ j o,n≠0→a=some (j,o)→j≠i∧∀ q,qa=some (q,0)→j≠q):Row h'.length h' a n cs:=by
 obtain ⟨hl,r⟩:=r
 by_cases h0:n=0
 ·exact ⟨hl,.inl h0⟩
 ·refine ⟨hl,r.imp id ?_⟩
  rintro ⟨j,o',t,all,ro,ha,hi,hg,x⟩
  have:=f.le
  obtain ⟨h1,h2⟩:=hn j o' h0 ha
  exact ⟨j,o',t,all,ro,ha,by omega,by rw [f.eq j hi h1 h2]; exact hg,x⟩
theorem FrS.below {i b:Nat} {qa qa':Pt} {h h':Zaa} (f:FrS i qa h h' qa') (hb:b≤h.length) (hi:b≤i) (hq:∀ q,qa=some (q,0)→b≤q):Zbe b h h':=⟨f.le,fun j hj=>f.eq j (by omega) (by omega) fun q hq'=>by have:=hq q hq'; omega⟩
end Go.Sim

set_option linter.unusedSimpArgs false
set_option linter.unusedVariables false
namespace Go.Sim

section
variable {k:Wk} {sp:Bool} {dec:Int→List Nat}
end
end Go.Sim

set_option linter.unusedVariables false
set_option linter.unusedSimpArgs false
set_option maxRecDepth 20000
namespace Go.Sim
open Go Go.RowKit

theorem Vec.app0 {P:Program} {t ty:TypeId} {h:Zaa} {i n c sz:Nat} {e:Bool} {xa:Pt} {m c':Nat} {e':Bool} {cs new:List Zas} {K:Zas→Zaa→Prop} (hi:h[i]?=some (.cells ty cs false))
  (hu:P.underlying t=some (.slice ty)) (hc:P.cellsOf ty=sz) (hok:P.okElem ty=true) (hby:P.bytesOf ty≤127) (hn:cs.length=n * sz) (hx:rowOf h xa (m * sz)=some new) (hl:new.all Zas.leaf=true)
  (hle:n + m≤1099511627776) (hk:∀ h',h'.length=h.length + 1→h'[h.length]?=some (.cells ty (cs ++ new) false)→(∀ j,j < h.length→j≠i→h'[j]?=h[j]?) →
   K (.slice (some (h.length,0)) (n + m) (n + m) false) h'):Zcz P t h (.slice (some (i,0)) n c e) (.slice xa m c' e') K:=by
 unfold Zcz
 simp only [hu,hc,hx,Zau]
 refine ⟨⟨hok,?_,hl⟩,.inl ⟨by trivial,?_⟩⟩
 ·have:(n + m) * (P.bytesOf ty + 1)≤(n + m) * 128:=Nat.mul_le_mul_left _ (by omega)
  omega
 ·simp only [Zqd,hi,true_and]
  refine ⟨hn,hk _ (by simp) (by rw [List.getElem?_append_right (by simp)]; simp) fun j hj hne=>?_⟩
  rw [List.getElem?_append_left (by simpa using hj),List.getElem?_set_ne (fun e=>hne e.symm)]
section
variable {hb:Zaa} {i:Nat} {u v:Zas} {sp:Bool} {h:Zaa} {qa:Pt} {asked:List Nd} {fl:Nd}
end
end Go.Sim

set_option linter.unusedVariables false
set_option linter.unusedSimpArgs false
set_option maxRecDepth 20000
namespace Go.Sim
open Go Go.RowKit

theorem Zox:pg.underlying Zen=some (.slice Zac):=by kernel_rfl
theorem Zym:pg.cellsOf Zac=3:=by kernel_rfl
theorem Zyi:pg.okElem Zac=true:=by kernel_rfl
theorem Zyq:pg.bytesOf Zac≤127:=Nat.le_of_ble_eq_true (by kernel_rfl)
theorem Zwg:pg.underlying Zip=some (.slice Zbh):=by kernel_rfl
theorem Yho:pg.cellsOf Zbh=2:=by kernel_rfl
theorem Yhc:pg.okElem Zbh=true:=by kernel_rfl
theorem Yhs:pg.bytesOf Zbh≤127:=Nat.le_of_ble_eq_true (by kernel_rfl)
theorem Zfe {h:Zaa} {i j:Nat} {t t':TypeId} {cs cs':List Zas} {ro ro':Bool} (hi:h[i]?=some (.cells t cs ro)) (hj:h[j]?=some (.cells t' cs' ro')) (hne:t≠t'):i≠j:=by
 rintro rfl; rw [hi] at hj; injection hj with hj; injection hj with hj _ _; exact hne hj
theorem Ymf {h:Zaa} {a:Pt} {n cp:Nat} {e:Bool} {i:Ins} (r:Row h.length h a (n * 2) (Zdq eP i.2)) (hn:n≤1048576) :
  Zah pg Zhn [.agg [.str i.1.1,.str i.1.2,.slice a n cp e]] h fun v h'=>∃ a' c' e',v=.agg [.str i.1.1,.str i.1.2,.slice a' n c' e']∧Zbe h.length h h'∧Zdl Zae eP h.length h' a' n i.2∧a'≠none∧n≤c':=by
 have hl:i.2.length=n:=by have:=r.1; rw [Zay Zfp] at this; omega
 apply Zkx.call
 simp only [Zax]
 generalize hh0:h ++ [Zcc.cells Zac [.str i.1.1,.str i.1.2,.slice a n cp e] false]=h0
 generalize hh1:h0 ++ [Zcc.cells Zac [.str [],.str [],.slice none 0 0 true] false]=h1
 generalize hh2:h1 ++ [Zcc.cells Zae [] false]=h2
 have s0:Zbe h.length h h0:=by rw [← hh0]; exact Zao
 have s1:Zbe h0.length h0 h1:=by rw [← hh1]; exact Zao
 have s2:Zbe h1.length h1 h2:=by rw [← hh2]; exact Zao
 have l0:h0.length=h.length + 1:=by rw [← hh0]; simp
 have l1:h1.length=h0.length + 1:=by rw [← hh1]; simp
 have l2:h2.length=h1.length + 1:=by rw [← hh2]; simp
 have x0:h0[h.length]?=some (.cells Zac [.str i.1.1,.str i.1.2,.slice a n cp e] false):=by rw [← hh0]; simp
 have y1:h1[h0.length]?=some (.cells Zac [.str [],.str [],.slice none 0 0 true] false):=by rw [← hh1]; simp
 have z2:h2[h1.length]?=some (.cells Zae [] false):=by rw [← hh2]; simp
 have x2:=s2.get (s1.get x0 (by omega)) (by omega)
 have y2:=s2.get y1 (by omega)
 have S2:=(s0.cat s1).cat s2
 simp only [Zak x2,Nat.zero_add,List.getElem?_cons_succ,List.getElem?_cons_zero,Zaf]
 refine Vec.app0 (n:=0) z2 Yaj Ylj Ynr Ykz (by simp) (r.same' S2).rowOf (Zqy (enc:=eP) (fun _=>rfl) i.2) (by omega) (fun h3 hl3 hi3 hk3=>?_)
 have x3:h3[h.length]?=some (.cells Zac [.str i.1.1,.str i.1.2,.slice a n cp e] false):=by rw [hk3 _ (by omega) (by omega)]; exact x2
 have y3:h3[h0.length]?=some (.cells Zac [.str [],.str [],.slice none 0 0 true] false):=by rw [hk3 _ (by omega) (by omega)]; exact y2
 simp only [Zaf,Nat.zero_add]
 rw [Zba x3 (by simp)]
 simp only [Zat,putRow,List.take_succ_cons,List.take_zero,List.length_cons,List.length_nil,List.drop_succ_cons,List.drop_zero,List.drop_nil,List.cons_append,List.nil_append,List.append_nil]
 rw [Zlu (Zbv x3)]
 simp only [Zau,Zaj,Zar,Zam,Zaf]
 have y4:(h3.set h.length (Zcc.cells Zac [.str i.1.1,.str i.1.2,.slice (some (h2.length,0)) n n false] false))[h0.length]?=some (.cells Zac [.str [],.str [],.slice none 0 0 true] false):=by rw [Zbl (by omega)]; exact y3
 rw [Zba y4 (by simp)]
 simp only [Zat,putRow,List.take_zero,List.length_cons,List.length_nil,List.drop_succ_cons,List.drop_zero,List.drop_nil,List.cons_append,List.nil_append,List.append_nil]
 rw [Zlu (Zbv y4)]
 simp only [Zau,Zaj,Zar,Zam,Zaf]
 refine ⟨_,_,_,rfl,⟨by simp; omega,fun j hj=>?_⟩,⟨hl,.inr ⟨h2.length,rfl,by omega,?_⟩⟩,by simp,Nat.le_refl _⟩
 ·rw [Zbl (by omega),Zbl (by omega),hk3 j (by omega) (by omega)]; exact S2.eq j hj
 ·rw [Zbl (by omega),Zbl (by omega),hi3]; simp
theorem Yfb {h:Zaa} {a0 a:Pt} {n0 c0 n cp:Nat} {e:Bool} {w:Wd} (r:Zpz h a0 n0 c0 a n cp w) (b:WB w) :
  Zah pg Zgc [.slice a n cp e] h fun v h'=>∃ a' c' e' ys,v=.slice a' n c' e'∧n≤c'∧Zbe h.length h h'∧Zdl Zac eN h.length h' a' n ys∧ys.length=w.is.length∧a'≠none ∧
   (∀ (k:Nat) (x:EI) (i:Ins),ys[k]?=some x→w.is[k]?=some i→x.c=i.1.1∧x.t=i.1.2∧Zdl Zae eP h.length h' x.a x.n i.2) ∧
   (∀ (j k:Nat) (x y:EI),j≠k→ys[j]?=some x→ys[k]?=some y→x.n≠0→y.n≠0→x.a≠y.a)∧(∀ x∈ys,x.a≠none)∧∃ q,a'=some (q,0)∧h.length≤q∧h'[q]?=some (.cells Zac (Zdq eN ys) false):=by
 have hl:=r.len1
 have hli:=b.li
 apply Zei.call
 simp only [Zax]
 refine Zei.L3ind (J:=fun (g:Nat) a3 n3 c3 e3 x9 h'=>x9=(g:Int)∧g≤n∧Zbe h.length h h'∧∃ (q:Nat) (ys:List EI),a3=some (q,0)∧n3=g∧g≤c3∧h.length≤q∧ys.length=g∧h'[q]?=some (.cells Zac (Zdq eN ys) false) ∧
   (∀ (k:Nat) (x:EI) (i:Ins),ys[k]?=some x→w.is[k]?=some i→x.c=i.1.1∧x.t=i.1.2∧Zdl Zae eP h.length h' x.a x.n i.2) ∧
   (∀ (j k:Nat) (x y:EI),j≠k→ys[j]?=some x→ys[k]?=some y→x.n≠0→y.n≠0→x.a≠y.a)∧∀ x∈ys,x.a≠none) (m:=fun g=>n - g) (hr:=?_) (g:=0)
  (hj:=⟨rfl,by omega,Zbe.app (Nat.le_refl _) _,h.length,[],rfl,rfl,by omega,Nat.le_refl _,rfl,by simp,by simp,by simp,by simp⟩) ..
 rintro g a3 n3 c3 e3 x9 h' ⟨rfl,hg,hs,q,ys,rfl,rfl,hgc,hql,hy,ho,hrep,hsep,hnn⟩ R hR
 unfold Zei.L3t
 refine Zav (fun hlt=>?_) (fun hge=>?_)
 ·obtain ⟨i0,o0,hgl,a2,n2,c2,e2,rfl,hb0,hr,_,_,_,hrow,hn2⟩:=(r.same hs).inst (k:=n3) (by omega)
  have hb:=b.is _ (List.getElem_mem hgl)
  simp only [Zaw,Int.toNat_natCast,hr,Zau,Zaj,Zar,Zam,Zaf,Zax]
  refine ⟨by omega,?_⟩
  generalize hh1:h' ++ [Zcc.cells Zac [.str [],.str [],.slice none 0 0 true] false]=h1
  have s1:Zbe h'.length h' h1:=by rw [← hh1]; exact Zao
  have o1:h1[h'.length]?=some (.cells Zac [.str [],.str [],.slice none 0 0 true] false):=by rw [← hh1]; simp
  rw [Zba o1 (by simp)]
  simp only [Zat,putRow,List.take_zero,List.length_cons,List.length_nil,List.drop_succ_cons,List.drop_zero,List.drop_nil,List.cons_append,List.nil_append,List.append_nil,Nat.zero_add]
  generalize hh2:h1.set h'.length (Zcc.cells Zac [.str w.is[n3].1.1,.str w.is[n3].1.2,.slice a2 n2 c2 e2] false)=h2
  have o2:h2[h'.length]?=some (.cells Zac [.str w.is[n3].1.1,.str w.is[n3].1.2,.slice a2 n2 c2 e2] false):=by rw [← hh2]; exact Zbv o1
  have s2:Zbe h'.length h' h2:=by rw [← hh2]; exact s1.set' (Nat.le_refl _)
  rw [Zlu o2]
  simp only [Zau,Zaj,Zar,Zam,Zaf]
  refine (Ymf (i:=w.is[n3]) (hrow.same' s2) (by omega)).mono ?_
  rintro v h3 ⟨a',c',e',rfl,s3,f3,hnn3,hc3⟩
  simp only [Zde,Zaj,Zar,Zam,Zaf,Zax]
  have S3:=s2.cat s3
  have hol:=Own.lt ho
  have ho3:=S3.get ho hol
  have hle2:=s2.le
  have hle3:=s3.le
  have hlh:=hs.le
  refine (Vec.mk1 ho3).pushN Zox Zym Zyi Zyq (by rw [Zay Znw,hy]) rfl (by omega) rfl (by omega) (fun h4 hl4 hi4 hk4=>?_)
  simp only [Zaf]
  rw [Zbt (by omega)]
  have keep:∀ {a:Pt} {m:Nat} {l:List Nd} {b:Nat},Zdl Zae eP b h3 a m l→Zdl Zae eP b h4 a m l:=fun f=>⟨f.1,f.2.imp id fun ⟨j,ha,hbj,hc⟩=>⟨j,ha,hbj,by rw [hk4 j (Own.lt hc) (fun j' hj'=>by cases hj'; exact Zfe hc ho3 (by decide))]; exact hc⟩⟩
  refine hR (n3 + 1) _ _ _ _ _ _ (by omega) ⟨rfl,by omega,⟨by omega,fun j hj=>?_⟩,h3.length + 1,ys ++ [⟨w.is[n3].1.1,w.is[n3].1.2,a',n2,c',e'⟩],rfl,rfl,Nat.le_refl _,by omega,by simp [hy],by rw [hi4]; simp [eN],?_,?_,fun x hx=>?_⟩
  ·rw [hk4 j (by omega) (fun j' hj'=>by cases hj'; omega),S3.eq j (by omega)]; exact hs.eq j hj
  ·intro k x j hx hj
   by_cases hk:k < n3
   ·rw [List.getElem?_append_left (by omega)] at hx
    obtain ⟨p1,p2,p3⟩:=hrep k x j hx hj
    exact ⟨p1,p2,keep (p3.same S3)⟩
   ·have hkg:k=n3:=by have:=(List.getElem?_eq_some_iff.1 hx).1; simp at this; omega
    subst hkg
    rw [List.getElem?_append_right (by omega)] at hx
    simp [hy] at hx
    subst hx
    rw [List.getElem?_eq_getElem hgl] at hj
    cases hj
    exact ⟨rfl,rfl,keep ⟨f3.1,f3.2.imp id fun ⟨j,ha,hbj,hc⟩=>⟨j,ha,by omega,hc⟩⟩⟩
  ·have old:∀ (k:Nat) (x:EI),k < n3→ys[k]?=some x→x.n≠0→n2≠0→x.a≠a':=by
    intro k x hk hx h0 h2' he
    obtain ⟨_,_,p3⟩:=hrep k x w.is[k] hx (List.getElem?_eq_getElem (by omega))
    obtain ⟨_,p3⟩:=p3
    obtain ⟨_,f3'⟩:=f3
    rcases p3 with p3 | ⟨j,ha,_,hc⟩
    ·exact h0 p3
    ·rcases f3' with f3' | ⟨j',ha',hb',_⟩
     ·exact h2' f3'
     ·rw [ha,ha'] at he; cases he; have:=Own.lt hc; omega
   intro j k x y hjk hx hy' h0 h0'
   by_cases hj:j < n3 <;> by_cases hk:k < n3
   ·rw [List.getElem?_append_left (by omega)] at hx hy'
    exact hsep j k x y hjk hx hy' h0 h0'
   ·have hkg:k=n3:=by have:=(List.getElem?_eq_some_iff.1 hy').1; simp at this; omega
    subst hkg
    rw [List.getElem?_append_left (by omega)] at hx
    rw [List.getElem?_append_right (by omega)] at hy'
    simp [hy] at hy'
    subst hy'
    exact old j x hj hx h0 h0'
   ·have hjg:j=n3:=by have:=(List.getElem?_eq_some_iff.1 hx).1; simp at this; omega
    subst hjg
    rw [List.getElem?_append_left (by omega)] at hy'
    rw [List.getElem?_append_right (by omega)] at hx
    simp [hy] at hx
    subst hx
    exact fun he=>old k y hk hy' h0' h0 he.symm
   ·have:=(List.getElem?_eq_some_iff.1 hx).1
    have:=(List.getElem?_eq_some_iff.1 hy').1
    simp at *
    omega
  ·rcases List.mem_append.1 hx with hx | hx
   ·exact hnn x hx
   ·rw [List.mem_singleton] at hx; subst hx; exact hnn3
 ·apply Zei.A3x0i
  have:n3=n:=by omega
  subst this
  exact ⟨_,_,_,ys,rfl,hgc,hs,⟨hy,.inr ⟨q,rfl,hql,ho⟩⟩,by omega,by simp,hrep,hsep,hnn,q,rfl,hql,ho⟩
theorem Ycl {h:Zaa} {a0 a1:Pt} {n0 c0 n1 c1:Nat} {e0 e1:Bool} {w:Wd} (r:Zpz h a0 n0 c0 a1 n1 c1 w) (b:WB w) :
  Zah pg Zjr [.agg [.slice a0 n0 c0 e0,.slice a1 n1 c1 e1]] h fun v h'=>∃ b0 d0 f0 b1 d1 f1 ys,v=.agg [.slice b0 n0 d0 f0,.slice b1 n1 d1 f1]∧Zbe h.length h h'∧Zry h.length h' b0 n0 b1 n1 ys w∧n0≤d0∧n1≤d1∧b0≠none∧b1≠none∧∃ q,b1=some (q,0)∧h.length≤q∧h'[q]?=some (.cells Zac (Zdq eN ys) false):=by
 have hl0:=r.len0
 have hlc:=b.lc
 apply Zni.call
 simp only [Zax]
 generalize hh0:h ++ [Zcc.cells Zad [.slice a0 n0 c0 e0,.slice a1 n1 c1 e1] false]=h0
 generalize hh1:h0 ++ [Zcc.cells Zad [.slice none 0 0 true,.slice none 0 0 true] false]=h1
 generalize hh2:h1 ++ [Zcc.cells Zbh [] false]=h2
 have s0:Zbe h.length h h0:=by rw [← hh0]; exact Zao
 have s1:Zbe h0.length h0 h1:=by rw [← hh1]; exact Zao
 have s2:Zbe h1.length h1 h2:=by rw [← hh2]; exact Zao
 have l0:h0.length=h.length + 1:=by rw [← hh0]; simp
 have l1:h1.length=h0.length + 1:=by rw [← hh1]; simp
 have l2:h2.length=h1.length + 1:=by rw [← hh2]; simp
 have x0:h0[h.length]?=some (.cells Zad [.slice a0 n0 c0 e0,.slice a1 n1 c1 e1] false):=by rw [← hh0]; simp
 have y1:h1[h0.length]?=some (.cells Zad [.slice none 0 0 true,.slice none 0 0 true] false):=by rw [← hh1]; simp
 have z2:h2[h1.length]?=some (.cells Zbh [] false):=by rw [← hh2]; simp
 have x2:=s2.get (s1.get x0 (by omega)) (by omega)
 have y2:=s2.get y1 (by omega)
 have S2:=(s0.cat s1).cat s2
 simp only [Zak x2,Nat.zero_add,List.getElem?_cons_succ,List.getElem?_cons_zero,Zaf]
 refine Vec.app0 (n:=0) z2 Zwg Yho Yhc Yhs (by simp) ((r.same S2).cls.rowOf) (Zqy (enc:=eP) (fun _=>rfl) w.cs) (by omega) (fun h3 hl3 hi3 hk3=>?_)
 have x3:h3[h.length]?=some (.cells Zad [.slice a0 n0 c0 e0,.slice a1 n1 c1 e1] false):=by rw [hk3 _ (by omega) (by omega)]; exact x2
 have y3:h3[h0.length]?=some (.cells Zad [.slice none 0 0 true,.slice none 0 0 true] false):=by rw [hk3 _ (by omega) (by omega)]; exact y2
 have S3:Zbe h.length h h3:=⟨by omega,fun j hj=>by rw [hk3 j (by omega) (by omega)]; exact S2.eq j hj⟩
 simp only [Zaf,Nat.zero_add]
 rw [Zba x3 (by simp)]
 simp only [Zat,putRow,List.take_zero,List.length_cons,List.length_nil,List.drop_succ_cons,List.drop_zero,List.drop_nil,List.cons_append,List.nil_append,List.append_nil]
 generalize hh4:h3.set h.length (Zcc.cells Zad [.slice (some (h2.length,0)) n0 n0 false,.slice a1 n1 c1 e1] false)=h4
 have x4:h4[h.length]?=some (.cells Zad [.slice (some (h2.length,0)) n0 n0 false,.slice a1 n1 c1 e1] false):=by rw [← hh4]; exact Zbv x3
 have y4:h4[h0.length]?=some (.cells Zad [.slice none 0 0 true,.slice none 0 0 true] false):=by rw [← hh4,Zbl (by omega)]; exact y3
 have z4:h4[h2.length]?=some (.cells Zbh (Zdq eP w.cs) false):=by rw [← hh4,Zbl (by omega),hi3]; simp
 have S4:Zbe h.length h h4:=by rw [← hh4]; exact S3.set' (Nat.le_refl _)
 have l4:h4.length=h3.length:=by rw [← hh4]; simp
 simp only [Zak x4,List.getElem?_cons_succ,List.getElem?_cons_zero,Zaf]
 refine (Yfb (r.same S4) b).mono ?_
 rintro v h5 ⟨b1,d1,f1,ys,rfl,hd1,s5,g5,hyl,hbn,hrep,hsep,hnn,qq,hqq1,hqq2,hqq3⟩
 simp only [Zaf]
 have l5:=s5.le
 have x5:=s5.get x4 (by omega)
 have y5:=s5.get y4 (by omega)
 have z5:=s5.get z4 (by omega)
 rw [Zba x5 (by simp)]
 simp only [Zat,putRow,List.take_succ_cons,List.take_zero,List.length_cons,List.length_nil,List.drop_succ_cons,List.drop_zero,List.drop_nil,List.cons_append,List.nil_append,List.append_nil]
 rw [Zbk (Zbv x5)]
 simp only [Zau,Zaj,Zar,Zaf]
 have y6:(h5.set h.length (Zcc.cells Zad [.slice (some (h2.length,0)) n0 n0 false,.slice b1 n1 d1 f1] false))[h0.length]?=some (.cells Zad [.slice none 0 0 true,.slice none 0 0 true] false):=by rw [Zbl (by omega)]; exact y5
 rw [Zba y6 (by simp)]
 simp only [Zat,putRow,List.take_zero,List.length_cons,List.length_nil,List.drop_succ_cons,List.drop_zero,List.drop_nil,List.cons_append,List.nil_append,List.append_nil]
 rw [Zbk (Zbv y6)]
 simp only [Zau,Zaj,Zar,Zaf]
 have kp:∀ j,h2.length≤j→((h5.set h.length (Zcc.cells Zad [.slice (some (h2.length,0)) n0 n0 false,.slice b1 n1 d1 f1] false)).set h0.length (Zcc.cells Zad [.slice (some (h2.length,0)) n0 n0 false,.slice b1 n1 d1 f1] false))[j]?=h5[j]?:=fun j hj=>by rw [Zbl (by omega),Zbl (by omega)]
 refine ⟨_,_,_,_,_,_,ys,rfl,⟨by simp; omega,fun j hj=>?_⟩,⟨⟨hl0,.inr ⟨h2.length,rfl,by omega,by rw [kp _ (Nat.le_refl _)]; exact z5⟩⟩,g5.keep (by omega) fun j hj _=>kp j (by omega),hyl,fun k x i hx hi=>?_,hsep,hnn,by simp⟩,Nat.le_refl _,hd1,by simp,hbn,qq,hqq1,by omega,by rw [kp qq (by omega)]; exact hqq3⟩
 ·rw [Zbl (by omega),Zbl (by omega),s5.eq j (by omega)]; exact S4.eq j hj
 ·obtain ⟨p1,p2,p3⟩:=hrep k x i hx hi
  exact ⟨p1,p2,p3.keep (by omega) fun j hj _=>kp j (by omega)⟩
end Go.Sim

set_option linter.unusedSimpArgs false
set_option linter.unusedVariables false
namespace Go.Sim
def Yvp:Nat→List Nat→Option (Ty × List Nat)
 | 0,_=>none
 | f + 1,c :: 40 :: r=>(match Yvp f r with
  | some (a,41 :: r')=>some (.u c a,r')
  | some (a,44 :: r')=>(match Yvp f r' with | some (b,41 :: r'')=>some (.w c a b,r'') | _=>none)
  | _=>none)
 | f + 1,c :: r=>some (.k c,r)
 | _,[]=>none
def Ypc (s:List Nat):Bool:=match Yvp 30 s with | some (t,[])=>t.ok && decide (t.txt=s) && decide (s.length≤60) | _=>false
theorem Yhx {s:List Nat} (h:Ypc s=true):Zkg s=true:=by
 unfold Ypc at h
 split at h
 ·rename_i t _
  simp only [Bool.and_eq_true,decide_eq_true_eq] at h
  exact Zwm.2 ⟨t,h.1.1,h.1.2.symm,h.2⟩
 ·cases h
def Yei (cs:List Nd) (t:List Nat) (n:Nd):Bool:=Zgl cs n.1 && Ypc n.2 && decide (n.2.length≤20) && (Zjy n.2).all fun v=>decide (v∈t)
def Ymc (cs:List Nd) (i:Ins):Bool:=Zja cs && Zgl cs i.1.1 && Ypc i.1.2 && decide (i.1.2.length≤20) && !Zrx i.1.2 && decide (i.2.length≤3) && i.2.all (Yei cs i.1.2)
def Yba (w:Wd):Bool:=Zja w.cs && decide (w.is.length≤10) && w.is.all (Ymc w.cs)
theorem Yjd {cs:List Nd} {t:List Nat} {n:Nd} (h:Yei cs t n=true):Zin cs t n=true:=by
 unfold Yei at h
 unfold Zin
 simp only [Bool.and_eq_true] at h ⊢
 exact ⟨⟨⟨h.1.1.1,Yhx h.1.1.2⟩,h.1.2⟩,h.2⟩
theorem Yld {cs:List Nd} {i:Ins} (h:Ymc cs i=true):Zlw cs i=true:=by
 unfold Ymc at h
 unfold Zlw
 simp only [Bool.and_eq_true,List.all_eq_true] at h ⊢
 exact ⟨⟨⟨⟨⟨⟨h.1.1.1.1.1.1,h.1.1.1.1.1.2⟩,Yhx h.1.1.1.1.2⟩,h.1.1.1.2⟩,h.1.1.2⟩,h.1.2⟩,fun n hn=>Yjd (h.2 n hn)⟩
theorem Yev {w:Wd} (h:Yba w=true):Zgb w=true:=by
 unfold Yba at h
 unfold Zgb
 simp only [Bool.and_eq_true,List.all_eq_true] at h ⊢
 exact ⟨h.1,fun i hi=>Yld (h.2 i hi)⟩
end Go.Sim

set_option linter.unusedSimpArgs false
set_option linter.unusedVariables false
namespace Go.Sim
def Ybm (s:List Nat):Nd:=match s with | c :: d :: e :: r=>if d=60 then ([c],e :: r) else (s,[]) | _=>(s,[])
noncomputable def Yab (s:List Nat):Option Ins:=
 match Zcr 58 s with
 | [a]=>(Zld a).map fun n=>(n,[])
 | [a,b]=>(Zld a).bind fun n=>((Zcr 38 b).mapM Zld).map fun l=>(n,l)
 | _=>none
def Ynw:Wd:=⟨[],[]⟩
noncomputable def wdQ (w:Wd):Wd:=if Zgb w then w else Ynw
noncomputable def wdP (s:List Nat):Wd:=
 match ((Zcr 59 s).drop 1).mapM Yab with
 | some l=>wdQ ⟨(Zcr 32 ((Zcr 59 s).headD [])).map Ybm,l⟩
 | none=>Ynw
structure WS (m:Nat) (w:Wd):Prop where
 lc:w.cs.length≤m
 li:w.is.length≤m
 cs:∀ p∈w.cs,p.1.length≤1000∧p.2.length≤1000∧∀ b∈p.1,b < 256
 is:∀ i∈w.is,i.1.1.length≤1000∧i.1.2.length≤1000∧i.2.length≤1000∧∀ p∈i.2,p.1.length≤1000∧p.2.length≤1000
theorem WS.mono {m n:Nat} {w:Wd} (s:WS m w) (h:m≤n):WS n w:=⟨by have:=s.lc; omega,by have:=s.li; omega,s.cs,s.is⟩
theorem Yuq {m:Nat}:WS m Ynw:=⟨by simp [Ynw],by simp [Ynw],by simp [Ynw],by simp [Ynw]⟩
theorem WS.addI {m:Nat} {w:Wd} (s:WS m w) {i:Ins} (h:i.1.1.length≤1000∧i.1.2.length≤1000∧i.2.length≤1000∧∀ p∈i.2,p.1.length≤1000∧p.2.length≤1000):WS (m + 1) ⟨w.cs,w.is ++ [i]⟩:=
 ⟨by have:=s.lc; simp; omega,by have:=s.li; simp; omega,s.cs,fun j hj=>by
  rcases List.mem_append.1 hj with hj | hj
  ·exact s.is j hj
  ·rw [List.mem_singleton] at hj; subst hj; exact h⟩
theorem WS.addC {m:Nat} {w:Wd} (s:WS m w) {p:Nd} (h:p.1.length≤1000∧p.2.length≤1000∧∀ b∈p.1,b < 256):WS (m + 1) ⟨w.cs ++ [p],w.is⟩:=
 ⟨by have:=s.lc; simp; omega,by have:=s.li; simp; omega,fun q hq=>by
  rcases List.mem_append.1 hq with hq | hq
  ·exact s.cs q hq
  ·rw [List.mem_singleton] at hq; subst hq; exact h,s.is⟩
theorem Yhl {s:List Nat}:(Ybm s).1.length≤s.length∧(Ybm s).2.length≤s.length:=by
 unfold Ybm
 split
 ·split <;> simp <;> omega
 ·simp
theorem Ych {s:List Nat} (h:∀ b∈s,b < 256):∀ b∈(Ybm s).1,b < 256:=by
 unfold Ybm
 split
 ·split
  ·intro b hb; rw [List.mem_singleton] at hb; subst hb; exact h _ (by simp)
  ·exact h
 ·exact h
theorem Zhh {c:Nat}:∀ {s:List Nat},(∀ b∈s,b < 256)→∀ p∈Zcr c s,∀ b∈p,b < 256
 | [],_=>by intro p hp; simp [Zcr] at hp; simp [hp]
 | x :: s,hb=>by
  have ih:=Zhh (c:=c) (s:=s) fun b h=>hb b (by simp [h])
  intro p hp
  simp only [Zcr] at hp
  by_cases hx:x=c
  ·simp only [hx,if_true] at hp
   rcases List.mem_cons.1 hp with rfl | hp
   ·simp
   ·exact ih p hp
  ·simp only [if_neg hx] at hp
   cases hs:Zcr c s with
   | nil=>exact absurd hs (Zoa c s)
   | cons q r=>
    rw [hs] at hp ih
    rcases List.mem_cons.1 hp with rfl | hp
    ·intro b hbm
     rcases List.mem_cons.1 hbm with rfl | hbm
     ·exact hb _ (by simp)
     ·exact ih q (by simp) b hbm
    ·exact ih p (by simp [hp])
theorem Zwf {α β:Type} {f:α→Option β}:∀ {l:List α} {r:List β},l.mapM f=some r→r.length=l.length∧∀ y∈r,∃ x∈l,f x=some y
 | [],r,h=>by simp at h; subst h; exact ⟨rfl,by simp⟩
 | a :: l,r,h=>by
  simp only [List.mapM_cons] at h
  cases hf:f a with
  | none=>rw [hf] at h; cases h
  | some y=>
   rw [hf] at h
   cases hl:l.mapM f with
   | none=>rw [hl] at h; cases h
   | some ys=>
    rw [hl] at h; simp at h; subst h
    obtain ⟨h1,h2⟩:=Zwf hl
    refine ⟨by simp [h1],fun z hz=>?_⟩
    rcases List.mem_cons.1 hz with rfl | hz
    ·exact ⟨a,by simp,hf⟩
    ·obtain ⟨x,hx,hy⟩:=h2 z hz; exact ⟨x,by simp [hx],hy⟩
theorem Zho {c:Nat} (s:List Nat):(Zcr c s).length≤s.length + 1:=by rw [Zjq]; have:=List.count_le_length (a:=c) (l:=s); omega
theorem Zze {s:List Nat} {i:Ins} (hs:s.length≤900) (h:Yab s=some i):i.1.1.length≤1000∧i.1.2.length≤1000∧i.2.length≤1000∧∀ p∈i.2,p.1.length≤1000∧p.2.length≤1000:=by
 unfold Yab at h
 split at h
 ·rename_i a ha
  cases hn:Zld a with
  | none=>rw [hn] at h; cases h
  | some n=>
   rw [hn] at h; cases h
   have:=Zwp hn
   simp only
   exact ⟨by omega,by omega,by simp,by simp⟩
 ·rename_i a b ha
  cases hn:Zld a with
  | none=>rw [hn] at h; cases h
  | some n=>
   rw [hn] at h
   simp only [Option.bind_some] at h
   cases hl:(Zcr 38 b).mapM Zld with
   | none=>rw [hl] at h; cases h
   | some l=>
    rw [hl] at h; cases h
    have:=Zwp hn
    obtain ⟨h1,h2⟩:=Zwf hl
    have hb:b.length≤s.length:=Zge (c:=58) (by rw [ha]; simp)
    have h3:=Zho (c:=38) b
    simp only
    refine ⟨by omega,by omega,by omega,fun p hp=>?_⟩
    obtain ⟨x,_,hx⟩:=h2 p hp
    have:=Zwp hx
    omega
 ·cases h
theorem Zxp {s:List Nat} (hs:s.length≤900) (hb:∀ b∈s,b < 256):WS 1000 (wdP s):=by
 unfold wdP
 split
 ·rename_i l hl
  obtain ⟨h1,h2⟩:=Zwf hl
  unfold wdQ
  split
  ·have hhd:(Zcr 59 s).headD []∈Zcr 59 s:=by
    cases hx:Zcr 59 s with
    | nil=>exact absurd hx (Zoa 59 s)
    | cons a r=>simp
   have hh:=Zge hhd
   have hhb:=Zhh hb _ hhd
   refine ⟨?_,?_,fun p hp=>?_,fun i hi=>?_⟩
   ·have:=Zho (c:=32) ((Zcr 59 s).headD []); simp only [List.length_map]; omega
   ·have:=Zho (c:=59) s; simp only [h1,List.length_drop]; omega
   ·simp only [List.mem_map] at hp
    obtain ⟨q,hq,rfl⟩:=hp
    have:=Zge hq
    have h3:=Yhl (s:=q)
    exact ⟨by omega,by omega,Ych (Zhh hhb q hq)⟩
   ·obtain ⟨x,hx,he⟩:=h2 i hi
    have:=Zge (List.mem_of_mem_drop hx)
    exact Zze (by omega) he
  ·exact Yuq
 ·exact Yuq
def Zue:List (List Nat):=[[69],[69,32,79,60,69],[65,32,66],[65,32,66,60,65,32,67,60,65,66],[69,32,79,60,69,32,83]]
theorem Yrz:∀ s∈Zue,(wdP s).cs≠[]∧(wdP s).is=[]:=by
 have key:∀ s,(Zcr 59 s)=[s]→Yba ⟨(Zcr 32 s).map Ybm,[]⟩=true→(wdP s).cs≠[]∧(wdP s).is=[]:=by
  intro s h1 h2
  unfold wdP
  rw [h1]
  simp only [List.drop_succ_cons,List.drop_zero,List.mapM_nil,List.headD_cons]
  rw [show (pure []:Option (List Ins))=some [] from rfl]
  simp only
  unfold wdQ
  rw [if_pos (Yev h2)]
  refine ⟨?_,rfl⟩
  intro h
  have:=congrArg List.length h
  simp only [List.length_map,Zjq,List.length_nil] at this
  omega
 intro s hs
 simp only [Zue,List.mem_cons,List.not_mem_nil,or_false] at hs
 rcases hs with rfl | rfl | rfl | rfl | rfl <;> exact key _ (by decide) (by decide)
end Go.Sim

set_option linter.unusedVariables false
set_option linter.unusedSimpArgs false
set_option maxRecDepth 20000
namespace Go.Sim
open Go Go.RowKit

structure WDr (b:Nat) (h:Zaa) (a0:Pt) (n0 c0:Nat) (q n1 c1:Nat) (ys:List EI) (w:Wd):Prop where
 cls:Zdl Zbh eP b h a0 n0 w.cs
 le0:n0≤c0
 bq:b≤q
 ob:h[q]?=some (.cells Zac (Zdq eN ys) false)
 len:ys.length=n1
 wl:w.is.length=n1
 le1:n1≤c1
 need:∀ (k:Nat) (x:EI) (i:Ins),ys[k]?=some x→w.is[k]?=some i→x.c=i.1.1∧x.t=i.1.2∧Zdl Zae eP b h x.a x.n i.2
theorem Zdl.at {α:Type} {ty:TypeId} {enc:α→List Zas} {b:Nat} {h h':Zaa} {a:Pt} {n:Nat} {l:List α} (f:Zdl ty enc b h a n l) (hh:∀ j,b≤j→j < h.length→h'[j]?=h[j]?):Zdl ty enc b h' a n l:=
 ⟨f.1,f.2.imp id fun ⟨i,ha,hb,hi⟩=>⟨i,ha,hb,by rw [hh i hb (Own.lt hi)]; exact hi⟩⟩
section
variable {b:Nat} {h h':Zaa} {a0:Pt} {n0 c0 q n1 c1:Nat} {ys:List EI} {w:Wd}
theorem WDr.keep (d:WDr b h a0 n0 c0 q n1 c1 ys w) (hh:∀ j,b≤j→j < h.length→h'[j]?=h[j]?):WDr b h' a0 n0 c0 q n1 c1 ys w:=
 ⟨d.cls.at hh,d.le0,d.bq,by rw [hh q d.bq (Own.lt d.ob)]; exact d.ob,d.len,d.wl,d.le1,fun k x i hx hi=>⟨(d.need k x i hx hi).1,(d.need k x i hx hi).2.1,(d.need k x i hx hi).2.2.at hh⟩⟩
theorem WDr.same (d:WDr b h a0 n0 c0 q n1 c1 ys w) (s:Zbe h.length h h'):WDr b h' a0 n0 c0 q n1 c1 ys w:=d.keep fun j _ hj=>s.eq j hj
theorem WDr.kp {i:Nat} (d:WDr b h a0 n0 c0 q n1 c1 ys w) (s:Zdp i h h') (hi:i < b):WDr b h' a0 n0 c0 q n1 c1 ys w:=d.keep fun j hj hl=>s.eq j hl (by omega)
theorem WDr.low {b':Nat} (d:WDr b h a0 n0 c0 q n1 c1 ys w) (hb:b'≤b):WDr b' h a0 n0 c0 q n1 c1 ys w:=
 ⟨d.cls.low hb,d.le0,by have:=d.bq; omega,d.ob,d.len,d.wl,d.le1,fun k x i hx hi=>⟨(d.need k x i hx hi).1,(d.need k x i hx hi).2.1,(d.need k x i hx hi).2.2.low hb⟩⟩
theorem WDr.rep (d:WDr b h a0 n0 c0 q n1 c1 ys w):Zpz h a0 n0 c0 (some (q,0)) n1 c1 w:=by
 refine ⟨d.cls.row Zfp,⟨ys,?_,d.len.trans d.wl.symm,fun k x i hx hi=>⟨(d.need k x i hx hi).1,(d.need k x i hx hi).2.1,(d.need k x i hx hi).2.2.row Zfp⟩⟩,d.le0,d.le1⟩
 have:=(Vec.mk1 (n:=0) (c:=0) d.ob).row (m:=n1 * 3) (by rw [Zay Znw,d.len])
 exact this
theorem WDr.of {a1:Pt} (f:Zry b h a0 n0 a1 n1 ys w) (h0:n0≤c0) (h1:n1≤c1) (hb:b≤q) (hq:h[q]?=some (.cells Zac (Zdq eN ys) false)):WDr b h a0 n0 c0 q n1 c1 ys w:=
 ⟨f.cls,h0,hb,hq,by have:=f.ins.1; exact this,by have:=f.ins.1; rw [← f.len]; exact this,h1,f.need⟩
theorem WDr.push (d:WDr b h a0 n0 c0 q n1 c1 ys w) {x:EI} {i:Ins} {q':Nat} (hx:x.c=i.1.1∧x.t=i.1.2∧Zdl Zae eP b h x.a x.n i.2) (hq':b≤q') (ho:h'[q']?=some (.cells Zac (Zdq eN (ys ++ [x])) false)) {z:Nat} (hz:∀ o,h[z]?=some o→∃ cs,o=.cells Zac cs false)
  (hh:∀ j,j < h.length→j≠z→h'[j]?=h[j]?) {c1':Nat} (hc:n1 + 1≤c1'):WDr b h' a0 n0 c0 q' (n1 + 1) c1' (ys ++ [x]) ⟨w.cs,w.is ++ [i]⟩:=by
 have off:∀ {j:Nat} {ty:TypeId} {cs:List Zas},ty≠Zac→h[j]?=some (.cells ty cs false)→h'[j]?=some (.cells ty cs false):=fun {j ty cs} hne hj=>by
  rw [hh j (Own.lt hj) (fun e=>by
   subst e
   obtain ⟨cs',hcs⟩:=hz _ hj
   injection hcs with h1 h2 h3
   exact hne h1)]
  exact hj
 have fr:∀ {a:Pt} {n:Nat} {l:List Nd},Zdl Zae eP b h a n l→Zdl Zae eP b h' a n l:=fun f=>⟨f.1,f.2.imp id fun ⟨j,ha,hb,hj⟩=>⟨j,ha,hb,off (by decide) hj⟩⟩
 refine ⟨⟨d.cls.1,d.cls.2.imp id fun ⟨j,ha,hb,hj⟩=>⟨j,ha,hb,off (by decide) hj⟩⟩,d.le0,hq',ho,by simp [d.len],by simp [d.wl],hc,fun k y j hy hj=>?_⟩
 by_cases hk:k < n1
 ·rw [List.getElem?_append_left (by rw [d.len]; exact hk)] at hy
  rw [List.getElem?_append_left (by rw [d.wl]; exact hk)] at hj
  obtain ⟨p1,p2,p3⟩:=d.need k y j hy hj
  exact ⟨p1,p2,fr p3⟩
 ·have hkn:k=n1:=by have:=(List.getElem?_eq_some_iff.1 hy).1; simp [d.len] at this; omega
  subst hkn
  rw [List.getElem?_append_right (by rw [d.len]; exact Nat.le_refl _)] at hy
  rw [List.getElem?_append_right (by rw [d.wl]; exact Nat.le_refl _)] at hj
  simp [d.len] at hy
  simp [d.wl] at hj
  subst hy; subst hj
  exact ⟨hx.1,hx.2.1,fr hx.2.2⟩
end
theorem WS.wb {m:Nat} {w:Wd} (s:WS m w) (h:m≤1048576):WB w:=
 ⟨Nat.le_trans s.lc h,Nat.le_trans s.li h,fun p hp=>⟨by have:=(s.cs p hp).1; omega,by have:=(s.cs p hp).2.1; omega,(s.cs p hp).2.2⟩,fun i hi=>by
  obtain ⟨h1,h2,h3,h4⟩:=s.is i hi
  exact ⟨by omega,by omega,by omega,fun p hp=>by have:=h4 p hp; omega⟩⟩

theorem Ynt {s a:List Nat} {r:List (List Nat)} (h:Zcr 58 s=a :: r) (hn:Zld a=none):Yab s=none:=by
 unfold Yab
 rw [h]
 match r with
 | []=>simp only [hn]; rfl
 | [b]=>simp only [hn]; rfl
 | _ :: _ :: _=>rfl
theorem Ymr {s a b c:List Nat} {r:List (List Nat)} (h:Zcr 58 s=a :: b :: c :: r):Yab s=none:=by
 unfold Yab; rw [h]
theorem Ypz {s a:List Nat} {p:Nd} (h:Zcr 58 s=[a]) (hn:Zld a=some p):Yab s=some (p,[]):=by
 unfold Yab; rw [h]; simp only [hn]; rfl
theorem Ypg {s a b:List Nat} {p:Nd} (h:Zcr 58 s=[a,b]) (hn:Zld a=some p):Yab s=((Zcr 38 b).mapM Zld).map fun l=>(p,l):=by
 unfold Yab; rw [h]; simp only [hn]; rfl
def Yre (s:List Nat) (h:Zaa) (v:Zas) (h':Zaa):Prop:=Zbe h.length h h'∧((∃ i a c e,Yab s=some i∧v=.tup [.agg [.str i.1.1,.str i.1.2,.slice a i.2.length c e],.bool true]∧i.2.length≤c∧Zdl Zae eP h.length h' a i.2.length i.2) ∨ (Yab s=none∧v=.tup [.agg [.str [],.str [],.slice none 0 0 true],.bool false]))
theorem Yaq {s:List Nat} {h h':Zaa} {z:Nat} {cs:List Zas} (S:Zbe h.length h h') (hz:h.length≤z) (hi:h'[z]?=some (.cells Zac cs false)) (hl:cs.length=3) (hn:Yab s=none) :
  Zbx (Zbb h' (.ptr (some (z,0))) [.str [],.str [],.slice none 0 0 true]) fun h_30=>Zcb (Zan h_30 (.ptr (some (z,0))) 3) fun cs_31=>Zag cs_31 fun c_32 r_33=>Zbn (some c_32) fun s_34=>Zag r_33 fun c_35 r_36=>Zbn (some c_35) fun s_37=>Zag r_36 fun c_38 r_39=>xSl (some c_38) fun a_40 n_41 c_42 e_43=>Zbu r_39 (Yre s h (.tup [.agg [.str s_34,.str s_37,.slice a_40 n_41 c_42 e_43],.bool false]) h_30):=by
 match cs,hl with
 | [x,y,w],_=>
  rw [Zba hi (by simp)]
  simp only [Zat,putRow,List.take_zero,List.length_cons,List.length_nil,List.drop_succ_cons,List.drop_zero,List.drop_nil,List.cons_append,List.nil_append,List.append_nil,Nat.zero_add]
  rw [Zlu (Zbv hi)]
  simp only [Zau,Zaj,Zar,Zam,Zaf]
  exact ⟨S.set' hz,.inr ⟨hn,rfl⟩⟩
theorem Ydb {s:List Nat} {h h':Zaa} {z y:Nat} {cs:List Zas} {i:Ins} {a:Pt} {n c:Nat} {e:Bool} (S:Zbe h.length h h') (hz:h.length≤z) (hi:h'[z]?=some (.cells Zac cs false)) (hl:cs.length=3)
  (hy:h'[y]?=some (.cells Zac [.str i.1.1,.str i.1.2,.slice a n c e] false)) (hzy:z≠y) (hc:n≤c) (fr:Zdl Zae eP h.length h' a n i.2) (hn:Yab s=some i) :
  Zdv.J16 (Yre s h) y 0 z 0 h':=by
 have hil:=fr.1
 subst hil
 match cs,hl with
 | [x,w,u],_=>
  apply Zdv.J16i
  rw [Zlu hy]
  simp only [Zau,Zaj,Zar,Zam,Zaf]
  rw [Zba hi (by simp)]
  simp only [Zat,putRow,List.take_zero,List.length_cons,List.length_nil,List.drop_succ_cons,List.drop_zero,List.drop_nil,List.cons_append,List.nil_append,List.append_nil,Nat.zero_add]
  rw [Zlu (Zbv hi)]
  simp only [Zau,Zaj,Zar,Zam,Zaf]
  refine ⟨S.set' hz,.inl ⟨i,a,c,e,hn,rfl,hc,fr.1,fr.2.imp id ?_⟩⟩
  rintro ⟨j,ha,hb,hj⟩
  exact ⟨j,ha,hb,by rw [Zbl (Zfe hi hj (by decide))]; exact hj⟩
theorem Zuq {h:Zaa} (s:List Nat) (hs:s.length≤1048576) (hb:∀ b∈s,b < 256):Zah pg Zik [.str s] h (Yre s h):=by
 apply Zdv.call
 simp only [Zax]
 generalize hh0:h ++ [Zcc.cells Zac [.str [],.str [],.slice none 0 0 true] false]=h0
 have s0:Zbe h.length h h0:=by rw [← hh0]; exact Zao
 have z0:h0[h.length]?=some (.cells Zac [.str [],.str [],.slice none 0 0 true] false):=by rw [← hh0]; simp
 have l0:h0.length=h.length + 1:=by rw [← hh0]; simp
 refine (Ydo hs).mono ?_
 rintro v h2 ⟨s2,j,cpj,e,rfl,hj,hrow⟩
 have hLl:(Zcr 58 s).length≤1048577:=by have:=Zho (c:=58) s; omega
 have hmem:∀ p∈Zcr 58 s,p.length≤1048576:=fun p hp=>by have:=Zge hp; omega
 have hby:=Zhh (c:=58) hb
 generalize hL:Zcr 58 s=L at hrow hLl hmem hby
 have S2:=s0.cat s2
 have z2:=s2.get z0 (Own.lt z0)
 have l2:=s2.le
 simp only [Zaf]
 generalize hh7:h2 ++ [Zcc.cells Zae [] false]=h7
 have s7:Zbe h2.length h2 h7:=by rw [← hh7]; exact Zao
 have e7:h7[h2.length]?=some (.cells Zae [] false):=by rw [← hh7]; simp
 have l7:h7.length=h2.length + 1:=by rw [← hh7]; simp
 generalize hh8:h7 ++ [Zcc.cells Zac [.str [],.str [],.slice none 0 0 true] false]=h8
 have s8:Zbe h7.length h7 h8:=by rw [← hh8]; exact Zao
 have o8:h8[h7.length]?=some (.cells Zac [.str [],.str [],.slice none 0 0 true] false):=by rw [← hh8]; simp
 have l8:h8.length=h7.length + 1:=by rw [← hh8]; simp
 rw [Zba o8 (by simp)]
 simp only [Zat,putRow,List.take_zero,List.length_cons,List.length_nil,List.drop_succ_cons,List.drop_zero,List.drop_nil,List.cons_append,List.nil_append,List.append_nil,Nat.zero_add]
 have o9:=Zbv o8 (x:=.cells Zac [.str [],.str [],.slice (some (h2.length,0)) 0 0 true] false)
 have s9:Zbe h7.length h7 (h8.set h7.length (.cells Zac [.str [],.str [],.slice (some (h2.length,0)) 0 0 true] false)):=s8.set' (Nat.le_refl _)
 have l9:(h8.set h7.length (.cells Zac [.str [],.str [],.slice (some (h2.length,0)) 0 0 true] false)).length=h8.length:=by simp
 generalize h8.set h7.length (.cells Zac [.str [],.str [],.slice (some (h2.length,0)) 0 0 true] false)=h9 at o9 s9 l9 ⊢
 have S29:=s7.cat s9
 have S9:=S2.cat S29
 have z9:=S29.get z2 (Own.lt z2)
 have e9:=s9.get e7 (Own.lt e7)
 have r9:=S29.get hrow (Own.lt hrow)
 have piece:∀ (G:Zaa),G[j]?=some (.cells Zbg (Zdq eS L) false)→∀ k (hk:k < L.length),Zai G (.ptr (some (j,k * 1)))=some (.str L[k]):=by
  intro G hG k hk
  obtain ⟨ii,o,hgl,hai,hii,hc⟩:=Row.el1 Zlc ((Vec.mk1 (n:=0) (c:=0) hG).row (m:=L.length) (by rw [Zay Zlc]; omega)) hk
  cases hai
  simpa [eS] using hc
 have hL0:0 < L.length:=by rw [← hL,Zjq]; omega
 refine ⟨⟨by omega,by omega⟩,?_⟩
 simp only [Zaw,Nat.zero_add,show Int.toNat 0=0 from rfl,piece h9 r9 0 hL0,Zam]
 refine (Zuh L[0] (hmem _ (List.getElem_mem hL0)) (hby _ (List.getElem_mem hL0))).mono ?_
 rintro v h14 ⟨s14,hres⟩
 have S14:=S9.cat s14
 have z14:=s14.get z9 (Own.lt z9)
 have o14:=s14.get o9 (Own.lt o9)
 have r14:=s14.get r9 (Own.lt r9)
 have e14:=s14.get e9 (Own.lt e9)
 have l14:=s14.le
 obtain ⟨a0,rest,hLe⟩:∃ a r,L=a :: r:=by
  cases L with
  | nil=>simp at hL0
  | cons a r=>exact ⟨a,r,rfl⟩
 have h0e:L[0]=a0:=by simp [hLe]
 rcases hres with ⟨p,hp,rfl⟩ | ⟨hp,rfl⟩
 ·simp only [Zdx,Zaj,Zde,Zam,Zar,Zap]
  generalize hh28:h14 ++ [Zcc.cells Zae [.str [],.str []] false]=h28
  have s28:Zbe h14.length h14 h28:=by rw [← hh28]; exact Zao
  have n28:h28[h14.length]?=some (.cells Zae [.str [],.str []] false):=by rw [← hh28]; simp
  have l28:h28.length=h14.length + 1:=by rw [← hh28]; simp
  rw [Zba n28 (by simp)]
  simp only [Zat,putRow,List.take_zero,List.length_cons,List.length_nil,List.drop_succ_cons,List.drop_zero,List.drop_nil,List.cons_append,List.nil_append,List.append_nil,Nat.zero_add,Bool.not_true,Zbj]
  have n29:=Zbv n28 (x:=.cells Zae [.str p.1,.str p.2] false)
  have s29:Zbe h14.length h14 (h28.set h14.length (.cells Zae [.str p.1,.str p.2] false)):=s28.set' (Nat.le_refl _)
  have l29:(h28.set h14.length (.cells Zae [.str p.1,.str p.2] false)).length=h28.length:=by simp
  generalize h28.set h14.length (.cells Zae [.str p.1,.str p.2] false)=h29 at n29 s29 l29 ⊢
  have S29':=S14.cat s29
  have z29:=s29.get z14 (Own.lt z14)
  have o29:=s29.get o14 (Own.lt o14)
  have r29:=s29.get r14 (Own.lt r14)
  have e29:=s29.get e14 (Own.lt e14)
  refine Zav (fun hgt=>?_) (fun hle=>?_)
  ·refine Yaq S29' (Nat.le_refl _) z29 rfl ?_
   match rest,hLe with
   | [],hLe=>rw [hLe] at hgt; simp at hgt
   | [_],hLe=>rw [hLe] at hgt; simp at hgt
   | b :: c :: r,hLe=>exact Ymr (hL.trans hLe)
  apply Zdv.J6i
  rw [Zbk n29]
  simp only [Zau,Zaj,Zar,Zam]
  rw [Zba o29 (by simp)]
  simp only [Zat,putRow,List.take_zero,List.length_cons,List.length_nil,List.drop_succ_cons,List.drop_zero,List.drop_nil,List.cons_append,List.nil_append,List.append_nil,Nat.zero_add,Nat.add_zero]
  have hz7:h.length≠h7.length:=by omega
  have o30:=Zbv o29 (x:=.cells Zac [.str p.1,.str p.2,.slice (some (h2.length,0)) 0 0 true] false)
  have k30:∀ j,j≠h7.length→(h29.set h7.length (.cells Zac [.str p.1,.str p.2,.slice (some (h2.length,0)) 0 0 true] false))[j]?=h29[j]?:=fun j hj=>Zbl (fun e=>hj e.symm)
  have l30:(h29.set h7.length (.cells Zac [.str p.1,.str p.2,.slice (some (h2.length,0)) 0 0 true] false)).length=h29.length:=by simp
  have S30:Zbe h.length h (h29.set h7.length (.cells Zac [.str p.1,.str p.2,.slice (some (h2.length,0)) 0 0 true] false)):=S29'.set' (by omega)
  generalize h29.set h7.length (.cells Zac [.str p.1,.str p.2,.slice (some (h2.length,0)) 0 0 true] false)=h30 at o30 k30 l30 S30 ⊢
  have hjl:=Own.lt hrow
  have z30:h30[h.length]?=some (.cells Zac [.str [],.str [],.slice none 0 0 true] false):=by rw [k30 _ hz7]; exact z29
  have r30:h30[j]?=some (.cells Zbg (Zdq eS L) false):=by rw [k30 _ (by omega)]; exact r29
  have e30:h30[h2.length]?=some (.cells Zae [] false):=by rw [k30 _ (by omega)]; exact e29
  refine Zcs (fun h2e=>?_) (fun hne=>?_)
  ·obtain ⟨b,rfl⟩:∃ b,rest=[b]:=by
    have:L.length=2:=by omega
    rw [hLe] at this
    match rest,this with
    | [b],_=>exact ⟨b,rfl⟩
   have hL1:1 < L.length:=by omega
   have h1e:L[1]=b:=by simp [hLe]
   have hbm:b∈L:=by rw [← h1e]; exact List.getElem_mem hL1
   refine ⟨⟨by omega,by omega⟩,?_⟩
   simp only [Zaw,Nat.zero_add,show Int.toNat 1=1 from rfl,piece h30 r30 1 hL1,Zam,h1e]
   refine (Ydo (hmem b hbm)).mono ?_
   rintro v h31 ⟨s31,j2,cpj2,e2,rfl,hj2,hrow2⟩
   have hPl:(Zcr 38 b).length≤1048577:=by have:=Zho (c:=38) b; have:=hmem b hbm; omega
   have hmem2:∀ p∈Zcr 38 b,p.length≤1048576:=fun p hp=>by have:=Zge hp; have:=hmem b hbm; omega
   have hby2:=Zhh (c:=38) (hby b hbm)
   have hins:=Ypg (hL.trans hLe) (by rw [← h0e]; exact hp)
   generalize hP:Zcr 38 b=P at hrow2 hPl hmem2 hby2 hins
   simp only [Zaf]
   have S31:=S30.cat s31
   have z31:=s31.get z30 (Own.lt z30)
   have o31:=s31.get o30 (Own.lt o30)
   have e31:=s31.get e30 (Own.lt e30)
   have hj2l:=Own.lt hrow2
   refine Zdv.L9ind (J:=fun (g:Nat) x41 h'=>x41=(g:Int)∧g≤P.length∧Zbe h.length h h'∧h'[h.length]?=some (.cells Zac [.str [],.str [],.slice none 0 0 true] false)∧h'[j2]?=some (.cells Zbg (Zdq eS P) false) ∧
     ∃ (l:List Nd) (q c:Nat) (e:Bool),(P.take g).mapM Zld=some l∧l.length=g∧h'[h7.length]?=some (.cells Zac [.str p.1,.str p.2,.slice (some (q,0)) g c e] false)∧h'[q]?=some (.cells Zae (Zdq eP l) false)∧h.length≤q∧g≤c) (m:=fun g=>P.length - g) (hr:=?_) (g:=0)
    (hj:=⟨rfl,by omega,S31,z31,hrow2,[],h2.length,0,true,by simp,rfl,o31,e31,by omega,Nat.le_refl _⟩) ..
   rintro g x41 h' ⟨rfl,hg,hS,hz,hr,l,q,c,e,hl,hll,ho,hq,hqb,hgc⟩ R hR
   unfold Zdv.L9t
   refine Zav (fun hlt=>?_) (fun hge=>?_)
   ·have hlt':g < P.length:=by omega
    obtain ⟨ii,oo,hgl,hai,hii,hc⟩:=Row.el1 Zlc ((Vec.mk1 (n:=0) (c:=0) hr).row (m:=P.length) (by rw [Zay Zlc]; omega)) hlt'
    cases hai
    simp only [Zaw,Int.toNat_natCast,hc,eS,List.getElem?_cons_zero,Zam]
    refine ⟨by omega,(Zuh P[g] (hmem2 _ (List.getElem_mem hgl)) (hby2 _ (List.getElem_mem hgl))).mono ?_⟩
    rintro v k2 ⟨t2,hres⟩
    have hstep:(P.take (g + 1)).mapM Zld=(Zld P[g]).map fun y=>l ++ [y]:=by rw [List.take_succ_eq_append_getElem hgl,Ycv,hl]; rfl
    have T2:=hS.cat t2
    have zk:=t2.get hz (Own.lt hz)
    have ok:=t2.get ho (Own.lt ho)
    have qk:=t2.get hq (Own.lt hq)
    have rk:=t2.get hr (Own.lt hr)
    have tl:=t2.le
    have tl0:=hS.le
    have hol:=Own.lt ho
    have hzl:=Own.lt hz
    have hrl:=Own.lt hr
    have hql:=Own.lt hq
    rcases hres with ⟨p',hp',rfl⟩ | ⟨hp',rfl⟩
    ·simp only [Zdx,Zaj,Zde,Zam,Zar,Zap,Zax]
     generalize hk3:k2 ++ [Zcc.cells Zae [.str [],.str []] false]=k3
     have t3:Zbe k2.length k2 k3:=by rw [← hk3]; exact Zao
     have n3:k3[k2.length]?=some (.cells Zae [.str [],.str []] false):=by rw [← hk3]; simp
     have tl3:k3.length=k2.length + 1:=by rw [← hk3]; simp
     rw [Zba n3 (by simp)]
     simp only [Zat,putRow,List.take_zero,List.length_cons,List.length_nil,List.drop_succ_cons,List.drop_zero,List.drop_nil,List.cons_append,List.nil_append,List.append_nil,Nat.zero_add,Bool.not_true,Zbj]
     have n4:=Zbv n3 (x:=.cells Zae [.str p'.1,.str p'.2] false)
     have t4:Zbe k2.length k2 (k3.set k2.length (.cells Zae [.str p'.1,.str p'.2] false)):=t3.set' (Nat.le_refl _)
     have tl4:(k3.set k2.length (.cells Zae [.str p'.1,.str p'.2] false)).length=k3.length:=by simp
     generalize k3.set k2.length (.cells Zae [.str p'.1,.str p'.2] false)=k4 at n4 t4 tl4 ⊢
     have T4:=T2.cat t4
     have z4:=t4.get zk (Own.lt zk)
     have o4:=t4.get ok (Own.lt ok)
     have q4:=t4.get qk (Own.lt qk)
     have r4:=t4.get rk (Own.lt rk)
     simp only [Zak o4,List.getElem?_cons_succ,List.getElem?_cons_zero,Zaf]
     rw [Zbk n4]
     simp only [Zau,Zaj,Zar,Zam]
     refine (Vec.mk1 (n:=g) (c:=c) q4).pushN (sz:=2) Yaj Ylj Ynr Ykz (by rw [Zay Zfp,hll]) rfl (by omega) rfl (by omega) (fun k5 hl5 hi5 hk5=>?_)
     have keep:∀ {x:Nat} {y:Zcc},k4[x]?=some y→x≠q→k5[x]?=some y:=fun {x y} hx hne=>by rw [hk5 x (Own.lt hx) (fun i hi=>by cases hi; exact hne)]; exact hx
     have hqo:h7.length≠q:=Zfe o4 q4 (by decide)
     have hqz:h.length≠q:=Zfe z4 q4 (by decide)
     have hqr:j2≠q:=Zfe r4 q4 (by decide)
     have o5:=keep o4 hqo
     simp only [Zaf]
     rw [Zba o5 (by simp)]
     simp only [Zat,putRow,List.take_succ_cons,List.take_zero,List.length_cons,List.length_nil,List.drop_succ_cons,List.drop_zero,List.drop_nil,List.cons_append,List.nil_append,List.append_nil]
     rw [Zbt (by omega)]
     have z5:=keep z4 hqz
     have r5:=keep r4 hqr
     refine hR (g + 1) _ _ (by omega) ⟨rfl,by omega,?_,by rw [Zbl (Ne.symm hz7)]; exact z5,by rw [Zbl (Zfe o5 r5 (by decide))]; exact r5,l ++ [p'],k4.length + 1,g + 1,false,by rw [hstep,hp']; rfl,by simp [hll],Zbv o5,?_,by omega,Nat.le_refl _⟩
     ·exact Zbe.set' ⟨by omega,fun x hx=>by rw [hk5 x (by omega) (fun i hi=>by cases hi; omega)]; exact T4.eq x hx⟩ (by omega)
     ·rw [Zbl (by omega)]; simpa [eP] using hi5
    ·simp only [Zdx,Zaj,Zde,Zam,Zar,Zap,Zax]
     generalize hk3:k2 ++ [Zcc.cells Zae [.str [],.str []] false]=k3
     have t3:Zbe k2.length k2 k3:=by rw [← hk3]; exact Zao
     have n3:k3[k2.length]?=some (.cells Zae [.str [],.str []] false):=by rw [← hk3]; simp
     rw [Zba n3 (by simp)]
     simp only [Zat,Bool.not_false,Zby]
     have t4:Zbe k2.length k2 (k3.set k2.length (.cells Zae (putRow [.str [],.str []] 0 [.str [],.str []]) false)):=t3.set' (Nat.le_refl _)
     refine Yaq (T2.cat t4) (Nat.le_refl _) (t4.get zk (Own.lt zk)) rfl ?_
     rw [hins,Zve (k:=g + 1) Zld (by rw [hstep,hp']; rfl)]; rfl
   ·apply Zdv.A9x0i
    have:g=P.length:=by omega
    subst this
    rw [List.take_length] at hl
    exact Ydb (i:=(p,l)) hS (Nat.le_refl _) hz rfl ho hz7 hgc ⟨hll,.inr ⟨q,rfl,hqb,hq⟩⟩ (by rw [hins,hl]; rfl)
  ·obtain rfl:rest=[]:=by
    match rest,hLe with
    | [],_=>rfl
    | [_],hLe=>exact absurd (by rw [hLe]; rfl) hne
    | _ :: _ :: _,hLe=>rw [hLe] at hle; simp at hle; omega
   exact Ydb (i:=(p,[])) S30 (Nat.le_refl _) z30 rfl o30 hz7 (Nat.le_refl _) ⟨rfl,.inl rfl⟩ (Ypz (hL.trans hLe) (by rw [← h0e]; exact hp))
 ·simp only [Zdx,Zaj,Zde,Zam,Zar,Zap]
  generalize hh28:h14 ++ [Zcc.cells Zae [.str [],.str []] false]=h28
  have s28:Zbe h14.length h14 h28:=by rw [← hh28]; exact Zao
  have n28:h28[h14.length]?=some (.cells Zae [.str [],.str []] false):=by rw [← hh28]; simp
  rw [Zba n28 (by simp)]
  simp only [Zat,Bool.not_false,Zby]
  have s29:Zbe h14.length h14 (h28.set h14.length (.cells Zae (putRow [.str [],.str []] 0 [.str [],.str []]) false)):=s28.set' (Nat.le_refl _)
  exact Yaq (S14.cat s29) (Nat.le_refl _) (s29.get z14 (Own.lt z14)) rfl (Ynt (hL.trans hLe) (by rw [← h0e]; exact hp))
end Go.Sim

set_option linter.unusedVariables false
set_option linter.unusedSimpArgs false
set_option maxRecDepth 20000
namespace Go.Sim
open Go Go.RowKit

theorem Yaa {h:Zaa} {s:List Nat} {c:Nat} (hs:s.length≤1048576):Zah pg Zgq [.str s,.int .u8 (c:Int)] h fun v h'=>Zbe h.length h h' ∧
  ∃ j cp e,v=.slice (some (j,0)) (Zcr c s).length cp e∧h.length≤j∧(h'[j]?=some (.cells Zbg (Zdq eS (Zcr c s)) false)∧(Zcr c s).length≤cp):=by
 apply Zda.call
 simp only [Zax]
 refine Zda.L4ind _ _ _ (J:=fun (g:Nat) a5 n5 c5 e5 x6 x7 h'=>x7=(g:Int)∧g≤s.length + 1∧Zbe h.length h h'∧∃ (done:List (List Nat)) (from_:Nat),n5=done.length∧x6=(from_:Int)∧done.length≤g∧Vec Zbg h' a5 n5 c5 (strs done)∧(∀ i,a5=some (i,0)→h.length≤i) ∧
   (g≤s.length→from_≤g∧c ∉ (s.take g).drop from_∧Zcr c s=done ++ Zcr c (s.drop from_))∧(g=s.length + 1→Zcr c s=done)∧n5≤c5) (fun g=>s.length + 1 - g) ?_ 0 _ _ _ _ _ _ _
  ⟨rfl,by omega,Zbe.app (Nat.le_refl _) _,[],0,rfl,rfl,by simp,Vec.mk1 (by simp),by simp,fun _=>⟨by omega,by simp,by simp⟩,by omega,Nat.le_refl _⟩
 rintro g a5 n5 c5 e5 x6 x7 h' ⟨rfl,hg,hS,done,from_,rfl,rfl,hdl,hv,ha,hin,hout,hc5⟩ R hR
 unfold Zda.L4t
 refine Zav (fun hle=>?_) (fun hgt=>?_)
 ·obtain ⟨hf,hnc,hsp⟩:=hin (by omega)
  have push:∀ p,(∀ a n e h4,Zbe h.length h h4→n=done.length + 1→Vec Zbg h4 a n n (strs (done ++ [p]))→(∀ i,a=some (i,0)→h.length≤i)→Zda.J5 (fun v h'=>Zbe h.length h h'∧∃ j cp e,v=.slice (some (j,0)) (Zcr c s).length cp e∧h.length≤j∧(h'[j]?=some (.cells Zbg (Zdq eS (Zcr c s)) false)∧(Zcr c s).length≤cp)) R (g:Int) s (c:Int) a n n e (IntKind.wrap .i64 ((g:Int) + 1)) h4) →
    Zcz pg Zjh (h' ++ [.cells Zbg [.str p] false]) (.slice a5 done.length c5 e5) (.slice (some (List.length h',0)) 1 1 true) fun v_2 h_3=>xSl (some v_2) fun a_4 n_5 c_6 e_7=>Zda.J5 (fun v h'=>Zbe h.length h h'∧∃ j cp e,v=.slice (some (j,0)) (Zcr c s).length cp e∧h.length≤j∧(h'[j]?=some (.cells Zbg (Zdq eS (Zcr c s)) false)∧(Zcr c s).length≤cp)) R (g:Int) s (c:Int) a_4 n_5 c_6 e_7 (IntKind.wrap .i64 ((g:Int) + 1)) h_3:=by
   intro p K
   refine hv.push Zzr Yha Ygg Yhy (by simp) rfl (by omega) (fun h4 hl4 hi4 hk4=>?_)
   simp only [Zaf]
   have hle:=hS.le
   refine K _ _ _ _ ⟨by omega,fun j hj=>?_⟩ rfl (Vec.mk1 (by simpa [strs] using hi4)) (fun i hi=>by cases hi; omega)
   rw [hk4 j (by omega) fun i hi=>by have:=ha i hi; omega]; exact hS.eq j hj
  refine Zcs (fun he=>?_) (fun hne=>?_)
  ·have hgs:g=s.length:=by omega
   subst hgs
   rw [Ybh (j:=from_) (k:=s.length) rfl rfl,List.take_length]
   rw [List.take_length] at hnc
   refine ⟨⟨by omega,by omega,by omega⟩,push _ fun a n e h4 hS4 hn4 hv4 ha4=>Zda.J5i _ _ _ _ _ _ _ _ _ _ _ ?_⟩
   rw [Zbt (by omega)]
   subst hn4
   exact hR (s.length + 1) _ _ _ _ _ _ _ (by omega) ⟨rfl,by omega,hS4,done ++ [s.drop from_],s.length + 1,by simp,rfl,by simp; omega,by simpa using hv4,ha4,by omega,fun _=>by rw [hsp,Zsq hnc],Nat.le_refl _⟩
  ·have hlt:g < s.length:=by omega
   refine ⟨⟨by omega,by omega⟩,?_⟩
   rw [Int.toNat_natCast,Zwc hlt]
   have htk:(s.take (g + 1)).drop from_=(s.take g).drop from_ ++ [s[g]]:=by
    rw [List.take_succ_eq_append_getElem hlt,List.drop_append_of_le_length (by simp; omega)]
   have hdr:s.drop from_=(s.take g).drop from_ ++ s[g] :: s.drop (g + 1):=by
    conv=>lhs; rw [← List.take_append_drop g s]
    rw [List.drop_append_of_le_length (by simp; omega),List.drop_eq_getElem_cons hlt]
   refine Zcs (fun he=>?_) (fun hne2=>?_)
   ·have hec:s[g]=c:=by omega
    rw [Ybh (j:=from_) (k:=g) rfl rfl]
    refine ⟨⟨by omega,by omega,by omega⟩,push _ fun a n e h4 hS4 hn4 hv4 ha4=>Zda.J5i _ _ _ _ _ _ _ _ _ _ _ ?_⟩
    rw [Zbt (by omega)]
    subst hn4
    refine hR (g + 1) _ _ _ _ _ _ _ (by omega) ⟨rfl,by omega,hS4,done ++ [(s.take g).drop from_],g + 1,by simp,rfl,by simp; omega,by simpa using hv4,ha4,fun _=>⟨by omega,by simp,?_⟩,by omega,Nat.le_refl _⟩
    rw [hsp,hdr,hec,Zuy hnc]; simp
   ·apply Zda.J5i
    rw [Zbt (by omega)]
    refine hR (g + 1) _ _ _ _ _ _ _ (by omega) ⟨rfl,by omega,hS,done,from_,rfl,rfl,by omega,hv,ha,fun _=>⟨by omega,?_,hsp⟩,by omega,hc5⟩
    rw [htk]
    simp only [List.mem_append,List.mem_singleton,not_or]
    exact ⟨hnc,fun e=>hne2 (by rw [e])⟩
 ·have:g=s.length + 1:=by omega
  have hd:=hout this
  apply Zda.A4x0i
  rw [hd]
  rcases hv with ⟨_,_,_,h0⟩ | ⟨i,rfl,hi⟩
  ·exact absurd (by rw [hd]; exact List.map_eq_nil_iff.1 h0) (Zoa c s)
  ·exact ⟨hS,_,_,_,rfl,ha i rfl,by rw [Ykv]; exact hi,hc5⟩
end Go.Sim

set_option linter.unusedVariables false
set_option linter.unusedSimpArgs false
set_option maxRecDepth 20000
namespace Go.Sim
open Go Go.RowKit

def Yuz (s:List Nat) (h:Zaa) (v:Zas) (h':Zaa):Prop:=Zbe h.length h h'∧∃ a0 n0 c0 e0 a1 n1 c1 e1 b,v=.tup [.agg [.slice a0 n0 c0 e0,.slice a1 n1 c1 e1],.bool b]∧Zpz h' a0 n0 c0 a1 n1 c1 (wdP s)
theorem Yob {h:Zaa}:Zpz h none 0 0 none 0 0 Ynw:=⟨Row.nil,⟨[],Row.nil,rfl,by simp⟩,Nat.le_refl _,Nat.le_refl _⟩
theorem Ynl {s:List Nat} {h h':Zaa} {z:Nat} {x y:Zas} {b:Bool} (S:Zbe h.length h h') (hz:h.length≤z) (hi:h'[z]?=some (.cells Zad [x,y] false)) (hn:wdP s=Ynw) :
  Zbx (Zbb h' (.ptr (some (z,0))) [.slice none 0 0 true,.slice none 0 0 true]) fun h_77=>Zcb (Zan h_77 (.ptr (some (z,0))) 2) fun cs_78=>Zag cs_78 fun c_79 r_80=>xSl (some c_79) fun a_81 n_82 c_83 e_84=>Zag r_80 fun c_85 r_86=>xSl (some c_85) fun a_87 n_88 c_89 e_90=>Zbu r_86 (Yuz s h (.tup [.agg [.slice a_81 n_82 c_83 e_84,.slice a_87 n_88 c_89 e_90],.bool b]) h_77):=by
 rw [Zba hi (by simp)]
 simp only [Zat,putRow,List.take_zero,List.length_cons,List.length_nil,List.drop_succ_cons,List.drop_zero,List.drop_nil,List.cons_append,List.nil_append,List.append_nil,Nat.zero_add]
 rw [Zbk (Zbv hi)]
 simp only [Zau,Zaj,Zar,Zaf]
 exact ⟨S.set' hz,none,0,0,true,none,0,0,true,b,rfl,by rw [hn]; exact Yob⟩
theorem Ypn {h:Zaa} (s:List Nat) (hs:s.length≤900) (hb:∀ b∈s,b < 256):Zah pg Zhe [.str s] h (Yuz s h):=by
 apply Zcn.call
 simp only [Zax]
 generalize hh0:h ++ [Zcc.cells Zad [.slice none 0 0 true,.slice none 0 0 true] false]=h0
 have s0:Zbe h.length h h0:=by rw [← hh0]; exact Zao
 have z0:h0[h.length]?=some (.cells Zad [.slice none 0 0 true,.slice none 0 0 true] false):=by rw [← hh0]; simp
 have l0:h0.length=h.length + 1:=by rw [← hh0]; simp
 refine (Yaa (by omega)).mono ?_
 rintro v h2 ⟨s2,j,cpj,eL,rfl,hj,hrow,hcap⟩
 have hLl:=Zho (c:=59) s
 have hmem:∀ p∈Zcr 59 s,p.length≤900:=fun p hp=>by have:=Zge hp; omega
 have hby:=Zhh (c:=59) hb
 have hW:wdP s=match ((Zcr 59 s).drop 1).mapM Yab with | some l=>wdQ ⟨(Zcr 32 ((Zcr 59 s).headD [])).map Ybm,l⟩ | none=>Ynw:=rfl
 have hL0:0 < (Zcr 59 s).length:=by rw [Zjq]; omega
 generalize hL:Zcr 59 s=L at hrow hLl hmem hby hW hL0 hcap
 have S2:=s0.cat s2
 have z2:=s2.get z0 (Own.lt z0)
 have l2:=s2.le
 simp only [Zaf]
 generalize hh7:h2 ++ [Zcc.cells Zbh [] false]=h7
 have s7:Zbe h2.length h2 h7:=by rw [← hh7]; exact Zao
 have e7:h7[h2.length]?=some (.cells Zbh [] false):=by rw [← hh7]; simp
 have l7:h7.length=h2.length + 1:=by rw [← hh7]; simp
 generalize hh8:h7 ++ [Zcc.cells Zac [] false]=h8
 have s8:Zbe h7.length h7 h8:=by rw [← hh8]; exact Zao
 have i8:h8[h7.length]?=some (.cells Zac [] false):=by rw [← hh8]; simp
 have l8:h8.length=h7.length + 1:=by rw [← hh8]; simp
 generalize hh9:h8 ++ [Zcc.cells Zad [.slice none 0 0 true,.slice none 0 0 true] false]=h9
 have s9:Zbe h8.length h8 h9:=by rw [← hh9]; exact Zao
 have o9:h9[h8.length]?=some (.cells Zad [.slice none 0 0 true,.slice none 0 0 true] false):=by rw [← hh9]; simp
 have l9:h9.length=h8.length + 1:=by rw [← hh9]; simp
 rw [Zba o9 (by simp)]
 simp only [Zat,putRow,List.take_zero,List.length_cons,List.length_nil,List.drop_succ_cons,List.drop_zero,List.drop_nil,List.cons_append,List.nil_append,List.append_nil,Nat.zero_add]
 have o10:=Zbv o9 (x:=.cells Zad [.slice (some (h2.length,0)) 0 0 true,.slice (some (h7.length,0)) 0 0 true] false)
 have s10:Zbe h8.length h8 (h9.set h8.length (.cells Zad [.slice (some (h2.length,0)) 0 0 true,.slice (some (h7.length,0)) 0 0 true] false)):=s9.set' (Nat.le_refl _)
 generalize h9.set h8.length (.cells Zad [.slice (some (h2.length,0)) 0 0 true,.slice (some (h7.length,0)) 0 0 true] false)=h10 at o10 s10 ⊢
 have S210:=(s7.cat s8).cat s10
 have S10:=S2.cat S210
 have z10:=S210.get z2 (Own.lt z2)
 have e10:=(s8.cat s10).get e7 (Own.lt e7)
 have i10:=s10.get i8 (Own.lt i8)
 have r10:=S210.get hrow (Own.lt hrow)
 have hjl:=Own.lt hrow
 obtain ⟨ii,oo,hgl,hai,hii,hc0⟩:=Row.el1 Zlc ((Vec.mk1 (n:=0) (c:=0) r10).row (m:=L.length) (by rw [Zay Zlc]; omega)) hL0
 cases hai
 refine ⟨⟨by omega,by omega⟩,?_⟩
 have hc0':Zai h10 (.ptr (some (j,0)))=some (.str L[0]):=by simpa [eS] using hc0
 simp only [Zaw,show Int.toNat 0=0 from rfl,Nat.zero_mul,Nat.add_zero,hc0',Zam]
 have hhd:L.headD []=L[0]:=by cases L with | nil=>simp at hL0 | cons a r=>rfl
 have hm0:=hmem _ (List.getElem_mem hL0)
 have hb0:=hby _ (List.getElem_mem hL0)
 rw [hhd] at hW
 generalize L[0]=p0 at hm0 hb0 hW ⊢
 refine (Yaa (by omega)).mono ?_
 rintro v h15 ⟨s15,j2,cpj2,e2,rfl,hj2,hrow2,_⟩
 have hPl:=Zho (c:=32) p0
 have hmem2:∀ p∈Zcr 32 p0,p.length≤900:=fun p hp=>by have:=Zge hp; omega
 have hby2:=Zhh (c:=32) hb0
 generalize hP:Zcr 32 p0=P at hrow2 hPl hmem2 hby2 hW
 simp only [Zaf]
 have S15:=S10.cat s15
 have z15:=s15.get z10 (Own.lt z10)
 have o15:=s15.get o10 (Own.lt o10)
 have e15:=s15.get e10 (Own.lt e10)
 have i15:=s15.get i10 (Own.lt i10)
 have r15:=s15.get r10 (Own.lt r10)
 have hz8:h.length≠h8.length:=by omega
 have l10:=s10.le
 have hj2l:=Own.lt hrow2
 refine Zcn.L4ind (J:=fun (g:Nat) x23 h'=>x23=(g:Int)∧g≤P.length∧Zbe h.length h h'∧h'[h.length]?=some (.cells Zad [.slice none 0 0 true,.slice none 0 0 true] false)∧h'[j]?=some (.cells Zbg (Zdq eS L) false)∧h'[j2]?=some (.cells Zbg (Zdq eS P) false) ∧
   h'[h7.length]?=some (.cells Zac [] false)∧∃ (q c:Nat) (e:Bool),h'[h8.length]?=some (.cells Zad [.slice (some (q,0)) g c e,.slice (some (h7.length,0)) 0 0 true] false)∧h'[q]?=some (.cells Zbh (Zdq eP ((P.take g).map Ybm)) false)∧h.length≤q∧g≤c)
  (m:=fun g=>P.length - g) (hr:=?_) (g:=0) (hj:=⟨rfl,by omega,S15,z15,r15,hrow2,i15,h2.length,0,true,o15,by simpa using e15,by omega,Nat.le_refl _⟩) ..
 rintro g x23 h' ⟨rfl,hg,hS,hz,hr1,hr2,hi,q,c,e,ho,hq,hqb,hgc⟩ R hR
 have hlS:=hS.le
 unfold Zcn.L4t
 refine Zav (fun hlt=>?_) (fun hge=>?_)
 ·have hlt':g < P.length:=by omega
  obtain ⟨ii,oo,hgl,hai,hii,hc⟩:=Row.el1 Zlc ((Vec.mk1 (n:=0) (c:=0) hr2).row (m:=P.length) (by rw [Zay Zlc]; omega)) hlt'
  cases hai
  simp only [Zaw,Int.toNat_natCast,hc,eS,List.getElem?_cons_zero,Zam,Zax]
  have hpm:=hmem2 _ (List.getElem_mem hgl)
  have hset:∀ x,Ybm P[g]=x→(P.take (g + 1)).map Ybm=(P.take g).map Ybm ++ [x]:=fun x hx=>by rw [List.take_succ_eq_append_getElem hgl,List.map_append]; simp [hx]
  generalize P[g]=p at hpm hset ⊢
  refine ⟨by omega,?_⟩
  generalize hk1:h' ++ [Zcc.cells Zbh [.str [],.str []] false]=k1
  have t1:Zbe h'.length h' k1:=by rw [← hk1]; exact Zao
  have b1:k1[h'.length]?=some (.cells Zbh [.str [],.str []] false):=by rw [← hk1]; simp
  have tl1:k1.length=h'.length + 1:=by rw [← hk1]; simp
  rw [Zba b1 (by simp)]
  simp only [Zat,putRow,List.take_zero,List.length_cons,List.length_nil,List.drop_succ_cons,List.drop_zero,List.drop_nil,List.cons_append,List.nil_append,List.append_nil,Nat.zero_add]
  have b2:=Zbv b1 (x:=.cells Zbh [.str p,.str []] false)
  have t2:Zbe h'.length h' (k1.set h'.length (.cells Zbh [.str p,.str []] false)):=t1.set' (Nat.le_refl _)
  have tl2:(k1.set h'.length (.cells Zbh [.str p,.str []] false)).length=k1.length:=by simp
  generalize k1.set h'.length (.cells Zbh [.str p,.str []] false)=k2 at b2 t2 tl2 ⊢
  have hol:=Own.lt ho
  have hql:=Own.lt hq
  -- a class of its own, appended
  have fin:∀ (G:Zaa) (x:Nd),G.length=k2.length→Zbe h'.length h' G→G[h'.length]?=some (.cells Zbh [.str x.1,.str x.2] false)→Ybm p=x→Zcn.J9 (Yuz s h) R h8.length 0 h'.length 0 (g:Int) ((P.length:Nat):Int) (some (j2,0)) P.length cpj2 e2 (some (j,0)) L.length cpj eL h.length 0 G:=by
   intro G x hGl tG bG hx
   apply Zcn.J9i
   have oG:=tG.get ho hol
   have qG:=tG.get hq hql
   have zG:=tG.get hz (Own.lt hz)
   have r1G:=tG.get hr1 (Own.lt hr1)
   have r2G:=tG.get hr2 (Own.lt hr2)
   have iG:=tG.get hi (Own.lt hi)
   simp only [Zak oG,Nat.zero_add,List.getElem?_cons_zero,Zaf,Zax]
   rw [Zbk bG]
   simp only [Zau,Zaj,Zar,Zam]
   refine (Vec.mk1 (n:=g) (c:=c) qG).pushN (sz:=2) Zwg Yho Yhc Yhs (by rw [Zay Zfp,List.length_map,List.length_take]; omega) rfl (by omega) rfl (by omega) (fun k5 hl5 hi5 hk5=>?_)
   have keep:∀ {x:Nat} {y:Zcc},G[x]?=some y→x≠q→k5[x]?=some y:=fun {x y} hx hne=>by rw [hk5 x (Own.lt hx) (fun i hi=>by cases hi; exact hne)]; exact hx
   have o5:=keep oG (Zfe oG qG (by decide))
   have z5:=keep zG (Zfe zG qG (by decide))
   have r15:=keep r1G (Zfe r1G qG (by decide))
   have r25:=keep r2G (Zfe r2G qG (by decide))
   have i5:=keep iG (Zfe iG qG (by decide))
   simp only [Zaf]
   rw [Zba o5 (by simp)]
   simp only [Zat,putRow,List.take_zero,List.length_cons,List.length_nil,List.drop_succ_cons,List.drop_zero,List.drop_nil,List.cons_append,List.nil_append,List.append_nil]
   apply Zcn.J10i
   rw [Zbt (by omega)]
   have:=tG.le
   refine hR (g + 1) _ _ (by omega) ⟨rfl,by omega,?_,by rw [Zbl (Ne.symm hz8)]; exact z5,by rw [Zbl (Zfe o5 r15 (by decide))]; exact r15,by rw [Zbl (Zfe o5 r25 (by decide))]; exact r25,by rw [Zbl (Zfe o5 i5 (by decide))]; exact i5,G.length + 1,g + 1,false,Zbv o5,?_,by omega,Nat.le_refl _⟩
   ·exact Zbe.set' ⟨by omega,fun x hx=>by rw [hk5 x (by omega) (fun i hi=>by cases hi; omega),tG.eq x (by omega)]; exact hS.eq x hx⟩ (by omega)
   ·rw [Zbl (by omega),hset _ hx]; simpa [eP] using hi5
  refine Zav (fun h2=>?_) (fun h2=>?_)
  ·match p,h2,hpm,fin,b2 with
   | x0 :: x1 :: x2 :: r,h2,hpm,fin,b2=>
    refine ⟨⟨by omega,by simp; omega⟩,?_⟩
    simp only [show Int.toNat 1=1 from rfl,List.getD_cons_succ,List.getD_cons_zero]
    refine Zcs (fun he=>?_) (fun hne=>?_)
    ·have hx1:x1=60:=by omega
     subst hx1
     refine ⟨⟨by omega,by omega,by simp; omega⟩,⟨by omega,by simp; omega,by omega⟩,?_⟩
     rw [Ycr,Yaz (s:=x0 :: 60 :: x2 :: r) (z:=2) (k:=2) rfl (by simp)]
     simp only [List.drop_succ_cons,List.drop_zero]
     rw [Zba b2 (by simp)]
     simp only [Zat,putRow,List.take_zero,List.length_cons,List.length_nil,List.drop_succ_cons,List.drop_zero,List.drop_nil,List.cons_append,List.nil_append,List.append_nil,Nat.zero_add]
     exact fin _ ([x0],x2 :: r) (by simp) (t2.set' (Nat.le_refl _)) (Zbv b2) (by simp [Ybm])
    ·have hx1:¬ x1=60:=by omega
     exact fin _ (x0 :: x1 :: x2 :: r,[]) rfl t2 b2 (by simp [Ybm,hx1])
   | [],h2,_,_,_=>simp at h2
   | [_],h2,_,_,_=>simp at h2
   | [_,_],h2,_,_,_=>simp at h2
  ·refine fin _ (p,[]) rfl t2 b2 ?_
   match p,h2 with
   | [],_=>rfl
   | [_],_=>rfl
   | [_,_],_=>rfl
   | x0 :: x1 :: x2 :: r,h2=>simp at h2; omega
 ·apply Zcn.A4x0i
  have hgP:g=P.length:=by omega
  subst hgP
  rw [List.take_length] at hq
  simp only [Zkm,Zjz]
  refine ⟨by omega,?_⟩
  -- the pieces behind the first one
  have next:∀ (a:Pt) (n c':Nat) (e':Bool),n=L.length - 1→Row h'.length h' a n (Zdq eS (L.drop 1))→(∀ i o,a=some (i,o)→i=j)→Zcn.L12 (Yuz s h) h.length 0 h8.length 0 a n c' e' ((n:Nat):Int) 0 h':=by
   intro a n c' e' hn hrw haj
   have hdl:(L.drop 1).length=n:=by rw [List.length_drop]; omega
   have hmem3:∀ p∈L.drop 1,p.length≤900:=fun p hp=>hmem p (List.mem_of_mem_drop hp)
   have hby3:∀ p∈L.drop 1,∀ b∈p,b < 256:=fun p hp=>hby p (List.mem_of_mem_drop hp)
   generalize L.drop 1=D at hW hrw hdl hmem3 hby3
   refine Zcn.L12ind (J:=fun (g:Nat) x52 k=>x52=(g:Int)∧g≤n∧Zbe h.length h k∧k[h.length]?=some (.cells Zad [.slice none 0 0 true,.slice none 0 0 true] false)∧k[j]?=some (.cells Zbg (Zdq eS L) false)∧Row k.length k a n (Zdq eS D)∧k[q]?=some (.cells Zbh (Zdq eP (P.map Ybm)) false) ∧
     ∃ (l:List Ins) (ys:List EI) (q1 c1:Nat) (e1:Bool),(D.take g).mapM Yab=some l∧l.length=g∧ys.length=g∧k[h8.length]?=some (.cells Zad [.slice (some (q,0)) P.length c e,.slice (some (q1,0)) g c1 e1] false)∧k[q1]?=some (.cells Zac (Zdq eN ys) false)∧h.length≤q1∧g≤c1 ∧
      ∀ (m:Nat) (x:EI) (i:Ins),ys[m]?=some x→l[m]?=some i→x.c=i.1.1∧x.t=i.1.2∧Zdl Zae eP h.length k x.a x.n i.2)
    (m:=fun g=>n - g) (hr:=?_) (g:=0) (hj:=⟨rfl,by omega,hS,hz,hr1,hrw,hq,[],[],h7.length,0,true,by simp,rfl,rfl,ho,hi,by omega,Nat.le_refl _,by simp⟩) ..
   rintro g x52 k ⟨rfl,hg,kS,kz,kj,krw,kq,l,ys,q1,c1,e1,hl,hll,hyl,ko,kq1,hq1b,hgc1,hrep⟩ R2 hR2
   have kle:=kS.le
   have hkol:=Own.lt ko
   unfold Zcn.L12t
   refine Zav (fun hlt=>?_) (fun hge=>?_)
   ·obtain ⟨ii,oo,hgl,hai,hii,hc⟩:=Row.el1 Zlc krw (k:=g) (by omega)
    obtain rfl:=haj _ _ hai
    subst hai
    simp only [Zaw,Int.toNat_natCast,hc,eS,List.getElem?_cons_zero,Zam]
    refine ⟨by omega,(Zuq D[g] (by have:=hmem3 _ (List.getElem_mem hgl); omega) (hby3 _ (List.getElem_mem hgl))).mono ?_⟩
    rintro v k2 ⟨t2,hres⟩
    have hstep:(D.take (g + 1)).mapM Yab=(Yab D[g]).map fun y=>l ++ [y]:=by rw [List.take_succ_eq_append_getElem hgl,Ycv,hl]; rfl
    have tl2:=t2.le
    have T2:=kS.cat t2
    have kz2:=t2.get kz (Own.lt kz)
    rcases hres with ⟨i,na,nc,ne,hi',rfl,hnc,nf⟩ | ⟨hi',rfl⟩
    ·simp only [Zdx,Zaj,Zde,Zam,Zaf,Zar,Zap,Zax]
     generalize hk3:k2 ++ [Zcc.cells Zac [.str [],.str [],.slice none 0 0 true] false]=k3
     have t3:Zbe k2.length k2 k3:=by rw [← hk3]; exact Zao
     have n3:k3[k2.length]?=some (.cells Zac [.str [],.str [],.slice none 0 0 true] false):=by rw [← hk3]; simp
     have tl3:k3.length=k2.length + 1:=by rw [← hk3]; simp
     rw [Zba n3 (by simp)]
     simp only [Zat,putRow,List.take_zero,List.length_cons,List.length_nil,List.drop_succ_cons,List.drop_zero,List.drop_nil,List.cons_append,List.nil_append,List.append_nil,Nat.zero_add,Bool.not_true,Zbj]
     have n4:=Zbv n3 (x:=.cells Zac [.str i.1.1,.str i.1.2,.slice na i.2.length nc ne] false)
     have t4:Zbe k2.length k2 (k3.set k2.length (.cells Zac [.str i.1.1,.str i.1.2,.slice na i.2.length nc ne] false)):=t3.set' (Nat.le_refl _)
     have tl4:(k3.set k2.length (.cells Zac [.str i.1.1,.str i.1.2,.slice na i.2.length nc ne] false)).length=k3.length:=by simp
     generalize k3.set k2.length (.cells Zac [.str i.1.1,.str i.1.2,.slice na i.2.length nc ne] false)=k4 at n4 t4 tl4 ⊢
     have t24:=t2.cat t4
     have T4:=kS.cat t24
     have z4:=t24.get kz (Own.lt kz)
     have o4:=t24.get ko (Own.lt ko)
     have q14:=t24.get kq1 (Own.lt kq1)
     have j4:=t24.get kj (Own.lt kj)
     have q4:=t24.get kq (Own.lt kq)
     have nf4:Zdl Zae eP h.length k4 na i.2.length i.2:=(nf.same t4).low kS.le
     simp only [Zak o4,Nat.zero_add,List.getElem?_cons_succ,List.getElem?_cons_zero,Zaf]
     rw [Zlu n4]
     simp only [Zau,Zaj,Zar,Zam,Zaf]
     refine (Vec.mk1 (n:=g) (c:=c1) q14).pushN (sz:=3) Zox Zym Zyi Zyq (by rw [Zay Znw,hyl]) rfl (by omega) rfl (by omega) (fun k5 hl5 hi5 hk5=>?_)
     have keep:∀ {x:Nat} {y:Zcc},k4[x]?=some y→x≠q1→k5[x]?=some y:=fun {x y} hx hne=>by rw [hk5 x (Own.lt hx) (fun i hi=>by cases hi; exact hne)]; exact hx
     have o5:=keep o4 (Zfe o4 q14 (by decide))
     have z5:=keep z4 (Zfe z4 q14 (by decide))
     have j5:=keep j4 (Zfe j4 q14 (by decide))
     have q5:=keep q4 (Zfe q4 q14 (by decide))
     have fr5:∀ {a:Pt} {n:Nat} {l:List Nd},Zdl Zae eP h.length k4 a n l→Zdl Zae eP h.length k5 a n l:=fun f=>⟨f.1,f.2.imp id fun ⟨y,ha,hb,hy⟩=>⟨y,ha,hb,keep hy (Zfe hy q14 (by decide))⟩⟩
     simp only [Zaf]
     rw [Zba o5 (by simp)]
     simp only [Zat,putRow,List.take_succ_cons,List.take_zero,List.length_cons,List.length_nil,List.drop_succ_cons,List.drop_zero,List.drop_nil,List.cons_append,List.nil_append,List.append_nil]
     rw [Zbt (by omega)]
     have fr6:∀ {a:Pt} {n:Nat} {l:List Nd},Zdl Zae eP h.length k5 a n l→Zdl Zae eP h.length (k5.set h8.length (.cells Zad [.slice (some (q,0)) P.length c e,.slice (some (k4.length + 1,0)) (g + 1) (g + 1) false] false)) a n l:=fun f=>⟨f.1,f.2.imp id fun ⟨y,ha,hb,hy⟩=>⟨y,ha,hb,by rw [Zbl (Zfe o5 hy (by decide))]; exact hy⟩⟩
     have j6:(k5.set h8.length (.cells Zad [.slice (some (q,0)) P.length c e,.slice (some (k4.length + 1,0)) (g + 1) (g + 1) false] false))[ii]?=some (.cells Zbg (Zdq eS L) false):=by rw [Zbl (Zfe o5 j5 (by decide))]; exact j5
     refine hR2 (g + 1) _ _ (by omega) ⟨rfl,by omega,?_,by rw [Zbl (Ne.symm hz8)]; exact z5,j6,?_,by rw [Zbl (Zfe o5 q5 (by decide))]; exact q5,l ++ [i],ys ++ [⟨i.1.1,i.1.2,na,i.2.length,nc,ne⟩],k4.length + 1,g + 1,false,by rw [hstep,hi']; rfl,by simp [hll],by simp [hyl],Zbv o5,?_,by omega,Nat.le_refl _,fun m x i' hx hi''=>?_⟩
     ·exact Zbe.set' ⟨by omega,fun x hx=>by rw [hk5 x (by omega) (fun i hi=>by cases hi; omega)]; exact T4.eq x hx⟩ (by omega)
     ·obtain ⟨hl',hr'⟩:=krw
      refine ⟨hl',hr'.imp id ?_⟩
      rintro ⟨i',o',t,all,ro,ha,hi',hg',x⟩
      cases ha
      rw [kj] at hg'; injection hg' with hg'; injection hg' with g1 g2 g3
      exact ⟨_,_,t,all,ro,rfl,by simp; have:=Own.lt j5; omega,by rw [j6,g1,g2,g3],x⟩
     ·rw [Zbl (by omega)]; simpa [eN] using hi5
     ·by_cases hm:m < g
      ·rw [List.getElem?_append_left (by omega)] at hx hi''
       obtain ⟨p1,p2,p3⟩:=hrep m x i' hx hi''
       exact ⟨p1,p2,fr6 (fr5 (p3.same t24))⟩
      ·have hmg:m=g:=by have:=(List.getElem?_eq_some_iff.1 hx).1; simp [hyl] at this; omega
       subst hmg
       rw [List.getElem?_append_right (by omega)] at hx hi''
       simp [hyl] at hx
       simp [hll] at hi''
       subst hx; subst hi''
       exact ⟨rfl,rfl,fr6 (fr5 nf4)⟩
    ·simp only [Zdx,Zaj,Zde,Zam,Zaf,Zar,Zap,Zax]
     generalize hk3:k2 ++ [Zcc.cells Zac [.str [],.str [],.slice none 0 0 true] false]=k3
     have t3:Zbe k2.length k2 k3:=by rw [← hk3]; exact Zao
     have n3:k3[k2.length]?=some (.cells Zac [.str [],.str [],.slice none 0 0 true] false):=by rw [← hk3]; simp
     rw [Zba n3 (by simp)]
     simp only [Zat,Bool.not_false,Zby]
     have t4:Zbe k2.length k2 (k3.set k2.length (.cells Zac (putRow [.str [],.str [],.slice none 0 0 true] 0 [.str [],.str [],.slice none 0 0 true]) false)):=t3.set' (Nat.le_refl _)
     refine Ynl (T2.cat t4) (Nat.le_refl _) (t4.get kz2 (Own.lt kz2)) ?_
     rw [hW,Zve (k:=g + 1) Yab (by rw [hstep,hi']; rfl)]
   ·apply Zcn.A12x2i
    have hgn:g=n:=by omega
    subst hgn
    rw [List.take_of_length_le (by omega)] at hl
    rw [Zbk ko]
    simp only [Zau,Zaj,Zar,Zaf]
    have rep:Zpz k (some (q,0)) P.length c (some (q1,0)) g c1 ⟨P.map Ybm,l⟩:=by
     refine ⟨?_,⟨ys,?_,by rw [hyl,hll],fun m x i hx hi=>⟨(hrep m x i hx hi).1,(hrep m x i hx hi).2.1,(hrep m x i hx hi).2.2.row Zfp⟩⟩,hgc,hgc1⟩
     ·exact (Vec.mk1 (n:=0) (c:=0) kq).row (by rw [Zay Zfp,List.length_map])
     ·exact (Vec.mk1 (n:=0) (c:=0) kq1).row (by rw [Zay Znw,hyl])
    have ws:WB ⟨P.map Ybm,l⟩:=by
     obtain ⟨h1,h2⟩:=Zwf hl
     refine ⟨by simp; omega,by simp only; omega,fun p hp=>?_,fun i hi=>?_⟩
     ·simp only [List.mem_map] at hp
      obtain ⟨x,hx,rfl⟩:=hp
      have:=hmem2 x hx
      have h3:=Yhl (s:=x)
      exact ⟨by omega,by omega,Ych (hby2 x hx)⟩
     ·obtain ⟨x,hx,he⟩:=h2 i hi
      have:=Zze (hmem3 x hx) he
      exact ⟨by omega,by omega,by omega,fun p hp=>by have:=this.2.2.2 p hp; omega⟩
    refine (Zsg rep ws).mono ?_
    rintro v m1 ⟨rfl,t1⟩
    simp only [Zap]
    have M1:=kS.cat t1
    have mz:=t1.get kz (Own.lt kz)
    have mo:=t1.get ko (Own.lt ko)
    rw [hl] at hW
    simp only at hW
    refine Zcq (fun hv=>?_) (fun hv=>?_)
    ·refine Ynl M1 (Nat.le_refl _) mz ?_
     rw [hW]; unfold wdQ; rw [if_neg (by rw [hv]; simp)]
    ·rw [Zbk mo]
     simp only [Zau,Zaj,Zar,Zaf]
     rw [Zba mz (by simp)]
     simp only [Zat,putRow,List.take_zero,List.length_cons,List.length_nil,List.drop_succ_cons,List.drop_zero,List.drop_nil,List.cons_append,List.nil_append,List.append_nil,Nat.zero_add]
     rw [Zbk (Zbv mz)]
     simp only [Zau,Zaj,Zar,Zaf]
     refine ⟨M1.set' (Nat.le_refl _),_,_,_,_,_,_,_,_,_,rfl,?_⟩
     rw [hW]; unfold wdQ; rw [if_pos hv]
     have nz:∀ {x:Nat} {t:TypeId} {cs:List Zas},m1[x]?=some (.cells t cs false)→t≠Zad→(m1.set h.length (.cells Zad [.slice (some (q,0)) P.length c e,.slice (some (q1,0)) g c1 e1] false))[x]?=some (.cells t cs false):=fun {x t cs} hx hne=>by rw [Zbl (Zfe mz hx (Ne.symm hne))]; exact hx
     refine ⟨?_,⟨ys,?_,by rw [hyl,hll],fun m x i hx hi=>⟨(hrep m x i hx hi).1,(hrep m x i hx hi).2.1,?_⟩⟩,hgc,hgc1⟩
     ·exact (Vec.mk1 (n:=0) (c:=0) (nz (t1.get kq (Own.lt kq)) (by decide))).row (by rw [Zay Zfp,List.length_map])
     ·exact (Vec.mk1 (n:=0) (c:=0) (nz (t1.get kq1 (Own.lt kq1)) (by decide))).row (by rw [Zay Znw,hyl])
     ·have f:=((hrep m x i hx hi).2.2).same t1
      exact (show Zdl Zae eP h.length _ x.a x.n i.2 from ⟨f.1,f.2.imp id fun ⟨y,ha,hb,hy⟩=>⟨y,ha,hb,nz hy (by decide)⟩⟩).row Zfp
  refine ⟨fun hlt=>?_,fun hno=>?_⟩
  ·simp only [Zaf]
   have e1:((L.length:Int) - 1).toNat=L.length - 1:=by omega
   refine next _ _ _ _ e1 ?_ (fun i o h=>by cases h; rfl)
   rw [e1]
   refine ⟨by rw [Zay Zlc,List.length_drop]; omega,?_⟩
   by_cases h1:L.length=1
   ·left; omega
   ·right
    refine ⟨j,0 + 1 * 1,_,_,_,rfl,Own.lt hr1,hr1,by rw [Zay Zlc]; omega,?_⟩
    have:=Yer (enc:=eS) Zlc L 1
    rw [Nat.one_mul] at this
    rw [show 0 + 1 * 1=1 from rfl,this,List.take_of_length_le (by rw [Zay Zlc,List.length_drop]; omega)]
  ·simp only [Zaf]
   have e1:((L.length:Int) - 1).toNat=L.length - 1:=by omega
   have e0:L.length=1:=by omega
   refine next _ _ _ _ (by omega) ?_ (fun i o h=>by cases h)
   have:L.drop 1=[]:=List.drop_of_length_le (by omega)
   rw [this]; simp; exact Row.nil
end Go.Sim
