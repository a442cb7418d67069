/- A part of the proof of a statement of this seat: see the text that holds the theorem. No condition. -/
import Derived.Test.YtdglddliggejdaaGreatPTCWVar2
import Derived.Test.YtdglddliggejdaaGreatCWGiv
import Derived.Test.YtdglddliggejdaaGreatPTCGrow
import Derived.Test.YtdglddliggejdaaGreatCSplit
import Derived.Test.YtdglddliggejdaaGreatNm
import Derived.Test.YtdglddliggejdaaGreatSimX
import Derived.Test.YtdglddliggejdaaGreatShelf
set_option linter.unusedVariables false
set_option linter.unusedSimpArgs false
set_option linter.all false
set_option linter.unusedVariables false
set_option linter.unusedSimpArgs false
set_option maxRecDepth 20000
namespace Go.Sim
open Go Go.RowKit
theorem Yfd {h:Zaa} {c t:List Nat} {x:Int} (hc:c.length≤9223372036854775807) (ht:t.length≤9223372036854775807) (hx:0≤x∧x≤1048576) :
  Zae pg Zlw [.agg [.str c,.str t],.int .i64 x] h fun v h'=>∃ y,v=.int .i64 y∧Zaz h.length h h'∧(0≤y→(c.length:Int) + t.length + y=x):=by
 apply Zpq.call
 simp only [Zaw]
 have s1:Zaz h.length h (h ++ [.cells Zon [.str c,.str t] false]):=Zaz.app (Nat.le_refl _) _
 simp [Zad]
 rw [IntWalk.i64_in _ (by omega)]
 refine Zan (fun hlt=>s1) (fun hge=>?_)
 rw [IntWalk.i64_in _ (by omega)]
 exact Zan (fun hlt=>s1) (fun hge=>⟨s1,by omega⟩)
theorem Yft {h:Zaa} {c t c' t':List Nat} :
  Zae pg Zlp [.agg [.str c,.str t],.agg [.str c',.str t']] h fun v h'=>v=.bool (decide (c=c') && decide (t=t'))∧Zaz h.length h h':=by
 apply Zpl.call
 simp only [Zaw]
 simp [Zad]
 by_cases e1:c=c' <;> by_cases e2:t=t' <;> simp [e1,e2] <;> exact Zaz.app (Nat.le_refl _) _
theorem Ygi {h:Zaa} {c t:List Nat} :
  Zae pg Zln [.agg [.str c,.str t]] h fun v h'=>v=.agg [.str c,.str t]∧Zaz h.length h h':=by
 apply Zpp.call
 simp only [Zaw]
 simp [Zad,Zbe,Zbf,putRow,List.getElem?_append,List.getElem?_set]
 exact Zaz.app (Nat.le_refl _) _

theorem Zyl {h:Zaa} {a:Pt} {n c:Nat} {e:Bool} {l:List (List Nat × List Nat)} (r:Row h.length h a (n * 2) (prs l)) (hs:∀ p∈l,p.1.length≤9223372036854775807∧p.2.length≤9223372036854775807) (hn:n≤9223372036854775807) {left:Int} (hl:0≤left∧left≤1048576) :
  Zae pg Zks [.slice a n c e,.int .i64 left] h fun v h'=>∃ x,v=.int .i64 x∧Zaz h.length h h'∧(0≤x→(n:Int) + Zzz l + x=left):=by
 have hll:l.length=n:=by have:=r.1; rw [Zfz] at this; omega
 apply Zgm.call
 rw [IntWalk.i64_in _ (by omega)]
 refine Zan (fun hlt=>?_) (fun hge=>?_)
 ·exact ⟨_,rfl,Zaz.refl _ _,by omega⟩
 ·refine Zgm.L5ind _ _ _ _ _ (J:=fun (g:Nat) x1 x5 h'=>x5=(g:Int)∧Zaz h.length h h'∧g≤n∧0≤x1∧x1 + n + Zzz (l.take g)=left) (fun g=>n - g) ?_ 0 _ 0 h ⟨rfl,Zaz.refl _ _,by omega,by omega,by simp [Zzz]⟩
  rintro g x1 x5 h' ⟨rfl,hS,hg,h0,ht⟩ R hR
  unfold Zgm.L5t
  refine Zan (fun hlt=>?_) (fun hge=>?_)
  ·have hlt':g < n:=by omega
   obtain ⟨i,o,hgl,rfl,hi,hc⟩:=(r.same hS).pair hlt'
   have hsl:=hs _ (List.getElem_mem hgl)
   simp only [Zat,Int.toNat_natCast,hc,Zas,Zai,Zar,Zap]
   refine ⟨by omega,(Yfd hsl.1 hsl.2 (by omega)).mono fun v h1 ⟨y,hv,hs1,hy⟩=>?_⟩
   subst hv
   simp only [Zam]
   have hS1:=hS.trans (hs1.mono hS.le)
   refine Zan (fun hneg=>⟨_,rfl,hS1,by omega⟩) (fun hneg=>?_)
   rw [Zmi hlt' (by omega)]
   have hyy:=hy (by omega)
   refine hR (g + 1) _ _ _ (by omega) ⟨rfl,hS1,by omega,by omega,?_⟩
   rw [Zui hgl]; omega
  ·have:g=n:=by omega
   subst this
   rw [List.take_of_length_le (by omega)] at ht
   exact Zgm.A5x0i _ _ _ ⟨_,rfl,hS,by omega⟩
theorem Zzc {h:Zaa} {a:Pt} {n c:Nat} {e:Bool} {l:List (List Nat × List Nat)} (r:Row h.length h a (n * 2) (prs l)) (hn:n≤1048576) :
  Zae pg Zkv [.slice a n c e] h fun v h'=>∃ a' c' e',v=.slice a' n c' e'∧Zaz h.length h h'∧Zdk Zbq eP h.length h' a' n l∧n≤c'∧a'≠none:=by
 have hll:l.length=n:=by have:=r.1; rw [Zfz] at this; omega
 apply Zgo.call
 refine ⟨rfl,rfl,by omega,?_⟩
 simp only [Zaw,Int.toNat_natCast,Yea]
 refine Zgo.L3ind _ _ _ _ _ _ _ _ _ (J:=fun (g:Nat) x4 h'=>x4=(g:Int)∧g≤n∧Zaz h.length h h'∧h'[h.length]?=some (.cells Zbq (prs (l.take g ++ List.replicate (n - g) ([],[]))) false)) (fun g=>n - g) ?_ 0 0 _ ⟨rfl,by omega,Zaz.app (Nat.le_refl _) _,by simp⟩
 rintro g x4 h' ⟨rfl,hg,hs,hi⟩ R hR
 unfold Zgo.L3t
 refine Zan (fun hlt=>?_) (fun hge=>?_)
 ·have hlt':g < n:=by omega
  obtain ⟨i,o,hgl,rfl,hi',hc⟩:=(r.same hs).pair hlt'
  simp only [Zat,Int.toNat_natCast,hc,Zas,Zai,Zar,Zap]
  refine ⟨by omega,Ygi.mono fun v h1 ⟨hv,hs1⟩=>?_⟩
  subst hv
  have hi1:h1[h.length]?=some (.cells Zbq (prs (l.take g ++ List.replicate (n - g) ([],[]))) false):=by rw [hs1.eq _ (Own.lt hi)]; exact hi
  simp only [Zdf,Zai,Zar,Zap,Nat.zero_add]
  have hmin:min g l.length=g:=Nat.min_eq_left (by omega)
  rw [Zzy hi1 (by simp; omega)]
  simp only [Zau]
  rw [Zmi hlt' (by omega)]
  have hset:(l.take g ++ List.replicate (n - g) ([],[])).take g ++ [(l[g].1,l[g].2)] ++ (l.take g ++ List.replicate (n - g) (([]:List Nat),([]:List Nat))).drop (g + 1)=l.take (g + 1) ++ List.replicate (n - (g + 1)) ([],[]):=by
   have hl1:(l.take g).length=g:=by rw [List.length_take,hmin]
   rw [List.take_left' hl1,List.take_succ_eq_append_getElem hgl,List.drop_append,hl1,List.drop_of_length_le (by omega),List.nil_append,List.drop_replicate]
   congr 2; omega
  rw [hset]
  exact ⟨⟨by omega,by omega⟩,hR (g + 1) _ _ (by omega) ⟨rfl,by omega,(hs.trans (hs1.mono hs.le)).trans (Zaz.set (Nat.le_refl _) _),Zmp hi1⟩⟩
 ·have:g=n:=by omega
  subst this
  rw [List.take_of_length_le (by omega),Nat.sub_self,List.replicate_zero,List.append_nil] at hi
  exact Zgo.A3x0i _ _ _ _ _ _ ⟨_,_,_,rfl,hs,⟨hll,.inr ⟨h.length,rfl,Nat.le_refl _,hi⟩⟩,by simp,by simp⟩
theorem Zzv {h:Zaa} {a0 a1:Pt} {n0 n1 c0 c1:Nat} {e0 e1:Bool} {l0 l1:List (List Nat × List Nat)} (r0:Row h.length h a0 (n0 * 2) (prs l0)) (r1:Row h.length h a1 (n1 * 2) (prs l1)) (hn:n0≤4611686018427387904) (heq:l0=l1) :
  Zae pg Zlc [.slice a0 n0 c0 e0,.slice a1 n1 c1 e1] h fun v h'=>v=.bool true∧Zaz h.length h h':=by
 subst heq
 have hl0:l0.length=n0:=by have:=r0.1; rw [Zfz] at this; omega
 have hl1:l0.length=n1:=by have:=r1.1; rw [Zfz] at this; omega
 have:n1=n0:=by omega
 subst this
 apply Zgf.call
 simp only [beq_self_eq_true,Bool.not_true,Zax]
 refine Zgf.L4ind _ _ _ _ _ _ _ _ _ (J:=fun (k:Nat) x5 h'=>Zaz h.length h h'∧x5=(k:Int)∧k≤n1) (fun k=>n1 - k) ?_ 0 0 h ⟨Zaz.refl _ _,rfl,by omega⟩
 rintro k x5 h' ⟨hs,rfl,hk⟩ R hR
 unfold Zgf.L4t
 refine Zan (fun hlt=>?_) (fun hge=>Zgf.A4x0i _ _ ⟨rfl,hs⟩)
 have hlt':k < n1:=by omega
 obtain ⟨i,o,hgl,rfl,_,hc0⟩:=(r0.same hs).pair hlt'
 obtain ⟨i',o',_,rfl,_,hc1⟩:=(r1.same hs).pair hlt'
 simp only [Zat,Int.toNat_natCast,hc0,hc1,Zas,Zai,Zar,Zap,true_and]
 refine ⟨⟨by omega,by omega⟩,⟨by omega,by omega⟩,Yft.mono fun v h1 ⟨hv,hs1⟩=>?_⟩
 subst hv
 simp only [Zah,decide_true,Bool.and_self,Bool.not_true,Zax]
 rw [Zmi hlt' (by omega)]
 exact hR (k + 1) _ _ (by omega) ⟨hs.trans (hs1.mono hs.le),rfl,by omega⟩

theorem Ycs {h:Zaa} {a:Pt} {n c:Nat} {e:Bool} {l:List (List Nat × List Nat)} (r:Row h.length h a (n * 2) (prs l)) (hn:n≤1048576) :
  Zae pg Zls [.slice a n c e] h fun v h'=>∃ a' c' e',v=.slice a' n c' e'∧Zaz h.length h h'∧Zdk Zbv eP h.length h' a' n l∧n≤c'∧a'≠none:=by
 have hll:l.length=n:=by have:=r.1; rw [Zfz] at this; omega
 apply Zhl.call
 refine ⟨rfl,rfl,by omega,?_⟩
 simp only [Zaw,Int.toNat_natCast,Yea]
 refine Zhl.L3ind _ _ _ _ _ _ _ _ _ (J:=fun (g:Nat) x4 h'=>x4=(g:Int)∧g≤n∧Zaz h.length h h'∧h'[h.length]?=some (.cells Zbv (prs (l.take g ++ List.replicate (n - g) ([],[]))) false)) (fun g=>n - g) ?_ 0 0 _ ⟨rfl,by omega,Zaz.app (Nat.le_refl _) _,by simp⟩
 rintro g x4 h' ⟨rfl,hg,hs,hi⟩ R hR
 unfold Zhl.L3t
 refine Zan (fun hlt=>?_) (fun hge=>?_)
 ·have hlt':g < n:=by omega
  obtain ⟨i,o,hgl,rfl,hi',hc⟩:=(r.same hs).pair hlt'
  simp only [Zat,Int.toNat_natCast,hc,Zas,Zai,Zar,Zap]
  refine ⟨by omega,Zyn.mono fun v h1 ⟨hv,hs1⟩=>?_⟩
  subst hv
  have hi1:h1[h.length]?=some (.cells Zbv (prs (l.take g ++ List.replicate (n - g) ([],[]))) false):=by rw [hs1.eq _ (Own.lt hi)]; exact hi
  simp only [Zdf,Zai,Zar,Zap,Nat.zero_add]
  have hmin:min g l.length=g:=Nat.min_eq_left (by omega)
  rw [Zzy hi1 (by simp; omega)]
  simp only [Zau]
  rw [Zmi hlt' (by omega)]
  have hset:(l.take g ++ List.replicate (n - g) ([],[])).take g ++ [(l[g].1,l[g].2)] ++ (l.take g ++ List.replicate (n - g) (([]:List Nat),([]:List Nat))).drop (g + 1)=l.take (g + 1) ++ List.replicate (n - (g + 1)) ([],[]):=by
   have hl1:(l.take g).length=g:=by rw [List.length_take,hmin]
   rw [List.take_left' hl1,List.take_succ_eq_append_getElem hgl,List.drop_append,hl1,List.drop_of_length_le (by omega),List.nil_append,List.drop_replicate]
   congr 2; omega
  rw [hset]
  exact ⟨⟨by omega,by omega⟩,hR (g + 1) _ _ (by omega) ⟨rfl,by omega,(hs.trans (hs1.mono hs.le)).trans (Zaz.set (Nat.le_refl _) _),Zmp hi1⟩⟩
 ·have:g=n:=by omega
  subst this
  rw [List.take_of_length_le (by omega),Nat.sub_self,List.replicate_zero,List.append_nil] at hi
  exact Zhl.A3x0i _ _ _ _ _ _ ⟨_,_,_,rfl,hs,⟨hll,.inr ⟨h.length,rfl,Nat.le_refl _,hi⟩⟩,by simp,by simp⟩
end Go.Sim

set_option linter.unusedVariables false
set_option linter.unusedSimpArgs false
set_option maxRecDepth 20000
namespace Go.Sim
open Go Go.RowKit

def isz (i:Ins):Nat:=i.1.1.length + i.1.2.length + (i.2.length + Zzz i.2)
def Ygw (l:List Ins):Nat:=(l.map isz).sum
def wsz (w:Wd):Nat:=w.cs.length + Zzz w.cs + (w.is.length + Ygw w.is)
theorem Yal {l:List Ins} {g:Nat} (h:g < l.length):Ygw (l.take (g + 1))=Ygw (l.take g) + isz l[g]:=by
 unfold Ygw; rw [List.take_succ_eq_append_getElem h,List.map_append,List.sum_append]; simp
theorem Zys (l:List Ins) (g:Nat):Ygw (l.take g)≤Ygw l:=by
 conv=>rhs; rw [← List.take_append_drop g l]
 unfold Ygw; rw [List.map_append,List.sum_append]; omega
theorem Ykx {l:List Ins} {g:Nat} (h:g < l.length):isz l[g]≤Ygw l:=by
 have:=Yal h; have:=Zys l (g + 1); omega
def Ztf (n:Nat):Prop:=n≤9223372036854775807
structure Ypz (w:Wd):Prop where
 lc:Ztf w.cs.length
 li:Ztf w.is.length
 cs:∀ p∈w.cs,Ztf p.1.length∧Ztf p.2.length∧∀ b∈p.1,b < 256
 is:∀ i∈w.is,Ztf i.1.1.length∧Ztf i.1.2.length∧Ztf i.2.length∧∀ p∈i.2,Ztf p.1.length∧Ztf p.2.length
theorem WB.of {w:Wd} (b:Ypz w) (h:wsz w≤1048576):WB w:=by
 have h1:∀ p∈w.cs,p.1.length + p.2.length≤Zzz w.cs:=fun p hp=>by
  obtain ⟨k,hk,rfl⟩:=List.mem_iff_getElem.1 hp; exact Yed hk
 have h2:∀ i∈w.is,isz i≤Ygw w.is:=fun p hp=>by
  obtain ⟨k,hk,rfl⟩:=List.mem_iff_getElem.1 hp; exact Ykx hk
 unfold wsz at h
 refine ⟨by omega,by omega,fun p hp=>⟨by have:=h1 p hp; omega,by have:=h1 p hp; omega,(b.cs p hp).2.2⟩,fun i hi=>?_⟩
 have:=h2 i hi
 unfold isz at this
 refine ⟨by omega,by omega,by omega,fun p hp=>?_⟩
 have h3:p.1.length + p.2.length≤Zzz i.2:=by obtain ⟨k,hk,rfl⟩:=List.mem_iff_getElem.1 hp; exact Yed hk
 omega
theorem Zxn {h:Zaa} {a:Pt} {n cp:Nat} {e:Bool} {i:Ins} {x:Int} (r:Row h.length h a (n * 2) (Zeu eP i.2)) (hb:Ztf i.1.1.length∧Ztf i.1.2.length∧Ztf i.2.length∧∀ p∈i.2,Ztf p.1.length∧Ztf p.2.length) (hx:0≤x∧x≤1048576) :
  Zae pg Zjd [.agg [.str i.1.1,.str i.1.2,.slice a n cp e],.int .i64 x] h fun v h'=>∃ y,v=.int .i64 y∧Zaz h.length h h'∧(0≤y→(isz i:Int) + y=x):=by
 have hl:i.2.length=n:=by have:=r.1; rw [Zbm Zgz] at this; omega
 apply Zmj.call
 simp only [Zaw]
 have s1:Zaz h.length h (h ++ [.cells Zeb [.str i.1.1,.str i.1.2,.slice a n cp e] false]):=Zaq
 have hi:(h ++ [Zcj.cells Zeb [.str i.1.1,.str i.1.2,.slice a n cp e] false])[h.length]?=some (.cells Zeb [.str i.1.1,.str i.1.2,.slice a n cp e] false):=by simp
 simp only [Nat.add_zero]
 rw [Zer hi (by simp)]
 simp only [List.drop_zero,List.take_succ_cons,List.take_zero,Zas,Zai,Zar,Zap]
 refine (Yab hb.1 hb.2.1 hx).mono ?_
 rintro v h2 ⟨y,rfl,s2,hy⟩
 simp only [Zam]
 have i2:=s2.get hi (Own.lt hi)
 refine Zan (fun hlt=>⟨_,rfl,s1.cat s2,by omega⟩) (fun hge=>?_)
 have hyy:=hy (by omega)
 simp only [Zak i2,Nat.zero_add,List.getElem?_cons_succ,List.getElem?_cons_zero,Zag]
 have hN:=hb.2.2.1
 unfold Ztf at hN
 refine (Yfm (r.same' (s1.cat s2)) (fun p hp=>hb.2.2.2 p hp) (by omega) (left:=y) (by omega)).mono ?_
 rintro v h3 ⟨z,rfl,s3,hz⟩
 simp only [Zam]
 refine Zan (fun hlt=>⟨_,rfl,(s1.cat s2).cat s3,by omega⟩) (fun hge=>⟨_,rfl,(s1.cat s2).cat s3,fun h0=>?_⟩)
 have:=hz h0
 unfold isz; omega
theorem Zvr {h:Zaa} {a0 a:Pt} {n0 c0 n cp:Nat} {e:Bool} {w:Wd} {x:Int} (r:Zph h a0 n0 c0 a n cp w) (hb:Ypz w) (hx:0≤x∧x≤1048576) :
  Zae pg Zig [.slice a n cp e,.int .i64 x] h fun v h'=>∃ y,v=.int .i64 y∧Zaz h.length h h'∧(0≤y→(w.is.length:Int) + Ygw w.is + y=x):=by
 have hl:=r.len1
 have hbl:=hb.li
 unfold Ztf at hbl
 apply Zfc.call
 rw [IntWalk.i64_in _ (by omega)]
 refine Zan (fun hlt=>⟨_,rfl,Zaz.refl _ _,by omega⟩) (fun hge=>?_)
 refine Zfc.L5ind _ _ _ _ _ (J:=fun (g:Nat) x1 x5 h'=>x5=(g:Int)∧Zaz h.length h h'∧g≤n∧0≤x1∧x1 + n + Ygw (w.is.take g)=x) (fun g=>n - g) ?_ 0 _ 0 h ⟨rfl,Zaz.refl _ _,by omega,by omega,by simp [Ygw]⟩
 rintro g x1 x5 h' ⟨rfl,hS,hg,h0,ht⟩ R hR
 unfold Zfc.L5t
 refine Zan (fun hlt=>?_) (fun hge=>?_)
 ·obtain ⟨i,o,hgl,a2,n2,c2,e2,rfl,_,hr,_,_,_,hrow,hn⟩:=(r.same hS).inst (k:=g) (by omega)
  simp only [Zat,Int.toNat_natCast,hr,Zas,Zai,Zar,Zap,Zag]
  refine ⟨by omega,(Zxn (i:=w.is[g]) hrow (hb.is _ (List.getElem_mem hgl)) (by omega)).mono ?_⟩
  rintro v h1 ⟨y,rfl,hs1,hy⟩
  simp only [Zam]
  have hS1:=hS.cat hs1
  refine Zan (fun hneg=>⟨_,rfl,hS1,by omega⟩) (fun hneg=>?_)
  have hyy:=hy (by omega)
  rw [Zbn (by omega)]
  exact hR (g + 1) _ _ _ (by omega) ⟨rfl,hS1,by omega,by omega,by rw [Yal hgl]; omega⟩
 ·have:g=n:=by omega
  subst this
  rw [List.take_of_length_le (by omega)] at ht
  exact Zfc.A5x0i _ _ _ ⟨_,rfl,hS,by omega⟩
theorem Yfy {h:Zaa} {a0 a1:Pt} {n0 c0 n1 c1:Nat} {e0 e1:Bool} {w:Wd} {x:Int} (r:Zph h a0 n0 c0 a1 n1 c1 w) (hb:Ypz w) (hx:0≤x∧x≤1048576) :
  Zae pg Zlv [.agg [.slice a0 n0 c0 e0,.slice a1 n1 c1 e1],.int .i64 x] h fun v h'=>∃ y,v=.int .i64 y∧Zaz h.length h h'∧(0≤y→(wsz w:Int) + y=x):=by
 have hl0:=r.len0
 apply Zpn.call
 simp only [Zaw]
 have s1:Zaz h.length h (h ++ [.cells Zef [.slice a0 n0 c0 e0,.slice a1 n1 c1 e1] false]):=Zaq
 have hi:(h ++ [Zcj.cells Zef [.slice a0 n0 c0 e0,.slice a1 n1 c1 e1] false])[h.length]?=some (.cells Zef [.slice a0 n0 c0 e0,.slice a1 n1 c1 e1] false):=by simp
 simp only [Zak hi,Nat.add_zero,List.getElem?_cons_zero,Zag]
 have hN:=hb.lc
 unfold Ztf at hN
 refine (Zyl (r.cls.same' s1) (fun p hp=>⟨(hb.cs p hp).1,(hb.cs p hp).2.1⟩) (by omega) hx).mono ?_
 rintro v h2 ⟨y,rfl,s2,hy⟩
 simp only [Zam]
 have i2:=s2.get hi (Own.lt hi)
 refine Zan (fun hlt=>⟨_,rfl,s1.cat s2,by omega⟩) (fun hge=>?_)
 have hyy:=hy (by omega)
 simp only [Zak i2,Nat.zero_add,List.getElem?_cons_succ,List.getElem?_cons_zero,Zag]
 refine (Zvr (r.same (s1.cat s2)) hb (x:=y) (by omega)).mono ?_
 rintro v h3 ⟨z,rfl,s3,hz⟩
 simp only [Zam]
 refine Zan (fun hlt=>⟨_,rfl,(s1.cat s2).cat s3,by omega⟩) (fun hge=>⟨_,rfl,(s1.cat s2).cat s3,fun h0=>?_⟩)
 have:=hz h0
 unfold wsz; omega

theorem Yid {h:Zaa} {i:Nat} {t:TypeId} {x y z v:Zal} (hi:h[i]?=some (.cells t [x,y,z] false)):Zbe h (.ptr (some (i,2))) [v]=some (h.set i (.cells t [x,y,v] false)):=by
 rw [Zbl hi (by simp)]; rfl
theorem Ygd {h:Zaa} {i:Nat} {t:TypeId} {x y z v u:Zal} (hi:h[i]?=some (.cells t [x,y,z] false)):Zbe h (.ptr (some (i,0))) [v,u]=some (h.set i (.cells t [v,u,z] false)):=by
 rw [Zbl hi (by simp)]; rfl
theorem Ygo {h:Zaa} {i:Nat} {t:TypeId} {x y z a b c:Zal} (hi:h[i]?=some (.cells t [x,y,z] false)):Zbe h (.ptr (some (i,0))) [a,b,c]=some (h.set i (.cells t [a,b,c] false)):=by
 rw [Zbl hi (by simp)]; rfl
theorem Zie {h:Zaa} {i:Nat} {t:TypeId} {x y z:Zal} {ro:Bool} (hi:h[i]?=some (.cells t [x,y,z] ro)):Zbf h (.ptr (some (i,0))) 3=some [x,y,z]:=by
 rw [Zer hi (by simp)]; rfl
theorem Yiz {h:Zaa} {i:Nat} {t:TypeId} {x y z:Zal} {ro:Bool} (hi:h[i]?=some (.cells t [x,y,z] ro)):Zbf h (.ptr (some (i,0))) 2=some [x,y]:=by
 rw [Zer hi (by simp)]; rfl
theorem Zaz.set' {b i:Nat} {h h1:Zaa} {x:Zcj} (s:Zaz b h h1) (hi:b≤i):Zaz b h (h1.set i x):=⟨by simp; exact s.le,fun j hj=>by rw [Zbw (by omega)]; exact s.eq j hj⟩
theorem Zdk.keep {α:Type} {ty:TypeId} {enc:α→List Zal} {b b':Nat} {h h':Zaa} {a:Pt} {n:Nat} {l:List α} (f:Zdk ty enc b h a n l) (hb:b'≤b) (hk:∀ i,b≤i→i < h.length→h'[i]?=h[i]?):Zdk ty enc b' h' a n l:=
 ⟨f.1,f.2.imp id fun ⟨i,ha,hbi,hi⟩=>⟨i,ha,by omega,by rw [hk i hbi (Own.lt hi)]; exact hi⟩⟩
theorem Zxm {h:Zaa} {a:Pt} {n cp:Nat} {e:Bool} {i:Ins} (r:Row h.length h a (n * 2) (Zeu eP i.2)) (hn:n≤1048576) :
  Zae pg Ziq [.agg [.str i.1.1,.str i.1.2,.slice a n cp e]] h fun v h'=>∃ a' c' e',v=.agg [.str i.1.1,.str i.1.2,.slice a' n c' e']∧Zaz h.length h h'∧Zdk Zbv eP h.length h' a' n i.2∧a'≠none:=by
 apply Zmn.call
 simp only [Zaw]
 generalize hh0:h ++ [Zcj.cells Zeb [.str i.1.1,.str i.1.2,.slice a n cp e] false]=h0
 generalize hh1:h0 ++ [Zcj.cells Zac [.str [],.str [],.slice none 0 0 true] false]=h1
 generalize hh2:h1 ++ [Zcj.cells Zac [.str [],.str [],.slice none 0 0 true] false]=h2
 have s0:Zaz h.length h h0:=by rw [← hh0]; exact Zaq
 have s1:Zaz h0.length h0 h1:=by rw [← hh1]; exact Zaq
 have s2:Zaz h1.length h1 h2:=by rw [← hh2]; exact Zaq
 have l0:h0.length=h.length + 1:=by rw [← hh0]; simp
 have l1:h1.length=h.length + 2:=by rw [← hh1]; simp [l0]
 have l2:h2.length=h.length + 3:=by rw [← hh2]; simp [l1]
 have x0:h0[h.length]?=some (.cells Zeb [.str i.1.1,.str i.1.2,.slice a n cp e] false):=by rw [← hh0]; simp
 have y1:h1[h0.length]?=some (.cells Zac [.str [],.str [],.slice none 0 0 true] false):=by rw [← hh1]; simp
 have z2:h2[h1.length]?=some (.cells Zac [.str [],.str [],.slice none 0 0 true] false):=by rw [← hh2]; simp
 have x2:=s2.get (s1.get x0 (by omega)) (by omega)
 have y2:=s2.get y1 (by omega)
 have S2:=(s0.cat s1).cat s2
 simp only [Nat.add_zero,Nat.zero_add]
 rw [Yiz x2]
 simp only [Zas,Zai,Zar,Zap]
 refine Zyn.mono ?_
 rintro v h3 ⟨rfl,s3⟩
 simp only [Zdf,Zai,Zar,Zap]
 have z3:=s3.get z2 (by omega)
 have x3:=s3.get x2 (by omega)
 have y3:=s3.get y2 (by omega)
 have l3:=s3.le
 rw [Ygd z3]
 simp only [Zau]
 have x4:(h3.set h1.length (.cells Zac [.str i.1.1,.str i.1.2,.slice none 0 0 true] false))[h.length]?=some (.cells Zeb [.str i.1.1,.str i.1.2,.slice a n cp e] false):=by rw [Zbw (by omega)]; exact x3
 have y4:(h3.set h1.length (.cells Zac [.str i.1.1,.str i.1.2,.slice none 0 0 true] false))[h0.length]?=some (.cells Zac [.str [],.str [],.slice none 0 0 true] false):=by rw [Zbw (by omega)]; exact y3
 have z4:(h3.set h1.length (.cells Zac [.str i.1.1,.str i.1.2,.slice none 0 0 true] false))[h1.length]?=some (.cells Zac [.str i.1.1,.str i.1.2,.slice none 0 0 true] false):=Zck z3
 have S4:Zaz h.length h (h3.set h1.length (.cells Zac [.str i.1.1,.str i.1.2,.slice none 0 0 true] false)):=(S2.cat s3).set' (by omega)
 generalize hh4:h3.set h1.length (.cells Zac [.str i.1.1,.str i.1.2,.slice none 0 0 true] false)=h4 at *
 have l4:h4.length=h3.length:=by rw [← hh4]; simp
 simp only [Zak x4,List.getElem?_cons_succ,List.getElem?_cons_zero,Zag]
 refine (Ycs (r.same' S4) hn).mono ?_
 rintro v h5 ⟨a',c',e',rfl,s5,f5,hc5,hnn⟩
 simp only [Zag]
 have l5:=s5.le
 have y5:=s5.get y4 (by omega)
 have z5:=s5.get z4 (by omega)
 rw [Yid z5]
 simp only [Zau]
 rw [Zie (Zck z5)]
 simp only [Zas,Zai,Zar,Zap,Zag]
 have y6:(h5.set h1.length (.cells Zac [.str i.1.1,.str i.1.2,.slice a' n c' e'] false))[h0.length]?=some (.cells Zac [.str [],.str [],.slice none 0 0 true] false):=by rw [Zbw (by omega)]; exact y5
 rw [Ygo y6]
 simp only [Zau]
 rw [Zie (Zck y6)]
 simp only [Zas,Zai,Zar,Zap,Zag]
 exact ⟨_,_,_,rfl,((S4.cat s5).set' (by omega)).set' (by omega),f5.keep (by omega) fun j hj _=>by rw [Zbw (by omega),Zbw (by omega)],hnn⟩
end Go.Sim

set_option linter.unusedVariables false
set_option linter.unusedSimpArgs false
set_option maxRecDepth 20000
namespace Go.Sim
open Go Go.RowKit

theorem Ylw {α:Type} {enc:α→List Zal} {w:Nat} (hw:∀ x,(enc x).length=w) {ys:List α} {y:α} {k n:Nat} {z:List Zal} (hk:ys.length=k) (hn:k < n) (hz:z.length=w) :
  putRow (Zeu enc ys ++ reps (n - k) z) (k * w) (enc y)=Zeu enc (ys ++ [y]) ++ reps (n - (k + 1)) z:=by
 have h1:(Zeu enc ys).length=k * w:=by rw [Zbm hw,hk]
 have h2:reps (n - k) z=z ++ reps (n - (k + 1)) z:=by
  rw [show n - k=(n - (k + 1)) + 1 by omega]; simp [reps,List.replicate_succ]
 unfold putRow
 rw [List.take_append_of_le_length (by omega),List.take_of_length_le (by omega),Zmv,Zjk,Ylv,List.append_nil,hw,h2,List.append_assoc,List.append_assoc]
 congr 2
 rw [← h1,← hz,List.drop_append,List.drop_of_length_le (by omega)]
 simp
theorem Yln {α:Type} {enc:α→List Zal} {w:Nat} (hw:∀ x,(enc x).length=w) {ys:List α} {k n:Nat} {z:List Zal} (hk:ys.length=k) (hn:k≤n) (hz:z.length=w):(Zeu enc ys ++ reps (n - k) z).length=n * w:=by
 have h1:(reps (n - k) z).length=(n - k) * w:=by unfold reps; rw [List.length_flatten]; simp [hz]
 rw [List.length_append,Zbm hw,h1,hk,← Nat.add_mul]; congr 1; omega
theorem Zvu {h:Zaa} {a0 a:Pt} {n0 c0 n cp:Nat} {e:Bool} {w:Wd} (r:Zph h a0 n0 c0 a n cp w) (b:WB w) :
  Zae pg Zid [.slice a n cp e] h fun v h'=>∃ a' c' e' ys,v=.slice a' n c' e'∧n≤c'∧Zaz h.length h h'∧Zdk Zac eN h.length h' a' n ys∧ys.length=w.is.length ∧
   (∀ (k:Nat) (x:EI) (i:Ins),ys[k]?=some x→w.is[k]?=some i→x.c=i.1.1∧x.t=i.1.2∧Zdk Zbv eP h.length h' x.a x.n i.2) ∧
   (∀ (j k:Nat) (x y:EI),j≠k→ys[j]?=some x→ys[k]?=some y→x.n≠0→y.n≠0→x.a≠y.a)∧∀ x∈ys,x.a≠none:=by
 have hl:=r.len1
 have hli:=b.li
 apply Zfa.call
 simp only [Zaw,Int.toNat_natCast]
 refine ⟨by trivial,by trivial,⟨by omega,by omega,by omega⟩,?_⟩
 refine Zfa.L3ind _ _ _ _ _ _ _ _ _ (J:=fun (g:Nat) x4 h'=>x4=(g:Int)∧g≤n∧Zaz h.length h h'∧∃ ys:List EI,ys.length=g∧h'[h.length]?=some (.cells Zac (Zeu eN ys ++ reps (n - g) [.str [],.str [],.slice none 0 0 true]) false) ∧
   (∀ (k:Nat) (x:EI) (i:Ins),ys[k]?=some x→w.is[k]?=some i→x.c=i.1.1∧x.t=i.1.2∧Zdk Zbv eP (h.length + 1) h' x.a x.n i.2) ∧
   (∀ (j k:Nat) (x y:EI),j≠k→ys[j]?=some x→ys[k]?=some y→x.n≠0→y.n≠0→x.a≠y.a)∧∀ x∈ys,x.a≠none) (fun g=>n - g) ?_ 0 _ _
  ⟨rfl,by omega,Zaz.app (Nat.le_refl _) _,[],rfl,by simp,by simp,by simp,by simp⟩
 rintro g x4 h' ⟨rfl,hg,hs,ys,hy,ho,hrep,hsep,hnn⟩ R hR
 unfold Zfa.L3t
 refine Zan (fun hlt=>?_) (fun hge=>?_)
 ·have hlt':g < n:=by omega
  obtain ⟨i,o,hgl,a2,n2,c2,e2,rfl,_,hr,_,_,_,hrow,hn⟩:=(r.same hs).inst (k:=g) (by omega)
  simp only [Zat,Int.toNat_natCast,hr,Zas,Zai,Zar,Zap,Zag]
  have hb:=b.is _ (List.getElem_mem hgl)
  refine ⟨by omega,(Zxm (i:=w.is[g]) hrow (by omega)).mono ?_⟩
  rintro v h1 ⟨a',c',e',rfl,s1,f1,hnn1⟩
  simp only [Zdf,Zai,Zar,Zap,Zag]
  have hol:=Own.lt ho
  have ho1:=s1.get ho hol
  have hlen:=Yln (enc:=eN) Zwb (ys:=ys) (k:=g) (n:=n) (z:=[.str [],.str [],.slice none 0 0 true]) hy hg rfl
  rw [Zbl ho1 (by rw [hlen]; simp; omega)]
  simp only [Zau]
  have hput:=Ylw (enc:=eN) Zwb (ys:=ys) (y:=⟨w.is[g].1.1,w.is[g].1.2,a',n2,c',e'⟩) (k:=g) (n:=n) (z:=[.str [],.str [],.slice none 0 0 true]) hy hlt' rfl
  rw [Nat.zero_add,show ([.str w.is[g].1.1,.str w.is[g].1.2,.slice a' n2 c' e']:List Zal)=eN ⟨w.is[g].1.1,w.is[g].1.2,a',n2,c',e'⟩ from rfl,hput,Zbn (by omega)]
  refine ⟨by omega,hR (g + 1) _ _ (by omega) ⟨rfl,by omega,(hs.cat s1).set' (Nat.le_refl _),ys ++ [⟨w.is[g].1.1,w.is[g].1.2,a',n2,c',e'⟩],by simp [hy],Zck ho1,?_,?_,fun x hx=>by
   rcases List.mem_append.1 hx with hx | hx
   ·exact hnn x hx
   ·rw [List.mem_singleton] at hx; subst hx; exact hnn1⟩⟩
  ·intro k x j hx hj
   by_cases hk:k < g
   ·rw [List.getElem?_append_left (by omega)] at hx
    obtain ⟨p1,p2,p3⟩:=hrep k x j hx hj
    refine ⟨p1,p2,p3.keep (Nat.le_refl _) fun q hq hq2=>?_⟩
    rw [Zbw (by omega)]; exact s1.eq q hq2
   ·have hkl:=(List.getElem?_eq_some_iff.1 hx).1
    simp [hy] at hkl
    have:k=g:=by omega
    subst this
    rw [List.getElem?_append_right (by omega),hy,Nat.sub_self] at hx
    simp at hx
    subst hx
    rw [List.getElem?_eq_getElem hgl] at hj
    cases hj
    exact ⟨rfl,rfl,f1.keep (by omega) fun q hq hq2=>by rw [Zbw (by omega)]⟩
  ·have old:∀ (j:Nat) (x:EI),ys[j]?=some x→x.n≠0→x.a≠a' ∨ n2=0:=by
    intro j x hx hn
    have hjl:=(List.getElem?_eq_some_iff.1 hx).1
    obtain ⟨_,_,_,p3⟩:=hrep j x (w.is[j]'(by omega)) hx (List.getElem?_eq_getElem (by omega))
    rcases p3 with h0 | ⟨q,hq,_,hq2⟩
    ·exact absurd h0 hn
    ·have:=Own.lt hq2
     rcases f1.2 with h0 | ⟨q',hq',hb',_⟩
     ·exact .inr h0
     ·refine .inl ?_
      rw [hq,hq']; intro e; cases e; omega
   intro j k x y hjk hx hy' hxn hyn
   by_cases hj:j < g <;> by_cases hk:k < g
   ·rw [List.getElem?_append_left (by omega)] at hx hy'
    exact hsep j k x y hjk hx hy' hxn hyn
   ·have hkl:=(List.getElem?_eq_some_iff.1 hy').1
    simp [hy] at hkl
    have:k=g:=by omega
    subst this
    rw [List.getElem?_append_right (by omega),hy,Nat.sub_self] at hy'
    simp at hy'
    subst hy'
    rw [List.getElem?_append_left (by omega)] at hx
    rcases old j x hx hxn with h1 | h1
    ·exact h1
    ·exact absurd h1 hyn
   ·have hkl:=(List.getElem?_eq_some_iff.1 hx).1
    simp [hy] at hkl
    have:j=g:=by omega
    subst this
    rw [List.getElem?_append_right (by omega),hy,Nat.sub_self] at hx
    simp at hx
    subst hx
    rw [List.getElem?_append_left (by omega)] at hy'
    rcases old k y hy' hyn with h1 | h1
    ·exact fun e=>h1 e.symm
    ·exact absurd h1 hxn
   ·have h1:=(List.getElem?_eq_some_iff.1 hx).1
    have h2:=(List.getElem?_eq_some_iff.1 hy').1
    simp [hy] at h1 h2
    omega
 ·have:g=n:=by omega
  subst this
  apply Zfa.A3x0i
  simp [reps] at ho
  refine ⟨_,_,_,ys,rfl,Nat.le_refl _,hs,⟨hy,.inr ⟨h.length,rfl,Nat.le_refl _,ho⟩⟩,by omega,fun k x i hx hi=>?_,hsep,hnn⟩
  obtain ⟨p1,p2,p3⟩:=hrep k x i hx hi
  exact ⟨p1,p2,p3.keep (by omega) fun _ _ _=>rfl⟩
theorem Yaa {h:Zaa} {i:Nat} {t:TypeId} {x y v:Zal} (hi:h[i]?=some (.cells t [x,y] false)):Zbe h (.ptr (some (i,0))) [v]=some (h.set i (.cells t [v,y] false)):=by
 rw [Zbl hi (by simp)]; rfl
theorem Zxw {h:Zaa} {i:Nat} {t:TypeId} {x y v:Zal} (hi:h[i]?=some (.cells t [x,y] false)):Zbe h (.ptr (some (i,1))) [v]=some (h.set i (.cells t [x,v] false)):=by
 rw [Zbl hi (by simp)]; rfl
theorem Yfr {h:Zaa} {i:Nat} {t:TypeId} {x y a b:Zal} (hi:h[i]?=some (.cells t [x,y] false)):Zbe h (.ptr (some (i,0))) [a,b]=some (h.set i (.cells t [a,b] false)):=by
 rw [Zbl hi (by simp)]; rfl
theorem Zcg {h:Zaa} {i:Nat} {t:TypeId} {x y:Zal} {ro:Bool} (hi:h[i]?=some (.cells t [x,y] ro)):Zbf h (.ptr (some (i,0))) 2=some [x,y]:=by
 rw [Zer hi (by simp)]; rfl
theorem Zsj {h:Zaa} {a0 a1:Pt} {n0 c0 n1 c1:Nat} {e0 e1:Bool} {w:Wd} (r:Zph h a0 n0 c0 a1 n1 c1 w) (b:WB w) :
  Zae pg Zhi [.agg [.slice a0 n0 c0 e0,.slice a1 n1 c1 e1]] h fun v h'=>∃ b0 d0 f0 b1 d1 f1 ys,v=.agg [.slice b0 n0 d0 f0,.slice b1 n1 d1 f1]∧n0≤d0∧n1≤d1∧Zaz h.length h h'∧Zqx h.length h' b0 n0 b1 n1 ys w:=by
 have hl0:=r.len0
 have hlc:=b.lc
 apply Zpj.call
 simp only [Zaw]
 generalize hh0:h ++ [Zcj.cells Zef [.slice a0 n0 c0 e0,.slice a1 n1 c1 e1] false]=h0
 generalize hh1:h0 ++ [Zcj.cells Zao [.slice none 0 0 true,.slice none 0 0 true] false]=h1
 generalize hh2:h1 ++ [Zcj.cells Zao [.slice none 0 0 true,.slice none 0 0 true] false]=h2
 have s0:Zaz h.length h h0:=by rw [← hh0]; exact Zaq
 have s1:Zaz h0.length h0 h1:=by rw [← hh1]; exact Zaq
 have s2:Zaz h1.length h1 h2:=by rw [← hh2]; exact Zaq
 have l0:h0.length=h.length + 1:=by rw [← hh0]; simp
 have l1:h1.length=h.length + 2:=by rw [← hh1]; simp [l0]
 have l2:h2.length=h.length + 3:=by rw [← hh2]; simp [l1]
 have x0:h0[h.length]?=some (.cells Zef [.slice a0 n0 c0 e0,.slice a1 n1 c1 e1] false):=by rw [← hh0]; simp
 have y1:h1[h0.length]?=some (.cells Zao [.slice none 0 0 true,.slice none 0 0 true] false):=by rw [← hh1]; simp
 have z2:h2[h1.length]?=some (.cells Zao [.slice none 0 0 true,.slice none 0 0 true] false):=by rw [← hh2]; simp
 have x2:=s2.get (s1.get x0 (by omega)) (by omega)
 have y2:=s2.get y1 (by omega)
 have S2:=(s0.cat s1).cat s2
 simp only [Nat.add_zero,Nat.zero_add,Zak x2,List.getElem?_cons_zero,Zag]
 refine (Zzc (r.cls.same' S2) (by omega)).mono ?_
 rintro v h3 ⟨b0,d0,f0,rfl,s3,g3,hd0,hb0⟩
 simp only [Zag]
 have z3:=s3.get z2 (by omega)
 have x3:=s3.get x2 (by omega)
 have y3:=s3.get y2 (by omega)
 have l3:=s3.le
 rw [Yaa z3]
 simp only [Zau]
 have x4:(h3.set h1.length (.cells Zao [.slice b0 n0 d0 f0,.slice none 0 0 true] false))[h.length]?=some (.cells Zef [.slice a0 n0 c0 e0,.slice a1 n1 c1 e1] false):=by rw [Zbw (by omega)]; exact x3
 have y4:(h3.set h1.length (.cells Zao [.slice b0 n0 d0 f0,.slice none 0 0 true] false))[h0.length]?=some (.cells Zao [.slice none 0 0 true,.slice none 0 0 true] false):=by rw [Zbw (by omega)]; exact y3
 have z4:(h3.set h1.length (.cells Zao [.slice b0 n0 d0 f0,.slice none 0 0 true] false))[h1.length]?=some (.cells Zao [.slice b0 n0 d0 f0,.slice none 0 0 true] false):=Zck z3
 have S4:Zaz h.length h (h3.set h1.length (.cells Zao [.slice b0 n0 d0 f0,.slice none 0 0 true] false)):=(S2.cat s3).set' (by omega)
 have g4:Zdk Zbq eP (h.length + 3) (h3.set h1.length (.cells Zao [.slice b0 n0 d0 f0,.slice none 0 0 true] false)) b0 n0 w.cs:=g3.keep (by omega) fun j hj _=>by rw [Zbw (by omega)]
 generalize hh4:h3.set h1.length (.cells Zao [.slice b0 n0 d0 f0,.slice none 0 0 true] false)=h4 at *
 have l4:h4.length=h3.length:=by rw [← hh4]; simp
 simp only [Zak x4,List.getElem?_cons_succ,List.getElem?_cons_zero,Zag]
 refine (Zvu (r.same S4) b).mono ?_
 rintro v h5 ⟨b1,d1,f1,ys,rfl,hd1,s5,g5,hyl,hrep,hsep,hnn⟩
 simp only [Zag]
 have l5:=s5.le
 have y5:=s5.get y4 (by omega)
 have z5:=s5.get z4 (by omega)
 rw [Zxw z5]
 simp only [Zau]
 rw [Zcg (Zck z5)]
 simp only [Zas,Zai,Zar,Zag]
 have y6:(h5.set h1.length (.cells Zao [.slice b0 n0 d0 f0,.slice b1 n1 d1 f1] false))[h0.length]?=some (.cells Zao [.slice none 0 0 true,.slice none 0 0 true] false):=by rw [Zbw (by omega)]; exact y5
 rw [Yfr y6]
 simp only [Zau]
 rw [Zcg (Zck y6)]
 simp only [Zas,Zai,Zar,Zag]
 refine ⟨_,_,_,_,_,_,ys,rfl,hd0,hd1,((S4.cat s5).set' (by omega)).set' (by omega),?_⟩
 have kp:∀ j,h.length + 3≤j→j < h5.length→((h5.set h1.length (.cells Zao [.slice b0 n0 d0 f0,.slice b1 n1 d1 f1] false)).set h0.length (.cells Zao [.slice b0 n0 d0 f0,.slice b1 n1 d1 f1] false))[j]?=h5[j]?:=fun j hj _=>by rw [Zbw (by omega),Zbw (by omega)]
 exact ⟨(g4.same s5).keep (by omega) fun j hj hj2=>kp j hj hj2,g5.keep (by omega) fun j hj hj2=>kp j (by omega) hj2,hyl,fun k x i hx hi=>by
  obtain ⟨p1,p2,p3⟩:=hrep k x i hx hi
  exact ⟨p1,p2,p3.keep (by omega) fun j hj hj2=>kp j (by omega) hj2⟩,hsep,hnn,hb0⟩

theorem Zxj {h:Zaa} {a a':Pt} {n n' c c':Nat} {e e':Bool} {i:Ins} (r:Row h.length h a (n * 2) (Zeu eP i.2)) (r':Row h.length h a' (n' * 2) (Zeu eP i.2)) (hn:n≤1048576) :
  Zae pg Zja [.agg [.str i.1.1,.str i.1.2,.slice a n c e],.agg [.str i.1.1,.str i.1.2,.slice a' n' c' e']] h fun v h'=>v=.bool true∧Zaz h.length h h':=by
 apply Zmd.call
 simp only [Zaw]
 generalize hh0:h ++ [Zcj.cells Zac [.str i.1.1,.str i.1.2,.slice a n c e] false]=h0
 generalize hh1:h0 ++ [Zcj.cells Zac [.str i.1.1,.str i.1.2,.slice a' n' c' e'] false]=h1
 have s0:Zaz h.length h h0:=by rw [← hh0]; exact Zaq
 have s1:Zaz h0.length h0 h1:=by rw [← hh1]; exact Zaq
 have x0:h0[h.length]?=some (.cells Zac [.str i.1.1,.str i.1.2,.slice a n c e] false):=by rw [← hh0]; simp
 have y1:h1[h0.length]?=some (.cells Zac [.str i.1.1,.str i.1.2,.slice a' n' c' e'] false):=by rw [← hh1]; simp
 have x1:=s1.get x0 (Own.lt x0)
 simp only [Nat.add_zero,Nat.zero_add]
 rw [Yiz x1,Yiz y1]
 simp only [Zas,Zai,Zar,Zap]
 refine Yao.mono ?_
 rintro v h2 ⟨rfl,s2⟩
 simp only [Zah,decide_true,Bool.and_self,Bool.not_true,Zax]
 simp only [Zak (s2.get x1 (Own.lt x1)),Zak (s2.get y1 (Own.lt y1)),List.getElem?_cons_succ,List.getElem?_cons_zero,Zag]
 have S2:=(s0.cat s1).cat s2
 refine (Yfc (r.same' S2) (r'.same' S2) (by omega) rfl).mono ?_
 rintro v h3 ⟨rfl,s3⟩
 simp only [Zah,Bool.not_true,Zax]
 exact ⟨by trivial,S2.cat s3⟩
theorem Zvm {h:Zaa} {a a' x x':Pt} {n n' c c' m m' d d':Nat} {e e':Bool} {w:Wd} (r:Zph h x m d a n c w) (r':Zph h x' m' d' a' n' c' w) (b:WB w) :
  Zae pg Zhz [.slice a n c e,.slice a' n' c' e'] h fun v h'=>v=.bool true∧Zaz h.length h h':=by
 have hl:=r.len1
 have hl':=r'.len1
 have hli:=b.li
 have:n'=n:=by omega
 subst this
 apply Zez.call
 simp only [beq_self_eq_true,Bool.not_true,Zax]
 refine Zez.L4ind _ _ _ _ _ _ _ _ _ (J:=fun (k:Nat) x5 h'=>Zaz h.length h h'∧x5=(k:Int)∧k≤n') (fun k=>n' - k) ?_ 0 0 h ⟨Zaz.refl _ _,rfl,by omega⟩
 rintro k x5 h' ⟨hs,rfl,hk⟩ R hR
 unfold Zez.L4t
 refine Zan (fun hlt=>?_) (fun hge=>Zez.A4x0i _ _ ⟨rfl,hs⟩)
 obtain ⟨i,o,hgl,a2,n2,c2,e2,rfl,_,hr,_,_,_,hrow,hn⟩:=(r.same hs).inst (k:=k) (by omega)
 obtain ⟨i',o',hgl',a2',n2',c2',e2',rfl,_,hr',_,_,_,hrow',hn'⟩:=(r'.same hs).inst (k:=k) (by omega)
 have hb:=b.is _ (List.getElem_mem hgl)
 simp only [Zat,Int.toNat_natCast,hr,hr',Zas,Zai,Zar,Zap,Zag,true_and]
 refine ⟨⟨by omega,by omega⟩,⟨by omega,by omega⟩,(Zxj (i:=w.is[k]) hrow hrow' (by omega)).mono ?_⟩
 rintro v h1 ⟨rfl,s1⟩
 simp only [Zah,Bool.not_true,Zax]
 rw [Zbn (by omega)]
 exact hR (k + 1) _ _ (by omega) ⟨hs.cat s1,rfl,by omega⟩
theorem Ygs {h:Zaa} {a0 a1 b0 b1:Pt} {n0 c0 n1 c1 m0 d0 m1 d1:Nat} {e0 e1 f0 f1:Bool} {w:Wd} (r:Zph h a0 n0 c0 a1 n1 c1 w) (r':Zph h b0 m0 d0 b1 m1 d1 w) (b:WB w) :
  Zae pg Zlx [.agg [.slice a0 n0 c0 e0,.slice a1 n1 c1 e1],.agg [.slice b0 m0 d0 f0,.slice b1 m1 d1 f1]] h fun v h'=>v=.bool true∧Zaz h.length h h':=by
 have hl:=r.len0
 have hlc:=b.lc
 apply Zpg.call
 simp only [Zaw]
 generalize hh0:h ++ [Zcj.cells Zao [.slice a0 n0 c0 e0,.slice a1 n1 c1 e1] false]=h0
 generalize hh1:h0 ++ [Zcj.cells Zao [.slice b0 m0 d0 f0,.slice b1 m1 d1 f1] false]=h1
 have s0:Zaz h.length h h0:=by rw [← hh0]; exact Zaq
 have s1:Zaz h0.length h0 h1:=by rw [← hh1]; exact Zaq
 have x0:h0[h.length]?=some (.cells Zao [.slice a0 n0 c0 e0,.slice a1 n1 c1 e1] false):=by rw [← hh0]; simp
 have y1:h1[h0.length]?=some (.cells Zao [.slice b0 m0 d0 f0,.slice b1 m1 d1 f1] false):=by rw [← hh1]; simp
 have x1:=s1.get x0 (Own.lt x0)
 simp only [Nat.add_zero,Nat.zero_add,Zak x1,Zak y1,List.getElem?_cons_zero,Zag]
 have S1:=s0.cat s1
 refine (Zzv (r.cls.same' S1) (r'.cls.same' S1) (by omega) rfl).mono ?_
 rintro v h2 ⟨rfl,s2⟩
 simp only [Zah,Bool.not_true,Zax,Zak (s2.get x1 (Own.lt x1)),Zak (s2.get y1 (Own.lt y1)),List.getElem?_cons_succ,List.getElem?_cons_zero,Zag]
 refine (Zvm (r.same (S1.cat s2)) (r'.same (S1.cat s2)) b).mono ?_
 rintro v h3 ⟨rfl,s3⟩
 simp only [Zah,Bool.not_true,Zax]
 exact ⟨by trivial,(S1.cat s2).cat s3⟩
end Go.Sim

set_option linter.unusedVariables false
set_option linter.unusedSimpArgs false
set_option maxRecDepth 20000
namespace Go.Sim
open Go Go.RowKit

theorem Ty.size_ps (t:Ty):t.size=1 + (t.ps.map Ty.size).sum:=by cases t <;> simp [Ty.size,Ty.ps] <;> omega
theorem Zeg.same {S:Nat→Prop} {h h':Zaa} (s:Zaz h.length h h'):∀ {t:Ty} {v:List Zal},Zeg S h t v→Zeg S h' t v
 | .k d,_,h=>h
 | .u d x,_,⟨j,c,e,r,hv,sj,hj,hr⟩=>⟨j,c,e,r,hv,sj,s.get hj (Own.lt hj),hr.same s⟩
 | .w d x y,_,⟨j,c,e,r,r',hv,sj,hj,hr,hr'⟩=>⟨j,c,e,r,r',hv,sj,s.get hj (Own.lt hj),hr.same s,hr'.same s⟩
end Go.Sim

set_option linter.unusedVariables false
set_option linter.unusedSimpArgs false
set_option maxRecDepth 20000
namespace Go.Sim
open Go Go.RowKit

theorem Vec.lt' {ty:TypeId} {h:Zaa} {a:Pt} {i n c:Nat} {cs:List Zal} (x:Vec ty h a n c cs) (e:a=some (i,0)):i < h.length:=by subst e; exact x.lt
theorem Zpe.keep {S:Nat→Prop} {h h':Zaa} (hh:∀ j,S j→j < h.length→h'[j]?=h[j]?):∀ {t:Ty} {p:Pt},Zpe S h t p→Zpe S h' t p
 | .k d,p,⟨i,a,c,e,hp,si,hi⟩=>⟨i,a,c,e,hp,si,by rw [hh i si (Own.lt hi)]; exact hi⟩
 | .u d x,p,⟨i,j,c,e,q,hp,si,hi,sj,hj,hq⟩=>⟨i,j,c,e,q,hp,si,by rw [hh i si (Own.lt hi)]; exact hi,sj,by rw [hh j sj (Own.lt hj)]; exact hj,hq.keep hh⟩
 | .w d x y,p,⟨i,j,c,e,q,r,hp,si,hi,sj,hj,hq,hr⟩=>⟨i,j,c,e,q,r,hp,si,by rw [hh i si (Own.lt hi)]; exact hi,sj,by rw [hh j sj (Own.lt hj)]; exact hj,hq.keep hh,hr.keep hh⟩
theorem Zpe.same {S:Nat→Prop} {h h':Zaa} {t:Ty} {p:Pt} (r:Zpe S h t p) (s:Zaz h.length h h'):Zpe S h' t p:=r.keep fun j _ hj=>s.eq j hj
theorem Zeg.keep {S:Nat→Prop} {h h':Zaa} (hh:∀ j,S j→j < h.length→h'[j]?=h[j]?):∀ {t:Ty} {v:List Zal},Zeg S h t v→Zeg S h' t v
 | .k d,_,h=>h
 | .u d x,_,⟨j,c,e,r,hv,sj,hj,hr⟩=>⟨j,c,e,r,hv,sj,by rw [hh j sj (Own.lt hj)]; exact hj,hr.keep hh⟩
 | .w d x y,_,⟨j,c,e,r,r',hv,sj,hj,hr,hr'⟩=>⟨j,c,e,r,r',hv,sj,by rw [hh j sj (Own.lt hj)]; exact hj,hr.keep hh,hr'.keep hh⟩
theorem Ty.txt_inter (t:Ty) (h:t.ps≠[]):t.txt=([t.hd] ++ [40]) ++ [44].intercalate (t.ps.map Ty.txt) ++ [41]:=by
 cases t with
 | k c=>simp [Ty.ps] at h
 | u c a=>simp [Ty.ps,Ty.txt,Ty.hd,List.intercalate]
 | w c a b=>simp [Ty.ps,Ty.txt,Ty.hd,List.intercalate]
theorem Ty.size_part {t x:Ty} (h:x∈t.ps):x.size < t.size:=by
 cases t with
 | k c=>simp [Ty.ps] at h
 | u c a=>simp [Ty.ps] at h; subst h; simp [Ty.size]
 | w c a b=>simp [Ty.ps] at h; rcases h with rfl | rfl <;> simp [Ty.size] <;> omega
theorem Ty.len_part {t x:Ty} (h:x∈t.ps):x.txt.length < t.txt.length:=by
 cases t with
 | k c=>simp [Ty.ps] at h
 | u c a=>simp [Ty.ps] at h; subst h; simp [Ty.txt]; omega
 | w c a b=>simp [Ty.ps] at h; rcases h with rfl | rfl <;> simp [Ty.txt] <;> omega
theorem Yhg:∀ (N:Nat) {S:Nat→Prop} {h:Zaa} {t:Ty} {p:Pt},t.size≤N→t.txt.length≤1048576→Zpe S h t p→Zae pg Zhp [.ptr p] h fun x h'=>x=.str t.txt∧Zaz h.length h h'
 | 0,S,h,t,p,hN,_,_=>by have:=t.size_ps; omega
 | N + 1,S,h,t,p,hN,hB,r=>by
  obtain ⟨i,a,c,e,qs,rfl,si,hi,hrow,hS,hql,hq⟩:=r.parts
  have hps2:t.ps.length≤2:=by cases t <;> simp [Ty.ps]
  apply Zfy.call
  simp only [Zat,Zak hi,Nat.zero_add,List.getElem?_cons_succ,List.getElem?_cons_zero,Zag,Zap]
  refine Zej (fun hz0=>?_) (fun hz0=>?_)
  ·have:t.ps.length=0:=by omega
   refine ⟨?_,Zaz.refl _ _⟩
   cases t <;> simp [Ty.ps] at this
   rfl
  ·simp only [Zaw]
   generalize hh0:h ++ [Zcj.cells Zdb [] false]=h0
   have s0:Zaz h.length h h0:=by rw [← hh0]; exact Zaq
   have i0:=s0.get hi (Own.lt hi)
   have l0:h0.length=h.length + 1:=by rw [← hh0]; simp
   have v0:h0[h.length]?=some (.cells Zdb [] false):=by rw [← hh0]; simp
   simp only [Zak i0,List.getElem?_cons_succ,List.getElem?_cons_zero,Zag]
   refine Zfy.L5ind _ _ _ _ _ _ _ (J:=fun (g:Nat) a3 n3 c3 e3 x22 h'=>x22=(g:Int)∧g≤t.ps.length∧Zaz h.length h h'∧n3=g∧Vec Zdb h' a3 n3 c3 (strs ((t.ps.take g).map Ty.txt))∧(∀ i,a3=some (i,0)→h.length≤i)) (fun g=>t.ps.length - g) ?_ 0 _ _ _ _ _ _
    ⟨rfl,by omega,s0,rfl,Vec.mk1 (by simpa using v0),fun i hi=>by cases hi; omega⟩
   rintro g a3 n3 c3 e3 x22 h' ⟨rfl,hg,hSm,rfl,hv,ha⟩ R hR
   unfold Zfy.L5t
   have i1:=hSm.get hi (Own.lt hi)
   refine Zan (fun hlt=>?_) (fun hge=>?_)
   ·have hg':n3 < t.ps.length:=by omega
    obtain ⟨j,o,rfl,hj,hc⟩:=(hrow.same hSm).at hg'
    have hqg:n3 < qs.length:=by omega
    rw [List.getElem?_map,List.getElem?_eq_getElem hqg] at hc
    simp only [Zat,Int.toNat_natCast,Nat.mul_one,hc,Option.map_some,Zda]
    have hk:=hq n3 qs[n3] t.ps[n3] (List.getElem?_eq_getElem hqg) (List.getElem?_eq_getElem hg')
    have hm:=List.getElem_mem hg'
    have h1:=Ty.size_part hm
    have h2:=Ty.len_part hm
    refine ⟨by omega,(Yhg N (by omega) (by omega) (hk.same hSm)).mono ?_⟩
    rintro x h2 ⟨rfl,s2⟩
    simp only [Zap,Zaw]
    refine (hv.same s2).push Zvi Zzr Zyv Yai (by simp; omega) rfl (by omega) (fun h4 hl4 hi4 hk4=>?_)
    simp only [Zag]
    rw [Zbn (by omega)]
    have S2:=hSm.cat s2
    have hle:=S2.le
    refine hR (n3 + 1) _ _ _ _ _ _ (by omega) ⟨rfl,by omega,⟨by omega,fun j hj=>?_⟩,rfl,Vec.mk1 ?_,fun i hi=>by cases hi; omega⟩
    ·rw [hk4 j (by omega) fun i hi=>by have:=ha i hi; omega]; exact S2.eq j hj
    ·rw [hi4,List.take_succ_eq_append_getElem hg',List.map_append,Ycr]; rfl
   ·apply Zfy.A5x0i
    have:n3=t.ps.length:=by omega
    subst this
    rw [List.take_length] at hv
    have hne:t.ps≠[]:=fun e=>hz0 (by rw [e]; rfl)
    have htx:=t.txt_inter hne
    have hln:=congrArg List.length htx
    simp at hln
    simp only [Zat,Zak i1,Nat.zero_add,List.getElem?_cons_zero,Zap]
    refine ⟨by simp,?_⟩
    refine (Ykp (hv.row (by simp)) (by omega) (by omega)).mono ?_
    rintro v h3 ⟨rfl,rfl⟩
    simp only [Zap]
    refine ⟨Zak i1,by simp; omega,by simp; omega,?_⟩
    exact ⟨by rw [htx],hSm⟩
theorem Zeg.get {S:Nat→Prop} {h:Zaa} {t:Ty} {a:Pt} {vs:List (List Zal)} (hrow:Row h.length h a (t.ps.length * 2) vs.flatten) (hvl:vs.length=t.ps.length) (hp:∀ (k:Nat) (w:List Zal) (x:Ty),vs[k]?=some w→t.ps[k]?=some x→Zeg S h x w) {g:Nat} (hg':g < t.ps.length) :
  ∃ i o a2 c2 e2,a=some (i,o)∧Zbf h (.ptr (some (i,o + g * 2))) 2=some [.int .u8 (t.ps[g].hd:Int),.slice a2 t.ps[g].ps.length c2 e2]∧Zeg S h t.ps[g] [.int .u8 (t.ps[g].hd:Int),.slice a2 t.ps[g].ps.length c2 e2]:=by
 have hgv:g < vs.length:=by omega
 have hk:=hp g vs[g] t.ps[g] (List.getElem?_eq_getElem hgv) (List.getElem?_eq_getElem hg')
 have hz:∀ v∈vs,v.length=2:=fun v hv=>by
  obtain ⟨k,hk,rfl⟩:=List.mem_iff_getElem.1 hv
  exact (hp k vs[k] (t.ps[k]'(by omega)) (List.getElem?_eq_getElem hk) (List.getElem?_eq_getElem (by omega))).len
 have hfl:vs.flatten=Zeu (fun (v:{v:List Zal // v.length=2})=>v.1) (vs.attach.map fun v=>⟨v.1,hz v.1 v.2⟩):=by
  unfold Zeu; rw [List.flatMap_map]; simp
 rw [hfl] at hrow
 obtain ⟨i,o,hk',ha,_,hr,_⟩:=Row.el (enc:=fun (v:{v:List Zal // v.length=2})=>v.1) (fun x=>x.2) hrow (by simp [hvl]) (k:=g) hg' (by omega)
 obtain ⟨a2,c2,e2,hv2⟩:=hk.shape
 rw [hv2] at hk
 exact ⟨i,o,a2,c2,e2,ha,by rw [hr]; simp [hv2],hk⟩
theorem Yil {g:Nat} (hg:g < 2):sub [40,44] (g:Int) ((g:Int) + 1)=[Zod g]:=by
 rcases g with _ | _ | g
 ·rfl
 ·rfl
 ·omega
theorem Ty.hd_lt (t:Ty) (h:t.ok=true):t.hd < 256:=by
 have:=Ty.ok_ar h
 unfold arN Zfi Zbc at this
 simp only [Bool.or_eq_true,beq_iff_eq] at this
 split at this
 ·omega
 ·split at this
  ·omega
  ·split at this
   ·omega
   ·omega
def Zmf:Nat→List Ty→List Nat
 | _,[]=>[]
 | g,x :: l=>Zod g :: (x.txt ++ Zmf (g + 1) l)
theorem Zrt:∀ (l:List Ty) (g k:Nat) (h:k < l.length),Zmf g (l.take (k + 1))=Zmf g (l.take k) ++ Zod (g + k) :: l[k].txt
 | x :: l,g,0,_=>by simp [Zmf]
 | x :: l,g,k + 1,h=>by
  have:=Zrt l (g + 1) k (by simpa using h)
  simp only [List.take_succ_cons,Zmf,this,List.getElem_cons_succ,List.cons_append,List.append_assoc]
  rw [show g + 1 + k=g + (k + 1) by omega]
theorem Zuq:∀ (l:List Ty) (g k:Nat),(Zmf g (l.take k)).length≤(Zmf g l).length
 | [],g,k=>by simp [Zmf]
 | x :: l,g,0=>by simp [Zmf]
 | x :: l,g,k + 1=>by
  have:=Zuq l (g + 1) k
  simp only [List.take_succ_cons,Zmf,List.length_cons,List.length_append]; omega
theorem Ty.txt_mids (t:Ty):t.txt=t.hd :: Zmf 0 t.ps ++ (if t.ps=[] then [] else [41]):=by
 cases t <;> simp [Ty.ps,Ty.txt,Ty.hd,Zmf,Zod]
theorem Zre:∀ (N:Nat) {S:Nat→Prop} {h:Zaa} {t:Ty} {v:List Zal},t.size≤N→t.txt.length≤1048576→t.ok=true→Zeg S h t v→Zae pg Zgr [.agg v] h fun x h'=>x=.str t.txt∧Zaz h.length h h'
 | 0,S,h,t,v,hN,_,_,_=>by have:=t.size_ps; omega
 | N + 1,S,h,t,v,hN,hB,hok,r=>by
  obtain ⟨a,c,e,vs,rfl,hrow,hS,hvl,hp⟩:=r.parts
  have hps2:t.ps.length≤2:=by cases t <;> simp [Ty.ps]
  have htx:=t.txt_mids
  have hln:=congrArg List.length htx
  rw [List.length_append,List.length_cons] at hln
  apply Zfp.call
  simp only [Zaw,Zff,Nat.zero_add,List.getElem?_cons_succ,List.getElem?_cons_zero,Zag,Zam]
  generalize hh0:h ++ [Zcj.cells Zab [.int .u8 (t.hd:Int),.slice a t.ps.length c e] false]=h0
  have s0:Zaz h.length h h0:=by rw [← hh0]; exact Zaq
  have o0:h0[h.length]?=some (.cells Zab [.int .u8 (t.hd:Int),.slice a t.ps.length c e] false):=by rw [← hh0]; simp
  generalize hh1:h0 ++ [Zcj.cells Yjt [.int .u8 (t.hd:Int)] false]=h1
  have s1:Zaz h0.length h0 h1:=by rw [← hh1]; exact Zaq
  have o1:=s1.get o0 (Own.lt o0)
  have hro:rowOf h1 (some (h0.length,0)) 1=some [.int .u8 (t.hd:Int)]:=by rw [← hh1]; simp [rowOf,Zbf]
  rw [hro]
  simp only [Zas,Zob,chk,decide_true]
  rw [show ((t.hd:Int)).toNat=t.hd from Int.toNat_natCast _]
  refine ⟨⟨by omega,by have:=t.hd_lt hok; omega⟩,?_⟩
  simp only [Zak o1,List.getElem?_cons_succ,List.getElem?_cons_zero,Zag]
  refine Zfp.L3ind _ _ _ _ _ _ _ _ (J:=fun (g:Nat) x3 x13 h'=>x13=(g:Int)∧g≤t.ps.length∧Zaz h.length h h'∧Zaz h1.length h1 h'∧x3=t.hd :: Zmf 0 (t.ps.take g)) (fun g=>t.ps.length - g) ?_ 0 _ _ _ ⟨rfl,by omega,s0.cat s1,Zaz.refl _ _,by simp [Zmf]⟩
  rintro g x3 x13 h' ⟨rfl,hg,hSm,hS1,rfl⟩ R hR
  unfold Zfp.L3t
  have o2:=hS1.get o1 (Own.lt o1)
  refine Zan (fun hlt=>?_) (fun hge=>?_)
  ·have hg':g < t.ps.length:=by omega
   obtain ⟨i,o,a2,c2,e2,rfl,hr,hk⟩:=Zeg.get (hrow.same' hSm) hvl (fun k w x h1 h2=>(hp k w x h1 h2).same hSm) hg'
   simp only [Zat,Int.toNat_natCast,hr,Zas,Zai,Zar,Zam,Zag,Zaw]
   rw [Zin]
   simp only [Zau]
   rw [Ygb]
   simp only [Zas,Zai,Zar,Zam,Zag]
   rw [Zbn (by omega),show (((g + 1:Nat):Int))=(g:Int) + 1 by omega,Yil (by omega)]
   have hm:=List.getElem_mem hg'
   have h1:=Ty.size_part hm
   have h2:=Ty.len_part hm
   have hmt:=Zrt t.ps 0 g hg'
   have hml:(Zmf 0 (t.ps.take (g + 1))).length≤(Zmf 0 t.ps).length:=Zuq _ _ _
   have hmtl:=congrArg List.length hmt
   simp only [List.length_append,List.length_cons,Nat.zero_add] at hmtl
   have s2:Zaz h'.length h' (h' ++ [.cells Zab [.int .u8 (t.ps[g].hd:Int),.slice a2 t.ps[g].ps.length c2 e2] false]):=Zaq
   refine ⟨by omega,⟨by omega,by omega,by simp; omega⟩,by simp; omega,(Zre N (by omega) (by omega) (Ty.ok_ps hok _ hm) (hk.same s2)).mono ?_⟩
   rintro x h3 ⟨rfl,s3⟩
   simp only [Zap]
   refine ⟨by simp; omega,?_⟩
   exact hR (g + 1) _ _ _ (by omega) ⟨by omega,by omega,(hSm.cat s2).cat s3,(hS1.cat s2).cat s3,by rw [hmt,Nat.zero_add]; simp⟩
  ·apply Zfp.A3x0i
   have:g=t.ps.length:=by omega
   subst this
   simp only [Zak o2,Nat.zero_add,List.getElem?_cons_succ,List.getElem?_cons_zero,Zag]
   rw [List.take_length]
   refine Zan (fun hpos=>?_) (fun hneg=>?_)
   ·have hne:t.ps≠[]:=fun e=>by rw [e] at hpos; simp at hpos
    rw [if_neg hne] at htx hln
    refine ⟨by simp; simp at hln; omega,?_⟩
    apply Zfp.J9i
    exact ⟨by rw [htx],hSm⟩
   ·have hne:t.ps=[]:=List.eq_nil_of_length_eq_zero (by omega)
    rw [if_pos hne,List.append_nil] at htx
    apply Zfp.J9i
    exact ⟨by rw [htx],hSm⟩
end Go.Sim

set_option linter.unusedVariables false
namespace Go.Sim
open Go Go.RowKit Go.Maps Go.Sort Go.Shelf Go.Proofs
theorem Ykm (m:Nat):AnyZ.SortsIn Tryz.prog Tryz.sorted76_ren Fence.wide m:=
 ⟨fun blk off cap ss W hH hblk hsz=>callsIn_wide.2 (Tryz.slices_Sort_string blk off cap ss W hH hblk hsz),fun p cap W=>callsIn_wide.2 (Tryz.slices_Sort_string_none p cap W)⟩
theorem Ykh {h:Zaa} {m:Option Nat}:Zae pg Zdt [.map m] h fun v h'=>v=.fn Zdh [.ptr (some (h.length,0))]∧h'=h ++ [.cells Zft [.map m] false]:=
 Zae.keys ⟨_,Tryz.func77,by kernel_rfl,by kernel_rfl⟩ (fun mb W=>callsIn_wide.1 (AnyZ.keys_in Tryz.keys77 Fence.wide 5 trivial rfl mb W))
set_option maxHeartbeats 1000000 in
theorem Zvk {h:Zaa} {i m:Nat} {es:List ME} {clk:Nat} (hi:h[i]?=some (.cells Zft [.map (some m)] false)) (hm:h[m]?=some (.map es clk)) {vs:List Nat} (hks:es.map (·.1)=vs.map fun v=>.str [v]) (nd:vs.Nodup) (born:(es.map (·.2.2)).Nodup) (lt:∀ e∈es,e.2.2 < clk) (hl:es.length≤1048576) :
  Zae pg Zil [.fn Zdh [.ptr (some (i,0))]] h fun v h'=>∃ us:List Nat,us.Perm vs∧us.Pairwise (·≤·)∧((us=[]∧v=.slice none 0 0 true∧h'=h) ∨ (∃ c,v=.slice (some (h.length,0)) us.length c false∧us.length≤c∧h'=h ++ [.cells Zdb (us.map fun v=>.str [v]) false])):=
 Zae.sortedKeys (M:=Zft) (K:=Zdb) Tryz.underlying9 (by kernel_rfl) ⟨_,Tryz.func76,by kernel_rfl,by kernel_rfl⟩
  (fun Bm b nn D0 R w hown hBm hcell hmax hbytes=>callsIn_wide.1 (by
   have hseq:SeqGives Fence.wide 2 Tryz.prog 122 #[.pointer (some ⟨Bm,0,none⟩)] encStr (fun ss=>ss.Perm (strKeys D0)) (Maps.size D0) w:=
    AnyZ.keys_gives (ρ:=Tryz.keys77_ren) { Tryz.keys77 with } Fence.wide _ trivial rfl (by omega) Bm b nn D0 w hBm hcell hown
   exact AnyZ.sorted_in Tryz.sorted76 Fence.wide 5 trivial trivial trivial trivial rfl (by omega) (Ykm _) (enters_of Tryz.func121 (by kernel_rfl) rfl) 122 #[.pointer (some ⟨Bm,0,none⟩)] trivial (enters_of Tryz.func122 (by kernel_rfl) rfl) _ _ hmax hbytes _ hseq))
  hi hm hks nd born lt hl
end Go.Sim

set_option linter.unusedSimpArgs false
set_option linter.unusedVariables false
namespace Go.Sim

abbrev Bd:=List (Nat × Ty)
def Zkb:Bd→Nat→Option Ty
 | [],_=>none
 | (v,t) :: m,x=>if v=x then some t else Zkb m x
def Zmx (m:Bd) (v:Nat) (t:Ty):Option Bd:=match Zkb m v with | some t'=>if t'=t then some m else none | none=>some (m ++ [(v,t)])
def matchT:Bd→Ty→Ty→Option Bd
 | m,.k c,t=>if Zbc c then Zmx m c t else if c=t.hd then some m else none
 | m,.u c a,t=>if c=t.hd then (match t.ps with | [x]=>matchT m a x | _=>none) else none
 | m,.w c a b,t=>if c=t.hd then (match t.ps with | [x,y]=>(match matchT m a x with | some m1=>matchT m1 b y | none=>none) | _=>none) else none
def matchL:Bd→List Ty→List Ty→Option Bd
 | m,[],_=>some m
 | m,a :: xs,[]=>none
 | m,a :: xs,t :: ys=>match matchT m a t with | some m1=>matchL m1 xs ys | none=>none
theorem Yap {a:Ty} (h:a.ok=true) (hv:Zbc a.hd=true):a=.k a.hd:=by
 cases a with
 | k c=>rfl
 | u c a=>simp only [Ty.ok,Bool.and_eq_true,Bool.or_eq_true,beq_iff_eq] at h; rcases h.1 with rfl | rfl <;> simp [Ty.hd,Zbc] at hv
 | w c a b=>simp only [Ty.ok,Bool.and_eq_true,beq_iff_eq] at h; rcases h.1.1 with rfl; simp [Ty.hd,Zbc] at hv
theorem Yeu {a t:Ty} (ha:a.ok=true) (ht:t.ok=true) (h:a.hd=t.hd):a.ps.length=t.ps.length:=by
 have h1:=Ty.ok_ar ha; have h2:=Ty.ok_ar ht
 rw [h,h2] at h1; omega
theorem Zyz {m:Bd} {a t:Ty} (ha:a.ok=true) (ht:t.ok=true) :
  matchT m a t=if Zbc a.hd then Zmx m a.hd t else if a.hd=t.hd then matchL m a.ps t.ps else none:=by
 cases a with
 | k c=>
  show matchT m (.k c) t=if Zbc c then Zmx m c t else if c=t.hd then matchL m [] t.ps else none
  rw [matchT,matchL]
 | u c a=>
  have hnv:Zbc c=false:=by
   cases h:Zbc c with
   | false=>rfl
   | true=>have:=Yap ha h; cases this
  show matchT m (.u c a) t=if Zbc c then Zmx m c t else if c=t.hd then matchL m [a] t.ps else none
  rw [matchT,hnv,if_neg (show ¬ (false=true) by decide)]
  by_cases h:c=t.hd
  ·have hl:1=t.ps.length:=Yeu ha ht h
   rw [if_pos h,if_pos h]
   match t.ps,hl with
   | [x],_=>simp only [matchL]; cases matchT m a x <;> rfl
  ·rw [if_neg h,if_neg h]
 | w c a b=>
  have hnv:Zbc c=false:=by
   cases h:Zbc c with
   | false=>rfl
   | true=>have:=Yap ha h; cases this
  show matchT m (.w c a b) t=if Zbc c then Zmx m c t else if c=t.hd then matchL m [a,b] t.ps else none
  rw [matchT,hnv,if_neg (show ¬ (false=true) by decide)]
  by_cases h:c=t.hd
  ·have hl:2=t.ps.length:=Yeu ha ht h
   rw [if_pos h,if_pos h]
   match t.ps,hl with
   | [x,y],_=>
    simp only [matchL]
    cases matchT m a x with
    | none=>rfl
    | some m1=>simp only []; cases matchT m1 b y <;> rfl
  ·rw [if_neg h,if_neg h]
theorem Zqd:∀ (xs ys:List Ty) (m:Bd) (g:Nat) (h1:g < xs.length) (h2:g < ys.length),matchL m (xs.take (g + 1)) (ys.take (g + 1))=match matchL m (xs.take g) (ys.take g) with | some m1=>matchT m1 xs[g] ys[g] | none=>none
 | a :: xs,t :: ys,m,0,_,_=>by
  simp only [List.take_succ_cons,List.take_zero,matchL,List.getElem_cons_zero]
  cases matchT m a t <;> rfl
 | a :: xs,t :: ys,m,g + 1,h1,h2=>by
  simp only [List.length_cons,Nat.add_lt_add_iff_right] at h1 h2
  simp only [List.take_succ_cons,matchL,List.getElem_cons_succ]
  cases hm:matchT m a t with
  | none=>rfl
  | some m1=>
   have:=Zqd xs ys m1 g h1 h2
   simpa only [List.take_succ_cons] using this
theorem Zqo:∀ (xs ys:List Ty) (m:Bd) (g:Nat),xs.length=ys.length→matchL m (xs.take g) (ys.take g)=none→matchL m xs ys=none
 | [],_,m,g,_,h=>by simp [matchL] at h
 | a :: xs,[],m,g,hl,h=>by simp at hl
 | a :: xs,t :: ys,m,0,_,h=>by simp [matchL] at h
 | a :: xs,t :: ys,m,g + 1,hl,h=>by
  simp only [List.take_succ_cons,matchL] at h ⊢
  cases hm:matchT m a t with
  | none=>rfl
  | some m1=>
   rw [hm] at h
   exact Zqo xs ys m1 g (by simpa using hl) h

structure BOk (n:Nat) (m:Bd):Prop where
 var:∀ p∈m,Zbc p.1=true∧p.2.ok=true∧p.2.txt.length≤n
 nd:(m.map (·.1)).Nodup
theorem Zqw:∀ {m:Bd} {v:Nat} {t:Ty},Zkb m v=some t→(v,t)∈m
 | (w,u) :: m,v,t,h=>by
  simp only [Zkb] at h
  split at h
  ·rename_i e; cases h; subst e; simp
  ·exact List.mem_cons_of_mem _ (Zqw h)
theorem Zve:∀ {m:Bd} {v:Nat},Zkb m v=none ↔ v ∉ m.map (·.1)
 | [],v=>by simp [Zkb]
 | (w,u) :: m,v=>by
  simp only [Zkb]
  by_cases e:w=v
  ·simp [e]
  ·simp only [e,if_false,Zve (m:=m),List.map_cons,List.mem_cons,not_or]
   exact ⟨fun h=>⟨fun e'=>e e'.symm,h⟩,fun h=>h.2⟩
theorem Ycx {m:Bd} {v:Nat}:(Zkb m v).isSome=true ↔ v∈m.map (·.1):=by
 cases h:Zkb m v with
 | none=>simp [Zve.1 h]
 | some t=>simp only [Option.isSome_some,true_iff]; exact List.mem_map.2 ⟨_,Zqw h,rfl⟩
theorem Ydm {m:Bd} {v x:Nat} {t:Ty}:Zkb (m ++ [(v,t)]) x=match Zkb m x with | some u=>some u | none=>if v=x then some t else none:=by
 induction m with
 | nil=>simp [Zkb]
 | cons p m ih=>
  obtain ⟨w,u⟩:=p
  simp only [List.cons_append,Zkb,ih]
  split <;> rfl
theorem BOk.nil {n:Nat}:BOk n []:=⟨by simp,by simp⟩
theorem BOk.note {n:Nat} {m m':Bd} {v:Nat} {t:Ty} (b:BOk n m) (hv:Zbc v=true) (ht:t.ok=true) (hn:t.txt.length≤n) (h:Zmx m v t=some m'):BOk n m':=by
 unfold Zmx at h
 split at h
 ·split at h
  ·cases h; exact b
  ·cases h
 ·rename_i hg
  cases h
  refine ⟨?_,?_⟩
  ·intro p hp
   rcases List.mem_append.1 hp with hp | hp
   ·exact b.var p hp
   ·simp at hp; subst hp; exact ⟨hv,ht,hn⟩
  ·rw [List.map_append,List.nodup_append]
   refine ⟨b.nd,by simp,?_⟩
   intro x hx y hy e
   simp at hy; subst hy; subst e
   exact Zve.1 hg hx
theorem Zxf {t x:Ty} (h:x∈t.ps):x.txt.length≤t.txt.length:=by
 cases t with
 | k c=>simp [Ty.ps] at h
 | u c a=>simp [Ty.ps] at h; subst h; simp [Ty.txt]; omega
 | w c a b=>simp [Ty.ps] at h; rcases h with rfl | rfl <;> simp [Ty.txt] <;> omega
theorem BOk.matchT {n:Nat}:∀ {a t:Ty} {m m':Bd},a.ok=true→t.ok=true→t.txt.length≤n→BOk n m→Go.Sim.matchT m a t=some m'→BOk n m'
 | .k c,t,m,m',ha,ht,hn,b,h=>by
  simp only [Go.Sim.matchT] at h
  split at h
  ·rename_i hv; exact b.note hv ht hn h
  ·split at h
   ·cases h; exact b
   ·cases h
 | .u c a,t,m,m',ha,ht,hn,b,h=>by
  simp only [Ty.ok,Bool.and_eq_true] at ha
  simp only [Go.Sim.matchT] at h
  split at h
  ·split at h
   ·rename_i x hx
    have hm:x∈t.ps:=by rw [hx]; simp
    exact BOk.matchT ha.2 (Ty.ok_ps ht x hm) (Nat.le_trans (Zxf hm) hn) b h
   ·cases h
  ·cases h
 | .w c a a2,t,m,m',ha,ht,hn,b,h=>by
  simp only [Ty.ok,Bool.and_eq_true] at ha
  simp only [Go.Sim.matchT] at h
  split at h
  ·split at h
   ·rename_i x y hx
    have hm:x∈t.ps:=by rw [hx]; simp
    have hm2:y∈t.ps:=by rw [hx]; simp
    split at h
    ·rename_i m1 h1
     exact BOk.matchT ha.2 (Ty.ok_ps ht y hm2) (Nat.le_trans (Zxf hm2) hn) (BOk.matchT ha.1.2 (Ty.ok_ps ht x hm) (Nat.le_trans (Zxf hm) hn) b h1) h
    ·cases h
   ·cases h
  ·cases h
theorem BOk.matchL {n:Nat}:∀ {xs ys:List Ty} {m m':Bd},(∀ a∈xs,a.ok=true)→(∀ t∈ys,t.ok=true∧t.txt.length≤n)→BOk n m→Go.Sim.matchL m xs ys=some m'→BOk n m'
 | [],_,m,m',_,_,b,h=>by simp [Go.Sim.matchL] at h; subst h; exact b
 | a :: xs,[],m,m',_,_,b,h=>by simp [Go.Sim.matchL] at h
 | a :: xs,t :: ys,m,m',ha,ht,b,h=>by
  simp only [Go.Sim.matchL] at h
  split at h
  ·rename_i m1 h1
   exact BOk.matchL (fun a h=>ha a (by simp [h])) (fun t h=>ht t (by simp [h])) (BOk.matchT (ha a (by simp)) (ht t (by simp)).1 (ht t (by simp)).2 b h1) h
  ·cases h
def bdL (m:Bd):List Nd:=Zel.filterMap fun v=>(Zkb m v).map fun t=>([v],t.txt)
noncomputable def Zkr (p s:List Nat):Option Bd:=match Zhv p,Zhv s with | some a,some b=>matchT [] a b | _,_=>none
noncomputable def Zvp (p s:List Nat):Bool:=(Zkr p s).isSome
noncomputable def Zwq (p s:List Nat):List Nd:=match Zkr p s with | some m=>bdL m | none=>[]
theorem Yar {p s:List Nat} {m:Bd} (h:Zkr p s=some m):BOk 60 m:=by
 unfold Zkr at h
 split at h
 ·rename_i a b ha hb
  obtain ⟨h1,_,_⟩:=Zep.1 ha
  obtain ⟨h2,h3,h4⟩:=Zep.1 hb
  exact BOk.matchT h1 h2 (by rw [← h3]; exact h4) BOk.nil h
 ·cases h
theorem Zpz:Zel.Nodup:=by decide
theorem Ybb:Zel.Pairwise (· < ·):=by decide
theorem Yps (m:Bd):bdL m=(Zel.filter fun v=>(Zkb m v).isSome).map fun v=>([v],((Zkb m v).getD default).txt):=by
 unfold bdL
 induction Zel with
 | nil=>rfl
 | cons v l ih=>
  simp only [List.filterMap_cons,List.filter_cons]
  cases h:Zkb m v with
  | none=>simpa [h] using ih
  | some t=>simp [h,ih]
theorem Ybj {n:Nat} {m:Bd} (b:BOk n m) {ks:List Nat} (hp:ks.Perm (m.map (·.1))) (hs:ks.Pairwise (·≤·)):ks=Zel.filter fun v=>(Zkb m v).isSome:=by
 have hnd:ks.Nodup:=hp.nodup_iff.2 b.nd
 have h1:ks.Pairwise (· < ·):=by
  have:=List.pairwise_and_iff.2 ⟨hs,hnd⟩
  exact this.imp fun h=>by have:=h.1; have:=h.2; omega
 have h2:(Zel.filter fun v=>(Zkb m v).isSome).Pairwise (· < ·):=Ybb.filter _
 have hp2:ks.Perm (Zel.filter fun v=>(Zkb m v).isSome):=by
  rw [List.perm_ext_iff_of_nodup hnd (Zpz.filter _)]
  intro v
  rw [hp.mem_iff,List.mem_filter,Ycx]
  constructor
  ·intro hv
   obtain ⟨p,hp,rfl⟩:=List.mem_map.1 hv
   exact ⟨(Zux _).2 (b.var p hp).1,hv⟩
  ·exact fun h=>h.2
 exact hp2.eq_of_pairwise (fun a b _ _ h1 h2=>by omega) h1 h2
end Go.Sim

set_option linter.unusedVariables false
set_option linter.unusedSimpArgs false
set_option maxRecDepth 20000
namespace Go.Sim
open Go Go.RowKit

def Yjh (h:Zaa) (i:Nat) (m:Bd):Prop:=∃ es clk,h[i]?=some (.map es clk)∧es.map (·.1)=m.map (fun p=>Zal.str [p.1])∧es.map (·.2.1)=m.map (fun p=>Zal.str p.2.txt)∧(es.map (·.2.2)).Nodup∧∀ e∈es,e.2.2 < clk
theorem Yjh.eq {h h':Zaa} {i:Nat} {m:Bd} (r:Yjh h i m) (he:h'[i]?=h[i]?):Yjh h' i m:=by
 obtain ⟨es,clk,h1,x⟩:=r
 exact ⟨es,clk,by rw [he]; exact h1,x⟩
theorem Yjh.lt {h:Zaa} {i:Nat} {m:Bd} (r:Yjh h i m):i < h.length:=by obtain ⟨es,clk,h1,_⟩:=r; exact Own.lt h1
theorem Zov:∀ {es:List ME} {m:Bd} {v k:Nat} {t:Ty},es.map (·.1)=m.map (fun p=>Zal.str [p.1])→es.map (·.2.1)=m.map (fun p=>Zal.str p.2.txt)→Zkb m v=some t→∃ j b,Zny es [v] k=some (some (k + j,.str t.txt))∧es[j]?=some (.str [v],.str t.txt,b)
 | _,[],v,k,t,_,_,h=>by simp [Zkb] at h
 | [],p :: m,v,k,t,h,_,_=>by simp at h
 | (ek,ev,eb) :: es,(w,u) :: m,v,k,t,hk,hv,h=>by
  simp only [List.map_cons,List.cons.injEq] at hk hv
  obtain ⟨rfl,hk⟩:=hk
  obtain ⟨rfl,hv⟩:=hv
  simp only [Zkb] at h
  by_cases e:w=v
  ·rw [if_pos e] at h
   cases h; subst e
   exact ⟨0,eb,by simp [Zny],rfl⟩
  ·rw [if_neg e] at h
   obtain ⟨j,b,h1,h2⟩:=Zov (k:=k + 1) hk hv h
   have:¬ [v]=[w]:=fun x=>e (by simpa using x.symm)
   exact ⟨j + 1,b,by simp only [Zny,this,if_false,h1]; rw [show k + 1 + j=k + (j + 1) by omega],h2⟩
theorem Zos:∀ {es:List ME} {m:Bd} {v k:Nat},es.map (·.1)=m.map (fun p=>Zal.str [p.1])→Zkb m v=none→Zny es [v] k=some none
 | [],[],v,k,_,_=>rfl
 | [],p :: m,v,k,h,_=>by simp at h
 | e :: es,[],v,k,h,_=>by simp at h
 | (ek,ev,eb) :: es,(w,u) :: m,v,k,hk,h=>by
  simp only [List.map_cons,List.cons.injEq] at hk
  obtain ⟨rfl,hk⟩:=hk
  simp only [Zkb] at h
  by_cases e:w=v
  ·rw [if_pos e] at h; cases h
  ·rw [if_neg e] at h
   have:¬ [v]=[w]:=fun x=>e (by simpa using x.symm)
   simp only [Zny,this,if_false]
   exact Zos hk h
theorem Zpy {α:Type} {f:α→α} {e:α}:∀ {l:List α} {j:Nat},l[j]?=some e→f e=e→l.modify j f=l
 | [],j,h,_=>by simp at h
 | a :: l,0,h,hf=>by simp at h; subst h; simp [hf]
 | a :: l,j + 1,h,hf=>by simp at h; simp [Zpy h hf]
theorem Zrv (c:Nat):Zpt [c]=Zbc c:=rfl
theorem Row.keepAt {i:Nat} {h h':Zaa} {a:Pt} {n:Nat} {cs:List Zal} (r:Row h.length h a n cs) (hne:∀ j o,n≠0→a=some (j,o)→j≠i) (k:Zfv i h h'):Row h'.length h' a n cs:=by
 obtain ⟨hl,r⟩:=r
 by_cases h0:n=0
 ·exact ⟨hl,.inl h0⟩
 ·refine ⟨hl,r.imp id ?_⟩
  rintro ⟨j,o',t,all,ro,ha,hi,hg,x⟩
  have:=k.le
  exact ⟨j,o',t,all,ro,ha,by omega,by rw [k.eq j hi (hne j o' h0 ha)]; exact hg,x⟩
def Yrk (h:Zaa) (i:Nat) (r:Option Bd) (v:Zal) (h':Zaa):Prop:=Zfv i h h'∧(match r with | some m'=>v=.bool true∧Yjh h' i m' | none=>v=.bool false)
theorem Yen:∀ (N:Nat) {a t:Ty} {S:Nat→Prop} {h:Zaa} {p q:Pt} {i n:Nat} {m:Bd},a.size≤N→a.ok=true→t.ok=true→t.txt.length≤1048576→t.txt.length≤n→BOk n m→(∀ j,S j→j≠i)→Zpe S h a p→Zpe S h t q→Yjh h i m →
  Zae pg Zgt [.ptr p,.ptr q,.map (some i)] h (Yrk h i (matchT m a t))
 | 0,a,t,S,h,p,q,i,n,m,hN,_,_,_,_,_,_,_,_,_=>by have:=a.size_ps; omega
 | N + 1,a,t,S,h,p,q,i,n,m,hN,ha,ht,hB,hn,bo,hSi,ra,rt,rm=>by
  have hcase:=Zyz (m:=m) ha ht
  obtain ⟨ia,aa,ca,ea,qa,rfl,sia,hia,rowa,hSa,hqal,hqa⟩:=ra.parts
  obtain ⟨it,at',ct,et,qt,rfl,sit,hit,rowt,hSt,hqtl,hqt⟩:=id rt.parts
  have hps2:a.ps.length≤2:=by cases a <;> simp [Ty.ps]
  apply Zdy.call
  simp only [Zat,Zak hia,Nat.zero_add,List.getElem?_cons_succ,List.getElem?_cons_zero,Zag,Zap]
  refine (Zrl [a.hd]).mono ?_
  rintro v h1 ⟨rfl,rfl⟩
  simp only [Zah,Zrv]
  refine Zds (fun hv=>?_) (fun hv=>?_)
  ·rw [hv] at hcase
   simp only [if_true] at hcase
   refine (Yhg _ (Nat.le_refl _) hB rt).mono ?_
   rintro v h2 ⟨rfl,s2⟩
   have hia2:=s2.get hia (Own.lt hia)
   obtain ⟨es,clk,hm,hk,hvv,hb,hlt⟩:=id rm
   have hm2:=s2.get hm (Own.lt hm)
   have rm2:Yjh h2 i m:=rm.eq (s2.eq i (Own.lt hm))
   simp only [Zap,Zak hia2,List.getElem?_cons_succ,List.getElem?_cons_zero,Zdc,hm2,Zqg]
   have K2:Zfv i h1 h2:=⟨s2.le,fun j hj _=>s2.eq j hj⟩
   have hput:∀ r:Option Bd,(∀ (es':List ME) (k':Nat),Ygv es clk [a.hd] (.str t.txt) (fun x y=>x=es'∧y=k')→Yrk h1 i r (.bool true) (h2.set i (.map es' k')))→Zdy.J6 (Yrk h1 i r) (some i) (some (ia,0)) t.txt h2:=by
    intro r hr
    apply Zdy.J6i
    simp only [Zat,Zak hia2,Nat.zero_add,List.getElem?_cons_zero,Zap,xMp,Zdc,hm2,Zaw]
    unfold Ygv at hr ⊢
    cases hg:Zkb m a.hd with
    | none=>
     rw [Zos hk hg] at hr ⊢
     exact hr _ _ ⟨rfl,rfl⟩
    | some u=>
     obtain ⟨j,b,hf,_⟩:=Zov (k:=0) hk hvv hg
     rw [hf] at hr ⊢
     exact hr _ _ ⟨rfl,rfl⟩
   have KS:∀ x,Zfv i h1 (h2.set i x):=fun x=>K2.trans (Zfv.set i h2 x)
   have hil:=Own.lt hm2
   cases hg:Zkb m a.hd with
   | none=>
    have hbn:Zmx m a.hd t=some (m ++ [(a.hd,t)]):=by unfold Zmx; rw [hg]
    rw [hbn] at hcase
    rw [hcase,Zos hk hg]
    simp only [Option.getD_none,Zap,Option.isSome_none,Zax]
    refine hput _ fun es' k' hp=>⟨KS _,rfl,?_⟩
    unfold Ygv at hp
    rw [Zos hk hg] at hp
    obtain ⟨rfl,rfl⟩:=hp
    refine ⟨_,_,List.getElem?_set_self hil,by simp [hk],by simp [hvv],?_,?_⟩
    ·rw [List.map_append,List.nodup_append]
     refine ⟨hb,by simp,?_⟩
     intro x hx y hy e
     simp at hy
     obtain ⟨z,hz,rfl⟩:=List.mem_map.1 hx
     have:=hlt z hz; omega
    ·intro e he
     rcases List.mem_append.1 he with he | he
     ·have:=hlt e he; omega
     ·simp at he; subst he; simp
   | some u=>
    obtain ⟨j,b,hf,hj⟩:=Zov (k:=0) hk hvv hg
    rw [hf]
    simp only [Option.getD_some,Zap,Option.isSome_some,Zbr]
    have hu:u.ok=true ∨ True:=.inr trivial
    by_cases he:u=t
    ·subst he
     have hbn:Zmx m a.hd u=some m:=by unfold Zmx; rw [hg]; simp
     rw [hbn] at hcase
     rw [hcase]
     simp only [decide_true,Bool.not_true,Zax]
     refine hput _ fun es' k' hp=>⟨KS _,rfl,?_⟩
     unfold Ygv at hp
     rw [hf] at hp
     obtain ⟨rfl,rfl⟩:=hp
     rw [Nat.zero_add,Zpy hj rfl]
     exact ⟨es,clk,List.getElem?_set_self hil,hk,hvv,hb,hlt⟩
    ·have hu:=(bo.var _ (Zqw hg)).2.1
     have hne:¬ u.txt=t.txt:=fun e=>he (Ty.txt_inj' hu ht e)
     have hbn:Zmx m a.hd t=none:=by unfold Zmx; rw [hg]; simp [he]
     rw [hbn] at hcase
     rw [hcase]
     simp only [hne,decide_false,Bool.not_false,Zbr]
     exact ⟨K2,rfl⟩
  ·rw [hv] at hcase
   simp only [Bool.false_eq_true,if_false] at hcase
   simp only [Zat,Zak hia,Zak hit,Nat.zero_add,List.getElem?_cons_succ,List.getElem?_cons_zero,Zag,Zap,true_and]
   refine Zot (fun hne=>?_) (fun he=>?_)
   ·rw [if_neg (fun e=>hne (by rw [e]))] at hcase
    rw [hcase]
    exact ⟨Zfv.refl _ _,rfl⟩
   ·have he':a.hd=t.hd:=by simpa using he
    rw [if_pos he'] at hcase
    rw [hcase]
    have hlen:=Yeu ha ht he'
    refine Zdy.L11ind _ _ _ _ _ _ _ _ (J:=fun (g:Nat) x54 h'=>x54=(g:Int)∧g≤a.ps.length∧Zfv i h1 h'∧∃ m1,matchL m (a.ps.take g) (t.ps.take g)=some m1∧Yjh h' i m1) (fun g=>a.ps.length - g) ?_ 0 _ _ ⟨rfl,by omega,Zfv.refl _ _,m,by simp [matchL],rm⟩
    rintro g x54 h' ⟨rfl,hg,hK,m1,hm1,rm1⟩ R hR
    unfold Zdy.L11t
    refine Zan (fun hlt=>?_) (fun hge=>?_)
    ·have hga:g < a.ps.length:=by omega
     have hgt:g < t.ps.length:=by omega
     have hit1:h'[it]?=some (.cells Zbt [.str [t.hd],.slice at' t.ps.length ct et,.ptr none] false):=by rw [hK.eq _ (Own.lt hit) (hSi _ sit)]; exact hit
     obtain ⟨ja,oa,rfl,_,hca⟩:=(rowa.keepAt (i:=i) (fun j o h0 e=>hSi j (hSa j o h0 e)) hK).at hga
     obtain ⟨jt,ot,rfl,_,hct⟩:=(rowt.keepAt (i:=i) (fun j o h0 e=>hSi j (hSt j o h0 e)) hK).at hgt
     have hqag:g < qa.length:=by omega
     have hqtg:g < qt.length:=by omega
     rw [List.getElem?_map,List.getElem?_eq_getElem hqag] at hca
     rw [List.getElem?_map,List.getElem?_eq_getElem hqtg] at hct
     simp only [Zat,Int.toNat_natCast,Nat.mul_one,hca,hct,Option.map_some,Zda,Zak hit1,Nat.zero_add,List.getElem?_cons_succ,List.getElem?_cons_zero,Zag]
     have hma:=List.getElem_mem hga
     have hmt:=List.getElem_mem hgt
     have h1:=Ty.size_part hma
     have h2:=Ty.len_part hmt
     have bo1:BOk n m1:=BOk.matchL (fun x hx=>Ty.ok_ps ha x (List.mem_of_mem_take hx)) (fun x hx=>⟨Ty.ok_ps ht x (List.mem_of_mem_take hx),by have:=Ty.len_part (List.mem_of_mem_take hx); omega⟩) bo hm1
     have htk:=Zqd a.ps t.ps m g hga hgt
     rw [hm1] at htk
     simp only at htk
     refine ⟨by omega,by omega,(Yen N (by omega) (Ty.ok_ps ha _ hma) (Ty.ok_ps ht _ hmt) (by omega) (by omega) bo1 hSi ((hqa g _ _ (List.getElem?_eq_getElem hqag) (List.getElem?_eq_getElem hga)).keep fun j hj hl=>hK.eq j hl (hSi j hj)) ((hqt g _ _ (List.getElem?_eq_getElem hqtg) (List.getElem?_eq_getElem hgt)).keep fun j hj hl=>hK.eq j hl (hSi j hj)) rm1).mono ?_⟩
     rintro v h3 ⟨K3,hres⟩
     cases hmm:matchT m1 a.ps[g] t.ps[g] with
     | none=>
      rw [hmm] at hres htk
      subst hres
      simp only [Zah,Bool.not_false,Zbr]
      rw [Zqo a.ps t.ps m (g + 1) hlen htk]
      exact ⟨hK.trans K3,rfl⟩
     | some m2=>
      rw [hmm] at hres htk
      obtain ⟨rfl,rm2⟩:=hres
      simp only [Zah,Bool.not_true,Zax]
      rw [Zbn (by omega)]
      exact hR (g + 1) _ _ (by omega) ⟨rfl,by omega,hK.trans K3,m2,htk,rm2⟩
    ·apply Zdy.A11x0i
     have:g=a.ps.length:=by omega
     subst this
     rw [List.take_length,hlen,List.take_length] at hm1
     rw [hm1]
     exact ⟨hK,rfl,rm1⟩
end Go.Sim

set_option linter.unusedVariables false
set_option linter.unusedSimpArgs false
set_option maxRecDepth 20000
namespace Go.Sim
open Go Go.RowKit

theorem Zvc:pg.underlying Zju=some (.slice Zbo):=by kernel_rfl
theorem Zyq:pg.cellsOf Zbo=2:=by kernel_rfl
theorem Zzg:pg.okElem Zbo=true:=by kernel_rfl
theorem Zze:pg.bytesOf Zbo≤127:=Nat.le_of_ble_eq_true (by kernel_rfl)
theorem Vec.fresh {α:Type} {ty:TypeId} {enc:α→List Zal} {b:Nat} {h:Zaa} {a:Pt} {n c:Nat} {l:List α} (v:Vec ty h a n c (Zeu enc l)) (hn:n=l.length) (ha:∀ i,a=some (i,0)→b≤i):Zdk ty enc b h a n l:=by
 refine ⟨hn.symm,?_⟩
 rcases v with ⟨rfl,h0,_⟩ | ⟨i,rfl,hi⟩
 ·exact .inl h0
 ·exact .inr ⟨i,rfl,ha i rfl,hi⟩
theorem Ybp {h:Zaa} {i:Nat} {m:Bd} (rm:Yjh h i m) (bo:BOk 60 m) :
  Zae pg Zkt [.map (some i)] h fun v h'=>Zaz h.length h h'∧∃ a n c e,v=.slice a n c e∧n≤c∧Zdk Zbo eP h.length h' a n (bdL m):=by
 have hml:m.length≤6:=by
  have hp:(m.map (·.1)).Perm (Zel.filter fun v=>decide (v∈m.map (·.1))):=by
   rw [List.perm_ext_iff_of_nodup bo.nd (Zpz.filter _)]
   intro v
   rw [List.mem_filter]
   constructor
   ·intro hv
    obtain ⟨p,hp,rfl⟩:=List.mem_map.1 hv
    exact ⟨(Zux _).2 (bo.var p hp).1,by simpa using hv⟩
   ·exact fun h=>by simpa using h.2
  have h1:=hp.length_eq
  have h2:=List.length_filter_le (fun v=>decide (v∈m.map (·.1))) Zel
  rw [List.length_map] at h1
  have h3:Zel.length=6:=rfl
  omega
 apply Zgj.call
 simp only [Zaw]
 generalize hh0:h ++ [Zcj.cells Zbo [] false]=h0
 have s0:Zaz h.length h h0:=by rw [← hh0]; exact Zaq
 have l0:h0.length=h.length + 1:=by rw [← hh0]; simp
 have o0:h0[h.length]?=some (.cells Zbo [] false):=by rw [← hh0]; simp
 refine Ykh.mono ?_
 rintro v h2 ⟨rfl,hh2⟩
 simp only [Zyj]
 have s2:Zaz h0.length h0 h2:=by rw [hh2]; exact Zaq
 have hc2:h2[h0.length]?=some (.cells Zft [.map (some i)] false):=by rw [hh2]; simp
 obtain ⟨es,clk,hm,hk,hvv,hb,hlt⟩:=id rm
 have S2:=s0.cat s2
 have hm2:=S2.get hm (Own.lt hm)
 have hel:es.length=m.length:=by have:=congrArg List.length hk; simpa using this
 refine (Zvk hc2 hm2 (vs:=m.map (·.1)) (by rw [hk,List.map_map]; rfl) bo.nd hb hlt (by omega)).mono ?_
 rintro v h3 ⟨us,hp,hsrt,hcase⟩
 have hus:=Ybj bo hp hsrt
 have hbd:bdL m=us.map fun v=>([v],((Zkb m v).getD default).txt):=by rw [Yps,hus]
 have hul:us.length≤6:=by rw [hp.length_eq]; simpa using hml
 have hmem:∀ v∈us,∃ t,Zkb m v=some t:=fun v hv=>by
  rw [hus,List.mem_filter] at hv; exact Option.isSome_iff_exists.1 hv.2
 have hgen:∃ a c e,v=.slice a us.length c e∧Row h3.length h3 a us.length (us.map fun v=>Zal.str [v])∧Zaz h2.length h2 h3:=by
  rcases hcase with ⟨rfl,rfl,rfl⟩ | ⟨c,rfl,hc,rfl⟩
  ·exact ⟨_,_,_,rfl,Row.nil,Zaz.refl _ _⟩
  ·refine ⟨_,_,_,rfl,⟨by simp,.inr ⟨h2.length,0,Zdb,_,false,rfl,by simp,by simp; rfl,by simp,by rw [List.drop_zero,List.take_of_length_le (by simp)]⟩⟩,Zaq⟩
 obtain ⟨a9,c9,e9,rfl,hrow,s3⟩:=hgen
 simp only [Zag]
 have S3:=S2.cat s3
 have hS3le:=S3.le
 have o3:h3[h.length]?=some (.cells Zbo [] false):=s3.get (s2.get o0 (Own.lt o0)) (by have:=Own.lt o0; have:=s2.le; omega)
 refine Zgj.L3ind _ _ _ _ _ _ _ (J:=fun (g:Nat) a3 n3 c3 e3 x11 h'=>x11=(g:Int)∧g≤us.length∧Zaz h.length h h'∧(∀ j,j < h3.length→j≠h.length→h'[j]?=h3[j]?)∧h3.length≤h'.length∧n3=g∧n3≤c3∧Vec Zbo h' a3 n3 c3 (Zeu eP ((bdL m).take g))∧(∀ i,a3=some (i,0)→i=h.length ∨ h3.length≤i)) (fun g=>us.length - g) ?_ 0 _ _ _ _ _ _
  ⟨rfl,by omega,S3,fun _ _ _=>rfl,Nat.le_refl _,rfl,Nat.le_refl _,Vec.mk1 (by simpa using o3),fun i hi=>by cases hi; exact .inl rfl⟩
 rintro g a3 n3 c3 e3 x11 h' ⟨rfl,hg,hSm,hK,hle3,rfl,hnc,hv,ha⟩ R hR
 unfold Zgj.L3t
 have hbl:(bdL m).length=us.length:=by rw [hbd]; simp
 refine Zan (fun hlt=>?_) (fun hge=>?_)
 ·have hg':n3 < us.length:=by omega
  obtain ⟨j,o,rfl,hj,hc⟩:=hrow.at hg'
  rw [List.getElem?_map,List.getElem?_eq_getElem hg',Option.map_some] at hc
  -- the row of keys has not turned: it lies apart from the row of bindings
  have hjr:j≠h.length:=by
   rcases hcase with ⟨h0,_⟩ | ⟨c,hsl,_,_⟩
   ·rw [h0] at hg'; simp at hg'
   ·simp only [Zal.slice.injEq,Option.some.injEq,Prod.mk.injEq] at hsl
    have:=s2.le; omega
  have hc':Zad h' (.ptr (some (j,o + n3)))=some (.str [us[n3]]):=by
   rw [← hc]; simp only [Zad,hK j hj hjr]
  obtain ⟨t,ht⟩:=hmem _ (List.getElem_mem hg')
  have hm':=hSm.get hm (Own.lt hm)
  obtain ⟨jj,bb,hf,_⟩:=Zov (k:=0) hk hvv ht
  simp only [Zat,Int.toNat_natCast,Nat.mul_one,hc',Zap,Zdc,hm',Zqg,hf,Option.getD_some,Zaw]
  have htk:(bdL m).take (n3 + 1)=(bdL m).take n3 ++ [([us[n3]],t.txt)]:=by
   rw [List.take_succ_eq_append_getElem (by omega)]
   congr 2
   have:(bdL m)[n3]?=some ([us[n3]],t.txt):=by
    rw [hbd,List.getElem?_map,List.getElem?_eq_getElem hg',Option.map_some,ht,Option.getD_some]
   exact (List.getElem?_eq_some_iff.1 this).2
  refine ⟨by omega,?_⟩
  refine hv.pushN Zvc Zyq Zzg Zze (by rw [Zbm Zgz,List.length_take]; omega) rfl (by omega) rfl (by omega) (fun h6 hl6 hi6 hk6=>?_)
  simp only [Zag]
  rw [Zbn (by omega)]
  have hle:=hSm.le
  have hb9:∀ i,a3=some (i,0)→h.length≤i:=fun i hi=>by rcases ha i hi with hh | hh <;> omega
  refine hR (n3 + 1) _ _ _ _ _ _ (by omega) ⟨rfl,by omega,⟨by omega,fun j hj=>?_⟩,fun j hj hne=>?_,by omega,rfl,Nat.le_refl _,Vec.mk1 ?_,fun i hi=>by cases hi; right; omega⟩
  ·rw [hk6 j (by omega) fun i hi=>by have:=hb9 i hi; omega]; exact hSm.eq j hj
  ·rw [hk6 j (by omega) fun i hi=>by rcases ha i hi with hh | hh <;> omega]; exact hK j hj hne
  ·rw [hi6,htk,Zmv]; rfl
 ·apply Zgj.A3x0i
  have:n3=us.length:=by omega
  subst this
  rw [show (bdL m).take us.length=bdL m from List.take_of_length_le (by omega)] at hv
  exact ⟨hSm,_,_,_,_,rfl,hnc,hv.fresh (b:=h.length) hbl.symm fun i hi=>by rcases ha i hi with hh | hh <;> omega⟩
def Yeo (p s:List Nat) (h:Zaa) (v:Zal) (h':Zaa):Prop:=Zaz h.length h h'∧∃ a n c e,v=.tup [.slice a n c e,.bool (Zvp p s)]∧n≤c∧Zdk Zbo eP h.length h' a n (Zwq p s)
theorem Yay (p s:List Nat) (h:Zaa):Zae pg Zjx [.str p,.str s] h (Yeo p s h):=by
 apply Zjv.call
 refine (Zvf p h).mono ?_
 rintro v h1 ⟨s1,q1,rfl,r1⟩
 simp only [Zda]
 refine (Zvf s h1).mono ?_
 rintro v h2 ⟨s2,q2,rfl,r2⟩
 simp only [Zda,Zaw]
 have S2:=s1.cat s2
 have s3:Zaz h2.length h2 (h2 ++ [.map [] 0]):=Zaq
 have S3:=S2.cat s3
 have no:Zkr p s=none→Yeo p s h (.tup [.slice none 0 0 true,.bool false]) (h2 ++ [.map [] 0]):=fun hn=>
  ⟨S3,none,0,0,true,by unfold Zvp; rw [hn]; rfl,Nat.le_refl _,by unfold Zwq; rw [hn]; exact ⟨rfl,.inl rfl⟩⟩
 cases hp:Zhv p with
 | none=>
  rw [hp] at r1; simp only at r1; subst r1
  simp only [Option.isNone_none,Zbr]
  exact no (by unfold Zkr; rw [hp])
 | some a=>
  rw [hp] at r1; simp only at r1
  obtain ⟨i1,rfl,b1,l1⟩:=r1.lt
  simp only [Option.isNone_some,Zax]
  cases ht:Zhv s with
  | none=>
   rw [ht] at r2; simp only at r2; subst r2
   simp only [Option.isNone_none,Zbr]
   exact no (by unfold Zkr; rw [hp,ht])
  | some t=>
   rw [ht] at r2; simp only at r2
   obtain ⟨i2,rfl,b2,l2⟩:=r2.lt
   simp only [Option.isNone_some,Zax]
   obtain ⟨ha1,ha2,ha3⟩:=Zep.1 hp
   obtain ⟨ht1,ht2,ht3⟩:=Zep.1 ht
   have hms:Zkr p s=matchT [] a t:=by unfold Zkr; rw [hp,ht]
   have hl1:=s1.le; have hl2:=s2.le
   have R1:=((r1.same s2).same s3).mono (S':=fun j=>j≠h2.length) (fun j hj=>by have:=hj.2; omega)
   have R2:=(r2.same s3).mono (S':=fun j=>j≠h2.length) (fun j hj=>by have:=hj.2; omega)
   have rm:Yjh (h2 ++ [.map [] 0]) h2.length []:=⟨[],0,by simp,rfl,rfl,by simp,by simp⟩
   refine (Yen _ (Nat.le_refl _) ha1 ht1 (by rw [← ht2]; omega) (n:=60) (by rw [← ht2]; exact ht3) BOk.nil (fun j hj=>hj) R1 R2 rm).mono ?_
   rintro v h4 ⟨K4,hres⟩
   have S4:Zaz h.length h h4:=⟨by have:=K4.le; have:=S3.le; omega,fun j hj=>by rw [K4.eq j (by have:=S3.le; omega) (by have:=S2.le; omega)]; exact S3.eq j hj⟩
   cases hm:matchT [] a t with
   | none=>
    rw [hm] at hres hms
    subst hres
    simp only [Zah,Bool.not_false,Zbr]
    exact ⟨S4,none,0,0,true,by unfold Zvp; rw [hms]; rfl,Nat.le_refl _,by unfold Zwq; rw [hms]; exact ⟨rfl,.inl rfl⟩⟩
   | some m=>
    rw [hm] at hres hms
    obtain ⟨rfl,rm4⟩:=hres
    simp only [Zah,Bool.not_true,Zax]
    apply Zjv.J4i
    refine (Ybp rm4 (Yar hms)).mono ?_
    rintro v h5 ⟨s5,a5,n5,c5,e5,rfl,hc5,f5⟩
    simp only [Zag]
    refine ⟨S4.cat s5,a5,n5,c5,e5,by unfold Zvp; rw [hms]; rfl,hc5,?_⟩
    unfold Zwq; rw [hms]
    exact ⟨f5.1,f5.2.imp id fun ⟨i,ha,hb,hi⟩=>⟨i,ha,by have:=S4.le; omega,hi⟩⟩
theorem Zxq (p s:List Nat) (h:Zaa):Zae pg Ziv [.str p,.str s] h fun v h'=>v=.bool (Zvp p s)∧Zaz h.length h h':=by
 apply Zmr.call
 refine (Yay p s h).mono ?_
 rintro v h1 ⟨s1,a,n,c,e,rfl,_⟩
 simp only [Zdo,Zai,Zag,Zah,Zar]
 exact ⟨by trivial,s1⟩
end Go.Sim
