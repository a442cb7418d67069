/- A part of the proof of a statement of this seat: see the text that holds the theorem. No condition. -/
import Derived.Test.YtflfcofeedjblaaGreatDoorNm
import Derived.Test.YtflfcofeedjblaaGreatDoorSimX
import Derived.Test.YtflfcofeedjblaaGreatDoorCSTy
import Derived.Test.YtflfcofeedjblaaGreatDoorPTCSMatch
import Derived.Test.YtflfcofeedjblaaGreatDoorPTCSplit
import Derived.Test.YtflfcofeedjblaaGreatDoorPTCWVar2
set_option linter.unusedVariables false
set_option linter.unusedSimpArgs false
set_option linter.all false
set_option linter.unusedVariables false
namespace Go.Sim
open Go Go.RowKit

theorem c9:pg.cellsOf Zbh=1:=by kernel_rfl
theorem b9:pg.bytesOf Zbh=16:=by kernel_rfl

def Ywi (k:Nat) (acc:List Nat):List Nat:=if h:k=0 then acc else Ywi (k / 10) ((48 + k % 10) :: acc)
 termination_by k
 decreasing_by omega
def Yuv (k:Int):List Nat:=if k≤0 then [109,48] else 109 :: Ywi k.toNat []
theorem Yjp {h:Zaa} {t:TypeId} {cs:List Zat} {n:Nat} (hn:cs.length=n):rowOf (h ++ [.cells t cs false]) (some (h.length,0)) n=some cs:=by
 subst hn
 exact (Own.row (b:=0) (t:=t) ⟨h.length,rfl,by omega,by simp⟩).rowOf
theorem Yci {h:Zaa} {t:TypeId} {v:Zat}:rowOf (h ++ [.cells t [v] false]) (some (h.length,0)) 1=some [v]:=Yjp rfl
def Ymy (k:Int) (n:Nat):List (List Nat):=(List.range n).map fun (j:Nat)=>Yuv (k + j)
@[simp] theorem Yrp (k:Int) (n:Nat):(Ymy k n).length=n:=by simp [Ymy]
theorem Ytk (k:Int) (n:Nat):Ymy k (n + 1)=Ymy k n ++ [Yuv (k + n)]:=by simp [Ymy,List.range_succ]

end Go.Sim

set_option linter.unusedVariables false
namespace Go.Sim
open Go Go.RowKit

def sp (l:List (List Nat)):List Nat:=[32].intercalate l
end Go.Sim

set_option linter.unusedVariables false
set_option linter.unusedSimpArgs false
set_option maxRecDepth 20000
namespace Go.Sim
open Go Go.RowKit

theorem Zyn {u:Nat} (h:u < 10):Ydi u=[48 + u]:=by
 unfold Ydi Lib.decDigits
 rw [dif_pos h]
 simp [UInt8.toNat_ofNat']; omega
theorem Yet {u:Nat} (h:¬ u < 10):Ydi u=Ydi (u / 10) ++ [48 + u % 10]:=by
 unfold Ydi
 conv=>lhs; unfold Lib.decDigits
 rw [dif_neg h]
 simp [UInt8.toNat_ofNat']; omega
theorem Yhw:∀ (k u:Nat),u < 10 ^ (k + 1)→(Ydi u).length≤k + 1:=by
 intro k
 induction k with
 | zero=>intro u h; rw [Zyn (by omega)]; simp
 | succ k ih=>
  intro u h
  by_cases hu:u < 10
  ·rw [Zyn hu]; simp
  ·rw [Yet hu]
   have:=ih (u / 10) (by rw [Nat.pow_succ] at h; omega)
   simp; omega
theorem Ydg {z:Int} (h:z < 0):Yfa z=45 :: Ydi z.natAbs:=by unfold Yfa Lib.itoa Ydi; rw [if_pos h]; rfl
theorem Yee {z:Int} (h:¬ z < 0):Yfa z=Ydi z.toNat:=by unfold Yfa Lib.itoa Ydi; rw [if_neg h]
theorem Ypb {h:Zaa} {z:Int} (h0:0≤z) (h1:z≤9223372036854775807):Zhe.L6 (fun v h'=>v=.str (Ydi z.toNat)∧Zba h.length h h') z [] h:=by
 refine Zhe.L6ind _ (J:=fun (g:Nat) x0 x3 h'=>x0=(g:Int)∧Zba h.length h h'∧Ydi g ++ x3=Ydi z.toNat∧(g:Int)≤z) (fun g=>g) ?_ z.toNat _ _ _ ⟨by omega,Zba.refl _ _,by simp,by omega⟩
 rintro g x0 x3 h' ⟨rfl,hs,hd,hb⟩ R hR
 have hl:x3.length≤20:=by
  have h2:=congrArg List.length hd
  rw [List.length_append] at h2
  have:=Yhw 18 z.toNat (by omega); omega
 unfold Zhe.L6t
 refine Zau (fun hlt=>?_) (fun hge=>?_)
 ·have h1:Int.tmod (g:Int) 10=((g % 10:Nat):Int):=by rw [Int.tmod_eq_emod_of_nonneg (by omega)]; omega
  have h2:Int.tdiv (g:Int) 10=((g / 10:Nat):Int):=by rw [Int.tdiv_eq_ediv_of_nonneg (by omega)]; omega
  rw [h1,h2,IntWalk.i64_in _ (by omega),IntWalk.u8_in _ (by omega),IntWalk.i64_in _ (by omega)]
  simp only [Zax,Yci,Zap]
  refine ⟨by omega,?_⟩
  simp only [Znt,chk,decide_true]
  refine ⟨by omega,by simp; omega,by omega,hR (g / 10) _ _ _ (by omega) ⟨rfl,hs.trans (Zba.app hs.le _),?_,by omega⟩⟩
  rw [← hd,Yet (u:=g) (by omega),show (48 + ((g % 10:Nat):Int)).toNat=48 + g % 10 by omega]
  simp
 ·apply Zhe.A6x0i
  rw [IntWalk.i64_in _ (by omega),IntWalk.u8_in _ (by omega)]
  simp only [Zax,Yci,Zap,Znt,chk,decide_true]
  refine ⟨by omega,by simp; omega,?_,hs.trans (Zba.app hs.le _)⟩
  rw [← hd,Zyn (u:=g) (by omega),show (48 + (g:Int)).toNat=48 + g by omega]
theorem Ylx {h:Zaa} {z:Int} (h0:-9223372036854775808≤z) (h1:z≤9223372036854775807):Zaj pg Zgg [.int .i64 z] h fun v h'=>v=.str (Yfa z)∧Zba h.length h h':=by
 have pos:∀ (z:Int) (h:Zaa),0≤z→z≤9223372036854775807→Zaj pg Zgg [.int .i64 z] h fun v h'=>v=.str (Ydi z.toNat)∧Zba h.length h h':=by
  intro z h h0 h1
  apply Zhe.call
  refine Zau (fun hlt=>by omega) (fun hge=>Zau (fun hlt=>by omega) (fun hge=>Ypb h0 h1))
 by_cases hz:z < 0
 ·apply Zhe.call
  refine Zau (fun hlt=>?_) (fun hge=>Zau (fun hlt=>?_) (fun hge=>by omega))
  ·have:z=-9223372036854775808:=by omega
   subst this
   exact ⟨by rw [Ydg (by omega)]; simp [Yet,Zyn],Zba.refl _ _⟩
  ·rw [IntWalk.i64_in _ (by omega)]
   refine (pos (0 - z) h (by omega) (by omega)).mono ?_
   rintro v h' ⟨rfl,hs⟩
   simp only [Zag]
   have:=Yhw 18 (0 - z).toNat (by omega)
   refine ⟨by simp only [List.length_cons,List.length_nil]; omega,?_,hs⟩
   rw [Ydg hz,show (0 - z).toNat=z.natAbs by omega]; rfl
 ·rw [Yee hz]; exact pos z h (by omega) h1

theorem Yaf:pg.underlying Zke=some (.slice Zbh):=by kernel_rfl
theorem Yic:pg.cellsOf Zbh=1:=by kernel_rfl
theorem Yhk:pg.okElem Zbh=true:=by kernel_rfl
theorem Yie:pg.bytesOf Zbh≤127:=Nat.le_of_ble_eq_true (by kernel_rfl)
end Go.Sim

set_option linter.unusedVariables false
set_option linter.unusedSimpArgs false
set_option maxRecDepth 20000
namespace Go.Sim
open Go Go.RowKit

theorem Ybm {s:List Nat} {k:Nat} {z:Int} (hz:z=k) (hk:k≤s.length):sub s z (s.length:Int)=s.drop k:=by subst hz; simp only [sub,Int.toNat_natCast,List.take_length]
theorem Ybr {s:List Nat} {j k:Nat} {x y:Int} (hx:x=j) (hy:y=k):sub s x y=(s.take k).drop j:=by subst hx; subst hy; simp [sub]
theorem Yek {h:Zaa} {s:List Nat} {c:Nat} (hs:s.length≤1048576):Zaj pg Zhf [.str s,.int .u8 (c:Int)] h fun v h'=>Zba h.length h h' ∧
  ∃ j cp e,v=.slice (some (j,0)) (Zcq c s).length cp e∧h.length≤j∧h'[j]?=some (.cells Zbh (Zdg eS (Zcq c s)) false):=by
 apply Zda.call
 simp only [Zax]
 refine Zda.L4ind _ _ _ (J:=fun (g:Nat) a5 n5 c5 e5 x6 x7 h'=>x7=(g:Int)∧g≤s.length + 1∧Zba h.length h h'∧∃ (done:List (List Nat)) (from_:Nat),n5=done.length∧x6=(from_:Int)∧done.length≤g∧Vec Zbh h' a5 n5 c5 (strs done)∧(∀ i,a5=some (i,0)→h.length≤i) ∧
   (g≤s.length→from_≤g∧c ∉ (s.take g).drop from_∧Zcq c s=done ++ Zcq c (s.drop from_))∧(g=s.length + 1→Zcq c s=done)) (fun g=>s.length + 1 - g) ?_ 0 _ _ _ _ _ _ _
  ⟨rfl,by omega,Zba.app (Nat.le_refl _) _,[],0,rfl,rfl,by simp,Vec.mk1 (by simp),by simp,fun _=>⟨by omega,by simp,by simp⟩,by omega⟩
 rintro g a5 n5 c5 e5 x6 x7 h' ⟨rfl,hg,hS,done,from_,rfl,rfl,hdl,hv,ha,hin,hout⟩ R hR
 unfold Zda.L4t
 refine Zau (fun hle=>?_) (fun hgt=>?_)
 ·obtain ⟨hf,hnc,hsp⟩:=hin (by omega)
  have push:∀ p,(∀ a n e h4,Zba h.length h h4→n=done.length + 1→Vec Zbh h4 a n n (strs (done ++ [p]))→(∀ i,a=some (i,0)→h.length≤i)→Zda.J5 (fun v h'=>Zba h.length h h'∧∃ j cp e,v=.slice (some (j,0)) (Zcq c s).length cp e∧h.length≤j∧h'[j]?=some (.cells Zbh (Zdg eS (Zcq c s)) false)) R (g:Int) s (c:Int) a n n e (IntKind.wrap .i64 ((g:Int) + 1)) h4) →
    Zcf pg Zke (h' ++ [.cells Zbh [.str p] false]) (.slice a5 done.length c5 e5) (.slice (some (List.length h',0)) 1 1 true) fun v_2 h_3=>xSl (some v_2) fun a_4 n_5 c_6 e_7=>Zda.J5 (fun v h'=>Zba h.length h h'∧∃ j cp e,v=.slice (some (j,0)) (Zcq c s).length cp e∧h.length≤j∧h'[j]?=some (.cells Zbh (Zdg eS (Zcq c s)) false)) R (g:Int) s (c:Int) a_4 n_5 c_6 e_7 (IntKind.wrap .i64 ((g:Int) + 1)) h_3:=by
   intro p K
   refine hv.push Yaf Yic Yhk Yie (by simp) rfl (by omega) (fun h4 hl4 hi4 hk4=>?_)
   simp only [Zah]
   have hle:=hS.le
   refine K _ _ _ _ ⟨by omega,fun j hj=>?_⟩ rfl (Vec.mk1 (by simpa [strs] using hi4)) (fun i hi=>by cases hi; omega)
   rw [hk4 j (by omega) fun i hi=>by have:=ha i hi; omega]; exact hS.eq j hj
  refine Zcs (fun he=>?_) (fun hne=>?_)
  ·have hgs:g=s.length:=by omega
   subst hgs
   rw [Ybr (j:=from_) (k:=s.length) rfl rfl,List.take_length]
   rw [List.take_length] at hnc
   refine ⟨⟨by omega,by omega,by omega⟩,push _ fun a n e h4 hS4 hn4 hv4 ha4=>Zda.J5i _ _ _ _ _ _ _ _ _ _ _ ?_⟩
   rw [Zbq (by omega)]
   subst hn4
   exact hR (s.length + 1) _ _ _ _ _ _ _ (by omega) ⟨rfl,by omega,hS4,done ++ [s.drop from_],s.length + 1,by simp,rfl,by simp; omega,by simpa using hv4,ha4,by omega,fun _=>by rw [hsp,Ztj hnc]⟩
  ·have hlt:g < s.length:=by omega
   refine ⟨⟨by omega,by omega⟩,?_⟩
   rw [Int.toNat_natCast,Zws hlt]
   have htk:(s.take (g + 1)).drop from_=(s.take g).drop from_ ++ [s[g]]:=by
    rw [List.take_succ_eq_append_getElem hlt,List.drop_append_of_le_length (by simp; omega)]
   have hdr:s.drop from_=(s.take g).drop from_ ++ s[g] :: s.drop (g + 1):=by
    conv=>lhs; rw [← List.take_append_drop g s]
    rw [List.drop_append_of_le_length (by simp; omega),List.drop_eq_getElem_cons hlt]
   refine Zcs (fun he=>?_) (fun hne2=>?_)
   ·have hec:s[g]=c:=by omega
    rw [Ybr (j:=from_) (k:=g) rfl rfl]
    refine ⟨⟨by omega,by omega,by omega⟩,push _ fun a n e h4 hS4 hn4 hv4 ha4=>Zda.J5i _ _ _ _ _ _ _ _ _ _ _ ?_⟩
    rw [Zbq (by omega)]
    subst hn4
    refine hR (g + 1) _ _ _ _ _ _ _ (by omega) ⟨rfl,by omega,hS4,done ++ [(s.take g).drop from_],g + 1,by simp,rfl,by simp; omega,by simpa using hv4,ha4,fun _=>⟨by omega,by simp,?_⟩,by omega⟩
    rw [hsp,hdr,hec,Zuz hnc]; simp
   ·apply Zda.J5i
    rw [Zbq (by omega)]
    refine hR (g + 1) _ _ _ _ _ _ _ (by omega) ⟨rfl,by omega,hS,done,from_,rfl,rfl,by omega,hv,ha,fun _=>⟨by omega,?_,hsp⟩,by omega⟩
    rw [htk]
    simp only [List.mem_append,List.mem_singleton,not_or]
    exact ⟨hnc,fun e=>hne2 (by rw [e])⟩
 ·have:g=s.length + 1:=by omega
  have hd:=hout this
  apply Zda.A4x0i
  rw [hd]
  rcases hv with ⟨_,_,_,h0⟩ | ⟨i,rfl,hi⟩
  ·exact absurd (by rw [hd]; exact List.map_eq_nil_iff.1 h0) (Zpd c s)
  ·exact ⟨hS,_,_,_,rfl,ha i rfl,by rw [Yor]; exact hi⟩
end Go.Sim

set_option linter.unusedVariables false
namespace Go.Sim
open Go Go.RowKit

def prs (l:List (List Nat × List Nat)):List Zat:=l.flatMap fun p=>[.str p.1,.str p.2]
@[simp] theorem Yvz:prs []=[]:=rfl
@[simp] theorem Yvh (p:List Nat × List Nat) (l:List (List Nat × List Nat)):prs (p :: l)=.str p.1 :: .str p.2 :: prs l:=rfl
@[simp] theorem Ytj (a b:List (List Nat × List Nat)):prs (a ++ b)=prs a ++ prs b:=by simp [prs]
theorem Ytg (l:List (List Nat × List Nat)):(prs l).length=l.length * 2:=by
 induction l with
 | nil=>rfl
 | cons p l ih=>simp [ih]; omega
def Ymz (l:List (List Nat × List Nat)):Nat:=(l.map fun p=>p.1.length + p.2.length).sum
theorem Ynn {l:List (List Nat × List Nat)} {g:Nat} (h:g < l.length):Ymz (l.take (g + 1))=Ymz (l.take g) + (l[g].1.length + l[g].2.length):=by
 unfold Ymz; rw [List.take_succ_eq_append_getElem h,List.map_append,List.sum_append]; simp
theorem Ycb (l:List (List Nat × List Nat)) (g:Nat):Ymz (l.take g)≤Ymz l:=by
 conv=>rhs; rw [← List.take_append_drop g l]
 unfold Ymz; rw [List.map_append,List.sum_append]; omega
theorem Yil {l:List (List Nat × List Nat)} {g:Nat} (h:g < l.length):l[g].1.length + l[g].2.length≤Ymz l:=by
 have:=Ynn h; have:=Ycb l (g + 1); omega
end Go.Sim

set_option linter.unusedVariables false
namespace Go.Sim
open Go Go.RowKit
def need (p:List Nat × List Nat):List Nat:=p.1 ++ [32] ++ p.2
end Go.Sim

set_option linter.unusedSimpArgs false
namespace Go.Sim

def Zei:List Nat:=[88,89,90,120,121,122]
def Zpg (s:List Nat):List Nat:=Zei.filter fun v=>decide (v∈s)
theorem Zrg (c:Nat):c∈Zei ↔ Zdp c=true:=by simp [Zei,Zdp]; omega
theorem Zts {s:List Nat} (h:Zmr s=true):∃ t,Zjg s=some t:=Option.isSome_iff_exists.1 h
theorem Yol {s:List Nat} {t:Ty} (h:Zjg s=some t):Zmr s=true:=by simp [Zmr,h]
end Go.Sim

set_option linter.unusedSimpArgs false
namespace Go.Sim

abbrev Nd:=List Nat × List Nat
abbrev Ins:=Nd × List Nd
structure Wd where
 cs:List Nd
 is:List Ins

def Zue (s:List Nat):Bool:=match s with | [c]=>decide (65≤c∧c≤84) | _=>false
def Zha (cs:List Nd) (c:List Nat):Bool:=cs.any fun x=>decide (x.1=c)
def Zzp (cs:List Nd) (s:List Nat) (k:Nat):Bool:=Zha cs [s.getD k 0] && (k == 0 || decide (s.getD (k - 1) 0 < s.getD k 0))
def Ydk (cs:List Nd) (s:List Nat):Bool:=(List.range s.length).all (Zzp cs s)
def Zzg (cs:List Nd) (i:Nat):Bool:=Zue (cs.getD i ([],[])).1 && (i == 0 || Zer (cs.getD (i - 1) ([],[])).1 (cs.getD i ([],[])).1) && Ydk (cs.take i) (cs.getD i ([],[])).2
def Zkf (cs:List Nd):Bool:=(List.range cs.length).all (Zzg cs) && decide (1≤cs.length∧cs.length≤4)
def Zkz (s:List Nat):Bool:=match s with | [c]=>Zdp c | _=>false
noncomputable def Zjl (cs:List Nd) (t:List Nat) (n:Nd):Bool:=Zha cs n.1 && Zmr n.2 && decide (n.2.length≤20) && (Zpg n.2).all fun v=>decide (v∈t)
noncomputable def Zmy (cs:List Nd) (i:Ins):Bool:=Zkf cs && Zha cs i.1.1 && Zmr i.1.2 && decide (i.1.2.length≤20) && !Zkz i.1.2 && decide (i.2.length≤3) && i.2.all (Zjl cs i.1.2)
noncomputable def Zdv (w:Wd):Bool:=Zkf w.cs && decide (w.is.length≤10) && w.is.all (Zmy w.cs)
noncomputable def Zfp (w:Wd) (n:Nd):Bool:=Zha w.cs n.1 && Zmr n.2
theorem Zhp {f:Nat→Bool} {g:Nat} (h:(List.range g).all f=true) (k:f g=true):(List.range (g + 1)).all f=true:=by
 rw [List.range_succ,List.all_append,h]; simp [k]
theorem Zko {f:Nat→Bool} {g n:Nat} (h:g < n) (k:f g=false):(List.range n).all f=false:=by
 rw [List.all_eq_false]; exact ⟨g,List.mem_range.2 h,by simp [k]⟩
theorem Zge {α:Type} {f:α→Bool} {l:List α} {g:Nat} (hg:g < l.length) (h:(l.take g).all f=true) (k:f l[g]=true):(l.take (g + 1)).all f=true:=by
 rw [List.take_succ_eq_append_getElem hg,List.all_append,h]; simp [k]
theorem Zrk {α:Type} {f:α→Bool} {l:List α} {g:Nat} (hg:g < l.length) (k:f l[g]=false):l.all f=false:=by
 rw [List.all_eq_false]; exact ⟨_,List.getElem_mem hg,by simp [k]⟩
theorem Zfu {α:Type} {l:List α} {g:Nat} {d:α} (h:g < l.length):l.getD g d=l[g]:=by simp [List.getD,h]
theorem Zzf {cs:List Nd} {c:List Nat} {g:Nat} (hg:g < cs.length):Zha (cs.take (g + 1)) c=(Zha (cs.take g) c || decide (cs[g].1=c)):=by
 unfold Zha; rw [List.take_succ_eq_append_getElem hg,List.any_append]; simp
def Ygm (cs:List Nd) (c:List Nat):Int:=if Zha cs c then (cs.findIdx fun x=>decide (x.1=c):Nat) else -1
theorem Zyj (cs:List Nd) (c:List Nat):decide (Ygm cs c < 0)=!Zha cs c:=by
 unfold Ygm; cases h:Zha cs c <;> simp
theorem Yub {t:List Nat} (h:Zmr t=true):Zkz t=Zdp (t.headD 0):=by
 obtain ⟨u,hu,rfl,_⟩:=Zsl.1 h
 cases u with
 | k c=>rfl
 | u c a=>
  have h1:=hu
  simp only [Ty.ok,Bool.and_eq_true,Bool.or_eq_true,beq_iff_eq] at h1
  rcases h1.1 with rfl | rfl <;> rfl
 | w c a b=>
  have h1:=hu
  simp only [Ty.ok,Bool.and_eq_true,beq_iff_eq] at h1
  rcases h1.1.1 with rfl; rfl
end Go.Sim

set_option linter.unusedVariables false
set_option linter.unusedSimpArgs false
set_option maxRecDepth 20000
namespace Go.Sim
open Go Go.RowKit

theorem Ybv {h:Zaa} {x a b:Int}:Zaj pg Zll [.int .i64 x,.int .i64 a,.int .i64 b] h fun v h'=>v=.bool (decide (a≤x∧x≤b))∧h'=h:=by
 apply Zxr.call
 refine Zau (fun h1=>?_) (fun h1=>?_)
 ·have:a≤x:=h1
  simp [this]
 ·have:¬ a≤x:=h1
  simp [this]
theorem Yjn {h:Zaa} (s:List Nat):Zaj pg Zor [.str s] h fun v h'=>v=.bool (Zue s)∧h'=h:=by
 apply Ztb.call
 match s with
 | []=>simp [Zue]
 | [c]=>
  simp only [List.length_cons,List.length_nil,show ((0 + 1:Nat):Int)=1 from rfl,beq_self_eq_true,Zcp]
  have e1:Zer [c] [65]=decide (c < 65):=by simp [Zer]
  have e2:Zer [c] [84]=decide (c < 84):=by simp [Zer]
  rw [e1,e2]
  refine Yaq (fun h1=>?_) (fun h1=>?_)
  ·refine ⟨?_,by trivial⟩
   congr 1
   simp [Zue]
   rw [Bool.eq_iff_iff]; simp; omega
  ·refine ⟨?_,by trivial⟩
   simp [Zue]; omega
 | c :: d :: r=>
  refine Zcs (fun h1=>?_) (fun h1=>⟨rfl,rfl⟩)
  simp at h1; omega
theorem Zvu {h:Zaa} (s:List Nat) (hb:∀ b∈s,b < 256):Zaj pg Zjt [.str s] h fun v h'=>v=.bool (Zue s)∧h'=h:=by
 apply Zqs.call
 match s,hb with
 | [],_=>simp [Zue]
 | [c],hb=>
  have hc:=hb c (by simp)
  simp only [List.length_cons,List.length_nil,show ((0 + 1:Nat):Int)=1 from rfl,beq_self_eq_true,Zcp]
  refine ⟨⟨by omega,by simp⟩,?_⟩
  simp only [Int.toNat_zero,List.getD_cons_zero]
  rw [IntWalk.i64_in _ (by omega)]
  refine Ybv.mono ?_
  rintro v h' ⟨rfl,rfl⟩
  simp only [Zaq]
  refine ⟨?_,by trivial⟩
  congr 1
  simp [Zue]; rw [Bool.eq_iff_iff]; simp; omega
 | c :: d :: r,_=>
  refine Zcs (fun h1=>?_) (fun h1=>⟨rfl,rfl⟩)
  simp at h1; omega
def Yfx (s:List Nat) (h:Zaa) (v:Zat) (h':Zaa):Prop:=Zba h.length h h'∧((∃ p,Zmf s=some p∧v=.tup [.agg [.str p.1,.str p.2],.bool true]) ∨ (Zmf s=none∧v=.tup [.agg [.str [],.str []],.bool false]))
theorem Yke {c:Nat} {t:List Nat} (h1:65≤c∧c≤84) (h2:Zmr t=true):Zmf (c :: 32 :: t)=some ([c],t):=by unfold Zmf; simp [h1,h2]
theorem Zpm {h h':Zaa} {s:List Nat} {x y:Zat} (hs:Zba h.length h h') (hi:h'[h.length]?=some (.cells Zab [x,y] false)) (hn:Zmf s=none) :
  Zbn (Zaz h' (.ptr (some (List.length h,0))) [.str [],.str []]) fun h_1=>Zcn (Zbj h_1 (.ptr (some (List.length h,0))) 2) fun cs_2=>Zai cs_2 fun c_3 r_4=>Zbc (some c_3) fun s_5=>Zai r_4 fun c_6 r_7=>Zbc (some c_6) fun s_8=>Zbu r_7 (Yfx s h (.tup [.agg [.str s_5,.str s_8],.bool false]) h_1):=by
 rw [Zbd hi (by simp)]
 simp only [Zar]
 rw [Zed (Zbx hi) (by simp [putRow])]
 simp only [putRow,List.take_zero,List.nil_append,List.length_cons,List.length_nil,List.cons_append,List.drop_succ_cons,List.drop_zero,List.drop_nil,List.append_nil,List.take_succ_cons,Zap,Zaf,Zag,Zao]
 exact ⟨hs.trans (Zba.set (Nat.le_refl _) _),.inr ⟨hn,rfl⟩⟩
theorem Yjz {h h':Zaa} {s c t:List Nat} {x y:Zat} (hs:Zba h.length h h') (hi:h'[h.length]?=some (.cells Zab [x,y] false)) (hn:Zmf s=some (c,t)) :
  Zbn (Zaz h' (.ptr (some (List.length h,0))) [.str c,.str t]) fun h_1=>Zcn (Zbj h_1 (.ptr (some (List.length h,0))) 2) fun cs_2=>Zai cs_2 fun c_3 r_4=>Zbc (some c_3) fun s_5=>Zai r_4 fun c_6 r_7=>Zbc (some c_6) fun s_8=>Zbu r_7 (Yfx s h (.tup [.agg [.str s_5,.str s_8],.bool true]) h_1):=by
 rw [Zbd hi (by simp)]
 simp only [Zar]
 rw [Zed (Zbx hi) (by simp [putRow])]
 simp only [putRow,List.take_zero,List.nil_append,List.length_cons,List.length_nil,List.cons_append,List.drop_succ_cons,List.drop_zero,List.drop_nil,List.append_nil,List.take_succ_cons,Zap,Zaf,Zag,Zao]
 exact ⟨hs.trans (Zba.set (Nat.le_refl _) _),.inl ⟨_,hn,rfl⟩⟩
theorem Ztm {h:Zaa} (s:List Nat) (hs:s.length≤1048576) (hb:∀ b∈s,b < 256):Zaj pg Zjv [.str s] h (Yfx s h):=by
 apply Zmj.call
 simp only [Zax]
 have h0i:(h ++ [Zby.cells Zab [.str [],.str []] false])[h.length]?=some (.cells Zab [.str [],.str []] false):=by simp
 have s0:Zba h.length h (h ++ [Zby.cells Zab [.str [],.str []] false]):=Zba.app (Nat.le_refl _) _
 match s,hs,hb with
 | [],_,_=>exact Zau (fun _=>Zpm s0 h0i rfl) (fun h1=>by simp at h1)
 | [a],_,_=>exact Zau (fun _=>Zpm s0 h0i rfl) (fun h1=>by simp at h1)
 | [a,b],_,_=>
  refine Zau (fun _=>Zpm s0 h0i ?_) (fun h1=>by simp at h1)
  have:Zmr []=false:=by
   cases ht:Zmr [] with
   | false=>rfl
   | true=>exact absurd rfl (Ymk ht)
  simp [Zmf,this]
 | a :: b :: c :: t,hs,hb=>
  refine Zau (fun h1=>by simp at h1; omega) (fun h1=>?_)
  refine ⟨⟨by omega,by simp; omega⟩,?_⟩
  simp only [show Int.toNat 1=1 from rfl,List.getD_cons_succ,List.getD_cons_zero]
  refine Zhn (fun hne=>Zpm s0 h0i ?_) (fun he=>?_)
  ·have:¬ b=32:=by omega
   simp [Zmf,this]
  ·have hb32:b=32:=by omega
   subst hb32
   refine ⟨⟨by omega,by omega,by simp; omega⟩,?_⟩
   rw [Ycn]
   refine (Zvu [a] (fun x hx=>hb x (by simp at hx; simp [hx]))).mono ?_
   rintro v h2 ⟨rfl,rfl⟩
   simp only [Zaq]
   refine Zbs (fun hc=>Zpm s0 h0i ?_) (fun hc=>?_)
   ·have:¬ (65≤a∧a≤84):=by simp [Zue] at hc; omega
    simp [Zmf,this]
   ·have ha:65≤a∧a≤84:=by simpa [Zue] using hc
    refine ⟨⟨by omega,by simp; omega,by omega⟩,?_⟩
    rw [Ybm (s:=a :: 32 :: c :: t) (z:=2) (k:=2) rfl (by simp)]
    simp only [List.drop_succ_cons,List.drop_zero]
    refine (Zir (c :: t) (by simp at hs ⊢; omega) _).mono ?_
    rintro v h3 ⟨rfl,s3⟩
    simp only [Zaq]
    have h3i:h3[h.length]?=some (.cells Zab [.str [],.str []] false):=by rw [s3.eq _ (by simp)]; exact h0i
    have s03:Zba h.length h h3:=s0.trans (s3.mono (by simp))
    refine Zbs (fun hv=>Zpm s03 h3i ?_) (fun hv=>?_)
    ·simp [Zmf,hv]
    ·apply Zmj.J3i
     rw [Ycn,Ybm (s:=a :: 32 :: c :: t) (z:=2) (k:=2) rfl (by simp)]
     simp only [List.drop_succ_cons,List.drop_zero]
     exact ⟨⟨by omega,by omega,by simp; omega⟩,⟨by omega,by simp; omega,by omega⟩,Yjz s03 h3i (Yke ha hv)⟩

theorem Zhv:pg.underlying Zbm=some (.slice Zab):=by kernel_rfl
theorem Zoh:pg.cellsOf Zab=2:=by kernel_rfl
theorem Zoi:pg.okElem Zab=true:=by kernel_rfl
theorem Zog:pg.bytesOf Zab≤127:=Nat.le_of_ble_eq_true (by kernel_rfl)
def Zdd {α:Type} (ty:TypeId) (enc:α→List Zat) (b:Nat) (h:Zaa) (a:Pt) (n:Nat) (l:List α):Prop:=l.length=n∧(n=0 ∨ ∃ i,a=some (i,0)∧b≤i∧h[i]?=some (.cells ty (Zdg enc l) false))
theorem Zdd.row {α:Type} {ty:TypeId} {enc:α→List Zat} {w b:Nat} {h:Zaa} {a:Pt} {n:Nat} {l:List α} (hw:∀ x,(enc x).length=w) (f:Zdd ty enc b h a n l):Row h.length h a (n * w) (Zdg enc l):=by
 obtain ⟨hl,h0 | ⟨i,ha,hb,hi⟩⟩:=f
 ·subst h0
  have:l=[]:=List.eq_nil_of_length_eq_zero hl
  subst this; simp; exact Row.nil
 ·rw [ha]; exact (Vec.mk1 (n:=0) (c:=0) hi).row (by rw [Zav hw,hl])
theorem Zdd.same {α:Type} {ty:TypeId} {enc:α→List Zat} {b:Nat} {h h':Zaa} {a:Pt} {n:Nat} {l:List α} (f:Zdd ty enc b h a n l) (s:Zba h.length h h'):Zdd ty enc b h' a n l:=
 ⟨f.1,f.2.imp id fun ⟨i,ha,hb,hi⟩=>⟨i,ha,hb,by rw [s.eq i (Own.lt hi)]; exact hi⟩⟩
end Go.Sim

set_option linter.unusedVariables false
set_option linter.unusedSimpArgs false
set_option maxRecDepth 20000
namespace Go.Sim
open Go Go.RowKit

def Yko (a:Pt) (n:Nat) (h h':Zaa):Prop:=h.length≤h'.length∧∀ j,j < h.length→(∀ i,a=some (i,0)→n≠0→j≠i)→h'[j]?=h[j]?
theorem Yko.refl (a:Pt) (n:Nat) (h:Zaa):Yko a n h h:=⟨Nat.le_refl _,fun _ _ _=>rfl⟩
theorem Yko.same {a:Pt} {n:Nat} {h h1 h2:Zaa} (o:Yko a n h h1) (s:Zba h1.length h1 h2):Yko a n h h2:=⟨Nat.le_trans o.1 s.le,fun j hj hn=>by rw [s.eq j (by have:=o.1; omega)]; exact o.2 j hj hn⟩
theorem Yko.set {n i:Nat} {h h1:Zaa} {x:Zby} (o:Yko (some (i,0)) n h h1) (hn:n≠0):Yko (some (i,0)) n h (h1.set i x):=⟨by simp; exact o.1,fun j hj hne=>by rw [Zbo (fun e=>hne i rfl hn e.symm)]; exact o.2 j hj hne⟩
theorem Row.only {b:Nat} {h h':Zaa} {a a':Pt} {n m:Nat} {cs:List Zat} (r:Row b h a m cs) (o:Yko a' n h h') (hb:∀ i,a'=some (i,0)→n≠0→b≤i):Row b h' a m cs:=by
 obtain ⟨hl,r⟩:=r
 refine ⟨hl,r.imp id ?_⟩
 rintro ⟨i,o',t,all,ro,ha,hi,hg,x⟩
 exact ⟨i,o',t,all,ro,ha,hi,by rw [o.2 i (Own.lt hg) fun j hj hn=>by have:=hb j hj hn; omega]; exact hg,x⟩
theorem Zdd.only {α:Type} {ty:TypeId} {enc:α→List Zat} {b:Nat} {h h':Zaa} {a a':Pt} {n m:Nat} {l:List α} (f:Zdd ty enc b h a n l) (o:Yko a' m h h') (hb:∀ i,a'=some (i,0)→m≠0→∀ j,a=some (j,0)→j≠i):Zdd ty enc b h' a n l:=
 ⟨f.1,f.2.imp id fun ⟨i,ha,hbi,hi⟩=>⟨i,ha,hbi,by rw [o.2 i (Own.lt hi) fun j hj hn=>hb j hj hn i ha]; exact hi⟩⟩
end Go.Sim

set_option linter.unusedVariables false
set_option linter.unusedSimpArgs false
set_option maxRecDepth 20000
namespace Go.Sim
open Go Go.RowKit

structure EI where
 c:List Nat
 t:List Nat
 a:Pt
 n:Nat
 cp:Nat
 e:Bool
 deriving Inhabited
def eN (x:EI):List Zat:=[.str x.c,.str x.t,.slice x.a x.n x.cp x.e]
theorem Zox (x:EI):(eN x).length=3:=rfl
def Ytl (h:Zaa) (x:EI) (i:Ins):Prop:=x.c=i.1.1∧x.t=i.1.2∧Row h.length h x.a (x.n * 2) (Zdg eP i.2)
def Yph (h:Zaa) (xs:List EI) (is:List Ins):Prop:=xs.length=is.length∧∀ (k:Nat) (x:EI) (i:Ins),xs[k]?=some x→is[k]?=some i→Ytl h x i
structure Zlx (h:Zaa) (a0:Pt) (n0 c0:Nat) (a1:Pt) (n1 c1:Nat) (w:Wd):Prop where
 cls:Row h.length h a0 (n0 * 2) (Zdg eP w.cs)
 ins:∃ xs,Row h.length h a1 (n1 * 3) (Zdg eN xs)∧Yph h xs w.is
 le0:n0≤c0
 le1:n1≤c1
theorem Row.same' {h h':Zaa} {a:Pt} {n:Nat} {cs:List Zat} (r:Row h.length h a n cs) (s:Zba h.length h h'):Row h'.length h' a n cs:=(r.same s).mono s.le
theorem Ytl.same {h h':Zaa} {x:EI} {i:Ins} (r:Ytl h x i) (s:Zba h.length h h'):Ytl h' x i:=⟨r.1,r.2.1,r.2.2.same' s⟩
theorem Yph.same {h h':Zaa} {xs:List EI} {is:List Ins} (r:Yph h xs is) (s:Zba h.length h h'):Yph h' xs is:=⟨r.1,fun k x i hx hi=>(r.2 k x i hx hi).same s⟩
theorem Zlx.same {h h':Zaa} {a0 a1:Pt} {n0 c0 n1 c1:Nat} {w:Wd} (r:Zlx h a0 n0 c0 a1 n1 c1 w) (s:Zba h.length h h'):Zlx h' a0 n0 c0 a1 n1 c1 w:=
 ⟨r.cls.same' s,r.ins.imp fun xs ⟨r1,r2⟩=>⟨r1.same' s,r2.same s⟩,r.le0,r.le1⟩
theorem Ytl.len {h:Zaa} {x:EI} {i:Ins} (r:Ytl h x i):i.2.length=x.n:=by have:=r.2.2.1; rw [Zav Zcz] at this; omega
theorem Zlx.len0 {h:Zaa} {a0 a1:Pt} {n0 c0 n1 c1:Nat} {w:Wd} (r:Zlx h a0 n0 c0 a1 n1 c1 w):w.cs.length=n0:=by have:=r.cls.1; rw [Zav Zcz] at this; omega
theorem Zlx.len1 {h:Zaa} {a0 a1:Pt} {n0 c0 n1 c1:Nat} {w:Wd} (r:Zlx h a0 n0 c0 a1 n1 c1 w):w.is.length=n1:=by
 obtain ⟨xs,r1,r2,_⟩:=r.ins
 have:=r1.1; rw [Zav Zox] at this; omega
theorem Zlx.class {h:Zaa} {a0 a1:Pt} {n0 c0 n1 c1:Nat} {w:Wd} (r:Zlx h a0 n0 c0 a1 n1 c1 w) {k:Nat} (hk:k < n0) :
  ∃ i o,∃ hk':k < w.cs.length,a0=some (i,o)∧i < h.length∧Zbj h (.ptr (some (i,o + k * 2))) 2=some [.str w.cs[k].1,.str w.cs[k].2]∧Zae h (.ptr (some (i,o + k * 2)))=some (.str w.cs[k].1)∧Zae h (.ptr (some (i,o + k * 2 + 1)))=some (.str w.cs[k].2):=by
 obtain ⟨i,o,hk',ha,hi,hr,hc⟩:=Row.el Zcz r.cls r.len0 hk (by omega)
 exact ⟨i,o,hk',ha,hi,hr,by simpa [eP] using hc 0 (by omega),by simpa [eP] using hc 1 (by omega)⟩
theorem Zlx.inst {h:Zaa} {a0 a1:Pt} {n0 c0 n1 c1:Nat} {w:Wd} (r:Zlx h a0 n0 c0 a1 n1 c1 w) {k:Nat} (hk:k < n1) :
  ∃ i o,∃ hk':k < w.is.length,∃ a n cp e,a1=some (i,o)∧i < h.length∧Zbj h (.ptr (some (i,o + k * 3))) 3=some [.str w.is[k].1.1,.str w.is[k].1.2,.slice a n cp e]∧Zae h (.ptr (some (i,o + k * 3)))=some (.str w.is[k].1.1)∧Zae h (.ptr (some (i,o + k * 3 + 1)))=some (.str w.is[k].1.2)∧Zae h (.ptr (some (i,o + k * 3 + 2)))=some (.slice a n cp e) ∧
   Row h.length h a (n * 2) (Zdg eP w.is[k].2)∧w.is[k].2.length=n:=by
 have hl:=r.len1
 obtain ⟨xs,r1,r2,r3⟩:=r.ins
 obtain ⟨i,o,hk',ha,hi,hr,hc⟩:=Row.el Zox r1 (by omega) hk (by omega)
 have hI:=r3 k xs[k] w.is[k] (List.getElem?_eq_getElem hk') (List.getElem?_eq_getElem (by omega))
 obtain ⟨e1,e2,e3⟩:=id hI
 refine ⟨i,o,by omega,xs[k].a,xs[k].n,xs[k].cp,xs[k].e,ha,hi,?_,?_,?_,?_,e3,hI.len⟩
 ·rw [hr,eN,e1,e2]
 ·have:=hc 0 (by omega); rw [← e1]; simpa [eN] using this
 ·have:=hc 1 (by omega); rw [← e2]; simpa [eN] using this
 ·have:=hc 2 (by omega); simpa [eN] using this
theorem Row.pr {b:Nat} {h:Zaa} {a:Pt} {n:Nat} {l:List Nd} (r:Row b h a (n * 2) (Zdg eP l)) {k:Nat} (hk:k < n) :
  ∃ i o,∃ hk':k < l.length,a=some (i,o)∧i < b∧Zbj h (.ptr (some (i,o + k * 2))) 2=some [.str l[k].1,.str l[k].2]∧Zae h (.ptr (some (i,o + k * 2)))=some (.str l[k].1)∧Zae h (.ptr (some (i,o + k * 2 + 1)))=some (.str l[k].2):=by
 have hl:l.length=n:=by have:=r.1; rw [Zav Zcz] at this; omega
 obtain ⟨i,o,hk',ha,hi,hr,hc⟩:=Row.el Zcz r hl hk (by omega)
 exact ⟨i,o,hk',ha,hi,hr,by simpa [eP] using hc 0 (by omega),by simpa [eP] using hc 1 (by omega)⟩

def Mid (lo hi:Nat) (h h':Zaa):Prop:=h.length≤h'.length∧∀ j,j < h.length→(j < lo ∨ hi≤j)→h'[j]?=h[j]?
theorem Mid.refl (lo hi:Nat) (h:Zaa):Mid lo hi h h:=⟨Nat.le_refl _,fun _ _ _=>rfl⟩
theorem Mid.trans {lo hi:Nat} {h h1 h2:Zaa} (a:Mid lo hi h h1) (b:Mid lo hi h1 h2):Mid lo hi h h2:=⟨Nat.le_trans a.1 b.1,fun j hj hn=>by rw [b.2 j (by have:=a.1; omega) hn]; exact a.2 j hj hn⟩
theorem Mid.of_same {lo hi:Nat} {h h':Zaa} (s:Zba h.length h h'):Mid lo hi h h':=⟨s.le,fun j hj _=>s.eq j hj⟩
theorem Mid.same {lo hi:Nat} {h h1 h2:Zaa} (a:Mid lo hi h h1) (s:Zba h1.length h1 h2):Mid lo hi h h2:=a.trans (Mid.of_same s)
theorem Mid.set {lo hi i:Nat} {h h1:Zaa} {x:Zby} (o:Mid lo hi h h1) (h0:lo≤i) (h2:i < hi):Mid lo hi h (h1.set i x):=⟨by simp; exact o.1,fun j hj hne=>by rw [Zbo (by omega)]; exact o.2 j hj hne⟩
theorem Yko.mid {lo hi:Nat} {a:Pt} {n:Nat} {h h':Zaa} (o:Yko a n h h') (hb:∀ i,a=some (i,0)→n≠0→lo≤i∧i < hi):Mid lo hi h h':=⟨o.1,fun j hj hn=>o.2 j hj fun i hi h0=>by have:=hb i hi h0; omega⟩
theorem Zdd.in {α:Type} {ty:TypeId} {enc:α→List Zat} {b:Nat} {h:Zaa} {a:Pt} {n:Nat} {l:List α} (f:Zdd ty enc b h a n l):∀ i,a=some (i,0)→n≠0→b≤i∧i < h.length:=by
 intro i hi hn
 rcases f.2 with h0 | ⟨j,ha,hb,hj⟩
 ·exact absurd h0 hn
 ·rw [hi] at ha; cases ha; exact ⟨hb,Own.lt hj⟩
theorem Row.mid {lo hi b:Nat} {h h':Zaa} {a:Pt} {m:Nat} {cs:List Zat} (r:Row b h a m cs) (o:Mid lo hi h h') (hb:b≤lo):Row b h' a m cs:=by
 obtain ⟨hl,r⟩:=r
 refine ⟨hl,r.imp id ?_⟩
 rintro ⟨i,o',t,all,ro,ha,hi,hg,x⟩
 exact ⟨i,o',t,all,ro,ha,hi,by rw [o.2 i (Own.lt hg) (.inl (by omega))]; exact hg,x⟩
theorem Zdd.mid {α:Type} {ty:TypeId} {enc:α→List Zat} {lo hi b:Nat} {h h':Zaa} {a:Pt} {n:Nat} {l:List α} (f:Zdd ty enc b h a n l) (o:Mid lo hi h h') (hb:hi≤b):Zdd ty enc b h' a n l:=
 ⟨f.1,f.2.imp id fun ⟨i,ha,hbi,hi⟩=>⟨i,ha,hbi,by rw [o.2 i (Own.lt hi) (.inr (by omega))]; exact hi⟩⟩

structure Zqu (b:Nat) (h:Zaa) (a0:Pt) (n0:Nat) (a1:Pt) (n1:Nat) (xs:List EI) (w:Wd):Prop where
 cls:Zdd Zbi eP b h a0 n0 w.cs
 ins:Zdd Zac eN b h a1 n1 xs
 len:xs.length=w.is.length
 need:∀ (k:Nat) (x:EI) (i:Ins),xs[k]?=some x→w.is[k]?=some i→x.c=i.1.1∧x.t=i.1.2∧Zdd Zab eP b h x.a x.n i.2
 sep:∀ (j k:Nat) (x y:EI),j≠k→xs[j]?=some x→xs[k]?=some y→x.n≠0→y.n≠0→x.a≠y.a
 nn:∀ x∈xs,x.a≠none
 nc:a0≠none
theorem Zqu.same {b:Nat} {h h':Zaa} {a0 a1:Pt} {n0 n1:Nat} {xs:List EI} {w:Wd} (f:Zqu b h a0 n0 a1 n1 xs w) (s:Zba h.length h h'):Zqu b h' a0 n0 a1 n1 xs w:=
 ⟨f.cls.same s,f.ins.same s,f.len,fun k x i hx hi=>⟨(f.need k x i hx hi).1,(f.need k x i hx hi).2.1,(f.need k x i hx hi).2.2.same s⟩,f.sep,f.nn,f.nc⟩
theorem Zqu.mid {lo hi b:Nat} {h h':Zaa} {a0 a1:Pt} {n0 n1:Nat} {xs:List EI} {w:Wd} (f:Zqu b h a0 n0 a1 n1 xs w) (s:Mid lo hi h h') (hb:hi≤b):Zqu b h' a0 n0 a1 n1 xs w:=
 ⟨f.cls.mid s hb,f.ins.mid s hb,f.len,fun k x i hx hi=>⟨(f.need k x i hx hi).1,(f.need k x i hx hi).2.1,(f.need k x i hx hi).2.2.mid s hb⟩,f.sep,f.nn,f.nc⟩
theorem Zqu.rep {b:Nat} {h:Zaa} {a0 a1:Pt} {n0 c0 n1 c1:Nat} {xs:List EI} {w:Wd} (f:Zqu b h a0 n0 a1 n1 xs w) (h0:n0≤c0) (h1:n1≤c1):Zlx h a0 n0 c0 a1 n1 c1 w:=
 ⟨f.cls.row Zcz,⟨xs,f.ins.row Zox,f.len,fun k x i hx hi=>⟨(f.need k x i hx hi).1,(f.need k x i hx hi).2.1,(f.need k x i hx hi).2.2.row Zcz⟩⟩,h0,h1⟩
end Go.Sim

set_option linter.unusedVariables false
set_option linter.unusedSimpArgs false
set_option maxRecDepth 20000
namespace Go.Sim
open Go Go.RowKit

def one (c:Nat):List Nat:=[c]
theorem Zxg:pg.underlying Zke=some (.slice Zbh):=by kernel_rfl
theorem Ycl:pg.cellsOf Zbh=1:=by kernel_rfl
theorem Ycq:pg.okElem Zbh=true:=by kernel_rfl
theorem Yco:pg.bytesOf Zbh≤127:=Nat.le_of_ble_eq_true (by kernel_rfl)
theorem Ysp (s:List Nat) (h:Zaa):Zaj pg Zth [.str s] h fun v h'=>Zba h.length h h'∧∃ a n c e,v=.slice a n c e∧Row h'.length h' a n (strs ((Zpg s).map one)):=by
 apply Zka.call
 simp only [Zax]
 have hlist:(h ++ [Zby.cells Zbh [] false] ++ [Zby.cells Zbh [.str [88],.str [89],.str [90],.str [120],.str [121],.str [122]] false])[h.length + 1]?=some (.cells Zbh [.str [88],.str [89],.str [90],.str [120],.str [121],.str [122]] false):=by simp
 have hlen:List.length (h ++ [Zby.cells Zbh [] false])=h.length + 1:=by simp
 rw [hlen]
 refine Zka.L3ind _ _ _ _ _ _ _ (J:=fun (g:Nat) a3 n3 c3 e3 x9 h'=>x9=(g:Int)∧g≤6∧Zba h.length h h'∧h'[h.length + 1]?=some (.cells Zbh [.str [88],.str [89],.str [90],.str [120],.str [121],.str [122]] false)∧n3=(((Zei.take g).filter fun v=>decide (v∈s)).map one).length∧Vec Zbh h' a3 n3 c3 (strs (((Zei.take g).filter fun v=>decide (v∈s)).map one))∧∀ i,a3=some (i,0)→h.length≤i∧i≠h.length + 1) (fun g=>6 - g) ?_ 0 _ _ _ _ _ _
  ⟨rfl,by omega,(Zba.app (Nat.le_refl _) _).trans (Zba.app (by simp) _),hlist,by simp,Vec.mk1 (by simp),fun i hi=>by cases hi; omega⟩
 rintro g a3 n3 c3 e3 x9 h' ⟨rfl,hg,hS,hl,rfl,hv,ha⟩ R hR
 unfold Zka.L3t
 refine Zau (fun hlt=>?_) (fun hge=>?_)
 ·have hlt':g < 6:=by omega
  have hc:∃ c,Zei[g]?=some c∧Zae h' (.ptr (some (h.length + 1,0 + (g:Int).toNat * 1)))=some (.str [c]):=by
   rw [Zal hl,Int.toNat_natCast]
   match g,hlt' with
   | 0,_ | 1,_ | 2,_ | 3,_ | 4,_ | 5,_=>exact ⟨_,rfl,rfl⟩
  obtain ⟨c,hc1,hc2⟩:=hc
  simp only [Zaw,hc2,Zag]
  refine ⟨by omega,Zoj.mono ?_⟩
  rintro v h2 ⟨rfl,rfl⟩
  simp only [Zaq]
  have htk:Zei.take (g + 1)=Zei.take g ++ [c]:=by
   rw [List.take_succ,hc1]; rfl
  have hbd:(((Zei.take g).filter fun v=>decide (v∈s)).map one).length≤6:=by
   rw [List.length_map]
   exact Nat.le_trans (List.length_filter_le _ _) (by simp; omega)
  refine Zau (fun hin=>?_) (fun hout=>?_)
  ·simp only [Zax]
   refine hv.push Zxg Ycl Ycq Yco (by simp) rfl (by omega) (fun h4 hl4 hi4 hk4=>?_)
   simp only [Zah]
   apply Zka.J7i
   rw [Zbq (by omega)]
   have hle:=hS.le
   refine hR (g + 1) _ _ _ _ _ _ (by omega) ⟨rfl,by omega,⟨by omega,fun j hj=>?_⟩,?_,?_,Vec.mk1 ?_,fun i hi=>by cases hi; have:=Own.lt hl; omega⟩
   ·rw [hk4 j (by omega) fun i hi=>by have:=(ha i hi).1; omega]; exact hS.eq j hj
   ·rw [hk4 _ (Own.lt hl) fun i hi=>(ha i hi).2.symm]; exact hl
   ·rw [htk,List.filter_append]; simp [hin]
   ·rw [hi4,htk,List.filter_append]; simp [hin,strs,one]
  ·apply Zka.J7i
   rw [Zbq (by omega)]
   have hf:(Zei.take (g + 1)).filter (fun v=>decide (v∈s))=(Zei.take g).filter fun v=>decide (v∈s):=by rw [htk,List.filter_append]; simp [hout]
   refine hR (g + 1) _ _ _ _ _ _ (by omega) ⟨rfl,by omega,hS,hl,by rw [hf],by rw [hf]; exact hv,ha⟩
 ·have:g=6:=by omega
  subst this
  apply Zka.A3x0i
  refine ⟨hS,_,_,_,_,rfl,hv.row (by simp)⟩
end Go.Sim

set_option linter.unusedVariables false
set_option linter.unusedSimpArgs false
set_option maxRecDepth 20000
namespace Go.Sim
open Go Go.RowKit

theorem Zfg {h:Zaa} {t:TypeId} {cs:List Zat} {o:Nat}:Zae (h ++ [.cells t cs false]) (.ptr (some (h.length,o)))=cs[o]?:=Zal (t:=t) (cs:=cs) (ro:=false) (by simp)
theorem Yec {h:Zaa} {t:TypeId} {cs:List Zat} {n:Nat} (hn:cs.length=n):Zbj (h ++ [.cells t cs false]) (.ptr (some (h.length,0))) n=some cs:=by
 rw [Zed (show (h ++ [Zby.cells t cs false])[h.length]?=some (.cells t cs false) by simp) (by omega)]; simp [← hn]
theorem Zam {h:Zaa} {x:Zby}:Zba h.length h (h ++ [x]):=Zba.app (Nat.le_refl _) _
theorem Zsg {h:Zaa} {t:TypeId} {cs vs:List Zat} (hl:cs.length=vs.length):Zaz (h ++ [.cells t cs false]) (.ptr (some (h.length,0))) vs=some (h ++ [.cells t vs false]):=by
 rw [Zbd (show (h ++ [Zby.cells t cs false])[h.length]?=some (.cells t cs false) by simp) (by omega)]
 simp [putRow,hl]
theorem Zgb {h:Zaa} {t:TypeId} {x y a b:Zat}:Zaz (h ++ [.cells t [x,y] false]) (.ptr (some (h.length,0))) [a,b]=some (h ++ [.cells t [a,b] false]):=Zsg rfl
theorem Yue {h:Zaa} {t:TypeId} {x y z a b c:Zat}:Zaz (h ++ [.cells t [x,y,z] false]) (.ptr (some (h.length,0))) [a,b,c]=some (h ++ [.cells t [a,b,c] false]):=Zsg rfl
theorem Row.sl {b:Nat} {h:Zaa} {a:Pt} {n k:Nat} {l:List Nd} (r:Row b h a (n * 2) (Zdg eP l)) (hk:k≤n) (hl:l.length=n):Row b h a (k * 2) (Zdg eP (l.take k)):=by
 obtain ⟨h1,h2⟩:=r
 have e:(Zdg eP (l.take k)).length=k * 2:=by rw [Zav Zcz,List.length_take,Nat.min_eq_left (by omega)]
 refine ⟨e,?_⟩
 rcases h2 with h0 | ⟨i,o,t,all,ro,ha,hb,hi,hle,hcs⟩
 ·exact .inl (by omega)
 ·refine .inr ⟨i,o,t,all,ro,ha,hb,hi,by omega,?_⟩
  rw [← Yfr Zcz,hcs,List.take_take,Nat.min_eq_left (by omega)]
theorem Yhz {b:Nat} {h:Zaa} {a:Pt} {n c k:Nat} {e:Bool} {l:List Nd} {K:Zat→Prop} (r:Row b h a (n * 2) (Zdg eP l)) (hl:l.length=n) (hk:k≤n) (hc:n≤c) {z:Int} (hz:z=k)
  (hK:∀ a' c' e',Row b h a' (k * 2) (Zdg eP (l.take k))→k≤c'→K (.slice a' k c' e')):Zhu a n c e 2 none (some (.int .i64 z)) none K:=by
 subst hz
 simp only [Zhu,Zks]
 refine ⟨by omega,?_⟩
 split
 ·have h0:n=0:=by
   obtain ⟨h1,h2⟩:=r
   rcases h2 with h2 | ⟨i,o,t,all,ro,ha,_⟩
   ·omega
   ·cases ha
  have hk0:k=0:=by omega
  subst hk0
  exact ⟨⟨by trivial,by simp,.inl (by trivial)⟩,hK _ _ _ (by simpa using Row.nil) (by omega)⟩
 ·rename_i i o
  refine ⟨fun hlt=>?_,fun hlt=>?_⟩
  ·have e2:((k:Int) - 0).toNat=k:=by omega
   have e3:o + Int.toNat 0 * 2=o:=by simp
   have e4:((c:Int) - 0).toNat=c:=by omega
   rw [e2,e3,e4]
   exact hK _ _ _ (r.sl hk hl) (by omega)
  ·have hk0:k=0:=by omega
   subst hk0
   exact hK _ _ _ (by simpa using Row.nil) (by omega)

theorem Ygg {h:Zaa} {x:Nd} {j:Nat} {c:List Nat} (hj:Zae h (.ptr (some (j,0)))=some (.str c)) (hjl:j < h.length) :
  Zaj pg Zdk [.agg [.str x.1,.str x.2],.ptr (some (j,0))] h fun v h'=>v=.bool (decide (x.1=c))∧Zba h.length h h':=by
 apply Zpl.call
 simp only [Zax,Zfg,List.getElem?_cons_zero,Zag]
 have:=(Zam (h:=h) (x:=.cells Zbi [.str x.1,.str x.2] false)).cell hjl hj
 rw [this]
 exact ⟨rfl,Zam⟩
theorem Ygn {h:Zaa} {a:Pt} {n c:Nat} {e:Bool} {cs:List Nd} {j:Nat} {s:List Nat} (r:Row h.length h a (n * 2) (Zdg eP cs)) (hn:n≤4611686018427387904) (hj:Zae h (.ptr (some (j,0)))=some (.str s)) (hjl:j < h.length) :
  Zaj pg Zdw [.slice a n c e,.fn Zdk [.ptr (some (j,0))]] h fun v h'=>(∃ z:Int,v=.int .i64 z∧decide (z ≥ 0)=Zha cs s)∧Zba h.length h h':=by
 have hl:cs.length=n:=by have:=r.1; rw [Zav Zcz] at this; omega
 apply Zbt.call
 refine Zbt.L2ind _ _ _ _ _ _ _ (J:=fun (g:Nat) x8 h'=>x8=(g:Int)∧g≤n∧Zba h.length h h'∧Zha (cs.take g) s=false) (fun g=>n - g) ?_ 0 _ _ ⟨rfl,by omega,Zba.refl _ _,rfl⟩
 rintro g x8 h' ⟨rfl,hg,hS,hk⟩ R hR
 unfold Zbt.L2t
 refine Zau (fun hlt=>?_) (fun hge=>?_)
 ·obtain ⟨i,o,hgl,rfl,_,hr,_⟩:=(r.same hS).pr (k:=g) (by omega)
  simp only [Zaw,Int.toNat_natCast,hr,Zap,Zaf,Zao,Zag]
  refine ⟨by omega,(Ygg (x:=cs[g]) (hS.cell hjl hj) (by have:=hS.le; omega)).mono ?_⟩
  rintro v h2 ⟨rfl,s2⟩
  simp only [Zaq]
  have hS2:=hS.trans (s2.mono hS.le)
  refine Zau (fun he=>?_) (fun he=>?_)
  ·refine ⟨⟨_,rfl,?_⟩,hS2⟩
   have:Zha cs s=true:=by unfold Zha; rw [List.any_eq_true]; exact ⟨_,List.getElem_mem hgl,by simpa using he⟩
   rw [this]; simp
  ·rw [Zbq (by omega)]
   exact hR (g + 1) _ _ (by omega) ⟨rfl,by omega,hS2,by rw [Zzf hgl,hk]; simp [he]⟩
 ·apply Zbt.A2x0i
  have:g=n:=by omega
  subst this
  rw [List.take_of_length_le (by omega)] at hk
  exact ⟨⟨_,rfl,by rw [hk]; rfl⟩,hS⟩
theorem Zwr {h:Zaa} {a:Pt} {n c:Nat} {e:Bool} {cs:List Nd} {s:List Nat} (r:Row h.length h a (n * 2) (Zdg eP cs)) (hn:n≤4611686018427387904) :
  Zaj pg Zkd [.slice a n c e,.str s] h fun v h'=>v=.bool (Zha cs s)∧Zba h.length h h':=by
 apply Zvw.call
 simp only [Zax]
 apply Zdo.call
 have s1:Zba h.length h (h ++ [.cells Zbh [.str s] false]):=Zam
 refine (Ygn (r.same' s1) hn (s:=s) (by rw [Zfg]; rfl) (by simp)).mono ?_
 rintro v h2 ⟨⟨z,rfl,hz⟩,s2⟩
 simp only [Zas,Zaq]
 exact ⟨by rw [hz],s1.trans (s2.mono s1.le)⟩
theorem Zsj {h:Zaa} {a a1:Pt} {n c n1 c1:Nat} {e e1:Bool} {cs:List Nd} {s:List Nat} (r:Row h.length h a (n * 2) (Zdg eP cs)) (hn:n≤4611686018427387904) :
  Zaj pg Zhl [.agg [.slice a n c e,.slice a1 n1 c1 e1],.str s] h fun v h'=>v=.int .i64 (Ygm cs s)∧Zba h.length h h':=by
 have hl:cs.length=n:=by have:=r.1; rw [Zav Zcz] at this; omega
 apply Zjm.call
 simp only [Zax,Zfg,Nat.add_zero,List.getElem?_cons_zero,Zah]
 have s1:Zba h.length h (h ++ [.cells Zad [.slice a n c e,.slice a1 n1 c1 e1] false]):=Zam
 refine Zjm.L2ind _ _ _ _ _ _ _ (J:=fun (g:Nat) x10 h'=>x10=(g:Int)∧g≤n∧Zba h.length h h'∧Zha (cs.take g) s=false) (fun g=>n - g) ?_ 0 _ _ ⟨rfl,by omega,s1,rfl⟩
 rintro g x8 h' ⟨rfl,hg,hS,hk⟩ R hR
 unfold Zjm.L2t
 refine Zau (fun hlt=>?_) (fun hge=>?_)
 ·obtain ⟨i,o,hgl,rfl,_,hr,_⟩:=(r.same hS).pr (k:=g) (by omega)
  simp only [Zaw,Int.toNat_natCast,hr,Zap,Zaf,Zao,Zag,Zax]
  rw [Zgb]
  simp only [Zar,Zfg,Nat.add_zero,List.getElem?_cons_zero,Zag]
  refine ⟨by omega,?_⟩
  have hS2:Zba h.length h (h' ++ [.cells Zbi [.str cs[g].1,.str cs[g].2] false]):=hS.trans (Zba.app hS.le _)
  refine Zau (fun he=>?_) (fun he=>?_)
  ·refine ⟨?_,hS2⟩
   have hkn:Zha cs s=true:=by unfold Zha; rw [List.any_eq_true]; exact ⟨_,List.getElem_mem hgl,by simpa using he⟩
   unfold Ygm
   rw [hkn,if_pos rfl]
   congr 2
   symm
   rw [List.findIdx_eq hgl]
   refine ⟨by simpa using he,fun j hj=>?_⟩
   unfold Zha at hk
   rw [List.any_eq_false] at hk
   have:=hk cs[j] (List.mem_take_iff_getElem.2 ⟨j,by omega,rfl⟩)
   simpa using this
  ·rw [Zbq (by omega)]
   exact hR (g + 1) _ _ (by omega) ⟨rfl,by omega,hS2,by rw [Zzf hgl,hk]; simp [he]⟩
 ·apply Zjm.A2x0i
  have:g=n:=by omega
  subst this
  rw [List.take_of_length_le (by omega)] at hk
  exact ⟨by unfold Ygm; rw [hk]; rfl,hS⟩

theorem Ymd {s:List Nat} {g:Nat} {z:Int} (hg:g < s.length) (hz:z=((g + 1:Nat):Int)):sub s (g:Int) z=[s[g]]:=by
 subst hz
 simp only [sub,Int.toNat_natCast]
 rw [List.take_succ_eq_append_getElem hg,List.drop_append_of_le_length (by simp; omega),List.drop_of_length_le (by rw [List.length_take]; exact Nat.min_le_left _ _),List.nil_append]
theorem Zur {g:Nat} (hg:0 < g) (hn:g≤9223372036854775807):IntKind.wrap .i64 ((g:Int) - 1)=((g - 1:Nat):Int):=by rw [IntWalk.i64_in _ (by omega)]; omega
theorem Yih {cs:List Nd} {s:List Nat} {g:Nat} (hg:g < s.length):Zzp cs s g=(Zha cs [s[g]] && (g == 0 || decide (s.getD (g - 1) 0 < s[g]))):=by unfold Zzp; rw [Zfu hg]
theorem Ygw {cs:List Nd} {g:Nat} (hg:g < cs.length):Zzg cs g=(Zue cs[g].1 && (g == 0 || Zer (cs.getD (g - 1) ([],[])).1 cs[g].1) && Ydk (cs.take g) cs[g].2):=by unfold Zzg; rw [Zfu hg]
theorem Zln {cs:List Nd} {g:Nat} (hg:g < cs.length) (h:Zzg cs g=false):Zkf cs=false:=by unfold Zkf; rw [Zko hg h]; rfl
theorem Zvs {h:Zaa} {a a1:Pt} {n c n1 c1:Nat} {e e1:Bool} {cs:List Nd} (r:Row h.length h a (n * 2) (Zdg eP cs)) (hc:n≤c) (hn:n≤1048576) (hs:∀ p∈cs,p.2.length≤1048576) :
  Zaj pg Zjp [.agg [.slice a n c e,.slice a1 n1 c1 e1]] h fun v h'=>v=.bool (Zkf cs)∧Zba h.length h h':=by
 have hl:cs.length=n:=by have:=r.1; rw [Zav Zcz] at this; omega
 apply Zdm.call
 simp only [Zax,Zfg,Nat.add_zero,List.getElem?_cons_zero,Zah]
 have s1:Zba h.length h (h ++ [.cells Zad [.slice a n c e,.slice a1 n1 c1 e1] false]):=Zam
 have hw:(h ++ [Zby.cells Zad [.slice a n c e,.slice a1 n1 c1 e1] false])[h.length]?=some (.cells Zad [.slice a n c e,.slice a1 n1 c1 e1] false):=by simp
 refine Zdm.L2ind _ _ _ _ _ _ _ _ (J:=fun (g:Nat) x9 h'=>x9=(g:Int)∧g≤n∧Zba h.length h h'∧h'[h.length]?=some (.cells Zad [.slice a n c e,.slice a1 n1 c1 e1] false)∧(List.range g).all (Zzg cs)=true) (fun g=>n - g) ?_ 0 _ _ ⟨rfl,by omega,s1,hw,rfl⟩
 rintro g x9 h' ⟨rfl,hg,hS,hW,hk⟩ R hR
 unfold Zdm.L2t
 refine Zau (fun hlt=>?_) (fun hge=>?_)
 ·obtain ⟨i,o,hgl,rfl,hil,hr,_⟩:=(r.same hS).pr (k:=g) (by omega)
  simp only [Zaw,Int.toNat_natCast,hr,Zap,Zaf,Zao,Zag,Zax]
  rw [Zgb]
  simp only [Zar,Zfg,Nat.add_zero,List.getElem?_cons_zero,Zag]
  have hS2:Zba h.length h (h' ++ [.cells Zbi [.str cs[g].1,.str cs[g].2] false]):=hS.trans (Zba.app hS.le _)
  refine ⟨by omega,(Yjn _).mono ?_⟩
  rintro v h2 ⟨rfl,rfl⟩
  simp only [Zaq,true_and]
  have hcl:=Ygw hgl
  have hle:=hS2.le
  have hWl:=Own.lt hW
  have hW2:(h' ++ [.cells Zbi [.str cs[g].1,.str cs[g].2] false])[h.length]?=some (.cells Zad [.slice (some (i,o)) n c e,.slice a1 n1 c1 e1] false):=Zgz hW
  have hcell:∀ o',Zae (h' ++ [.cells Zbi [.str cs[g].1,.str cs[g].2] false]) (.ptr (some (h'.length,o')))=([.str cs[g].1,.str cs[g].2]:List Zat)[o']?:=fun o'=>Zfg
  -- the classes above
  have key:(Zue cs[g].1 && (g == 0 || Zer (cs.getD (g - 1) ([],[])).1 cs[g].1))=true→Zdm.J6 (fun v h'=>v=.bool (Zkf cs)∧Zba h.length h h') R h'.length 0 h.length 0 (g:Int) (some (i,o)) n c e (n:Int) (g:Int) (h' ++ [.cells Zbi [.str cs[g].1,.str cs[g].2] false]):=by
   intro hpre
   rw [hpre,Bool.true_and] at hcl
   apply Zdm.J6i
   rw [hcell]
   simp only [Nat.zero_add,List.getElem?_cons_succ,List.getElem?_cons_zero,Zag]
   have hsl:=hs cs[g] (List.getElem_mem hgl)
   refine Zdm.L7ind _ _ _ _ _ _ _ _ _ _ _ _ _ _ (J:=fun (q:Nat) x37 h3=>x37=(q:Int)∧q≤cs[g].2.length∧Zba h.length h h3∧h3[h.length]?=some (.cells Zad [.slice (some (i,o)) n c e,.slice a1 n1 c1 e1] false)∧h3[h'.length]?=some (.cells Zbi [.str cs[g].1,.str cs[g].2] false)∧(List.range q).all (Zzp (cs.take g) cs[g].2)=true) (fun q=>cs[g].2.length - q) ?_ 0 _ _ ⟨rfl,by omega,hS2,hW2,by simp,rfl⟩
   rintro q x37 h3 ⟨rfl,hq,hS3,hW3,hI3,hk3⟩ R7 hR7
   unfold Zdm.L7t
   refine Zau (fun hlt3=>?_) (fun hge3=>?_)
   ·have hq':q < cs[g].2.length:=by omega
    simp only [Nat.add_zero,Nat.zero_add,Zal hW3,Zal hI3,List.getElem?_cons_succ,List.getElem?_cons_zero,Zah,Zag,true_and]
    refine Yhz (r.same hS3) hl (k:=g) (by omega) hc rfl (fun a' c' e' hrow hc'=>?_)
    simp only [Zah]
    rw [Zbq (by omega),Ymd hq' rfl]
    refine ⟨⟨by omega,by omega,by omega⟩,(Zwr (hrow.mono hS3.le) (by omega)).mono ?_⟩
    rintro v h4 ⟨rfl,s4⟩
    have hS4:=hS3.trans (s4.mono hS3.le)
    have hW4:h4[h.length]?=some (.cells Zad [.slice (some (i,o)) n c e,.slice a1 n1 c1 e1] false):=by rw [s4.eq _ (Own.lt hW3)]; exact hW3
    have hI4:h4[h'.length]?=some (.cells Zbi [.str cs[g].1,.str cs[g].2] false):=by rw [s4.eq _ (Own.lt hI3)]; exact hI3
    simp only [Zaq,Zal hW3,Zal hW4,Zal hI4,Nat.add_zero,Nat.zero_add,List.getElem?_cons_succ,List.getElem?_cons_zero,Zag,true_and]
    have hsa:=Yih (cs:=cs.take g) hq'
    have fail:Zzp (cs.take g) cs[g].2 q=false→(Zat.bool false=Zat.bool (Zkf cs)∧Zba h.length h h4):=fun hf=>⟨by rw [Zln hgl (by rw [hcl]; unfold Ydk; exact Zko hq' hf)],hS4⟩
    have next:Zzp (cs.take g) cs[g].2 q=true→R7 h.length 0 (g:Int) h'.length 0 (some (i,o)) n c e (n:Int) (g:Int) (cs[g].2.length:Int) (IntKind.wrap .i64 ((q:Int) + 1)) h4:=fun ht=>by
     rw [Zbq (by omega)]
     exact hR7 (q + 1) _ _ (by omega) ⟨rfl,by omega,hS4,hW4,hI4,Zhp hk3 ht⟩
    refine Zbs (fun hb=>fail (by rw [hsa,hb]; rfl)) (fun hb=>?_)
    refine Zau (fun h0=>?_) (fun h0=>?_)
    ·have h0':0 < q:=by omega
     rw [Zur h0' (by omega)]
     refine ⟨⟨by omega,by omega⟩,⟨by omega,by omega⟩,?_⟩
     simp only [Int.toNat_natCast]
     have hd1:cs[g].2.getD q 0=cs[g].2[q]:=Zfu hq'
     have hq0:(q == 0)=false:=by simp; omega
     refine Zau (fun h1=>fail ?_) (fun h1=>Zdm.J11i _ _ _ _ _ _ _ _ _ _ _ _ _ _ _ _ _ (next ?_))
     ·rw [hsa,hb,hq0,← hd1]; simp only [Bool.true_and,Bool.false_or,decide_eq_false_iff_not]; omega
     ·rw [hsa,hb,hq0,← hd1]; simp only [Bool.true_and,Bool.false_or,decide_eq_true_eq]; omega
    ·have:q=0:=by omega
     subst this
     exact Zdm.J11i _ _ _ _ _ _ _ _ _ _ _ _ _ _ _ _ _ (next (by rw [hsa,hb]; rfl))
   ·apply Zdm.A7x2i
    apply Zdm.J12i
    have:q=cs[g].2.length:=by omega
    subst this
    rw [Zbq (by omega)]
    exact hR (g + 1) _ _ (by omega) ⟨rfl,by omega,hS3,hW3,Zhp hk (by rw [hcl]; exact hk3)⟩
  refine Zbs (fun hb=>⟨by rw [Zln hgl (by rw [hcl,hb]; rfl)],hS2⟩) (fun hb=>?_)
  refine Zau (fun h0=>?_) (fun h0=>?_)
  ·have h0':0 < g:=by omega
   rw [Zal hW2]
   simp only [List.getElem?_cons_zero,Zah]
   rw [Zur h0' (by omega)]
   obtain ⟨i',o',hgl',heq,_,_,hc0,_⟩:=(r.same hS2).pr (k:=g - 1) (by omega)
   cases heq
   simp only [Zaw,Int.toNat_natCast,hc0,Zag,Nat.add_zero,Nat.zero_add,hcell,List.getElem?_cons_zero,true_and]
   refine ⟨by omega,?_⟩
   have hg0:(g == 0)=false:=by simp; omega
   have hgd:cs.getD (g - 1) ([],[])=cs[g - 1]:=Zfu hgl'
   refine Zbs (fun hb2=>⟨by rw [Zln hgl (by rw [hcl,hb,hg0,hgd,hb2]; rfl)],hS2⟩) (fun hb2=>key (by rw [hb,hg0,hgd,hb2]; rfl))
  ·have:g=0:=by omega
   subst this
   exact key (by rw [hb]; rfl)
 ·apply Zdm.A2x0i
  have:g=n:=by omega
  subst this
  have hok:Zkf cs=decide (1≤g∧g≤4):=by unfold Zkf; rw [hl,hk,Bool.true_and]
  simp only [Nat.add_zero,Zal hW,List.getElem?_cons_zero,Zah]
  refine Zau (fun h1=>?_) (fun h1=>?_)
  ·refine ⟨?_,hS⟩
   rw [hok]; congr 1; rw [Bool.eq_iff_iff]; simp; omega
  ·refine ⟨?_,hS⟩
   rw [hok]; congr 1; symm; simp; omega
end Go.Sim

set_option linter.unusedVariables false
set_option linter.unusedSimpArgs false
set_option maxRecDepth 20000
namespace Go.Sim
open Go Go.RowKit
theorem Zwg {h:Zaa} {a:Pt} {n c:Nat} {e:Bool} {cs:List Nd} (r:Row h.length h a (n * 2) (Zdg eP cs)) (hc:n≤c) (hn:n≤1048576) (hs:∀ p∈cs,p.2.length≤1048576) (hb256:∀ p∈cs,∀ b∈p.1,b < 256) :
  Zaj pg Zjs [.slice a n c e] h fun v h'=>v=.bool (Zkf cs)∧Zba h.length h h':=by
 have hl:cs.length=n:=by have:=r.1; rw [Zav Zcz] at this; omega
 apply Zdl.call
 refine Zdl.L2ind _ _ _ _ _ _ _ _ _ _ (J:=fun (g:Nat) x9 h'=>x9=(g:Int)∧g≤n∧Zba h.length h h'∧(List.range g).all (Zzg cs)=true) (fun g=>n - g) ?_ 0 _ _ ⟨rfl,by omega,Zba.refl _ _,rfl⟩
 rintro g x9 h' ⟨rfl,hg,hS,hk⟩ R hR
 unfold Zdl.L2t
 refine Zau (fun hlt=>?_) (fun hge=>?_)
 ·obtain ⟨i,o,hgl,rfl,hil,hr,_⟩:=(r.same hS).pr (k:=g) (by omega)
  simp only [Zaw,Int.toNat_natCast,hr,Zap,Zaf,Zao,Zag,Zax]
  rw [Zgb]
  simp only [Zar,Zfg,Nat.add_zero,List.getElem?_cons_zero,Zag]
  have hS2:Zba h.length h (h' ++ [.cells Zbi [.str cs[g].1,.str cs[g].2] false]):=hS.trans (Zba.app hS.le _)
  refine ⟨by omega,(Zvu _ (hb256 _ (List.getElem_mem hgl))).mono ?_⟩
  rintro v h2 ⟨rfl,rfl⟩
  simp only [Zaq,true_and]
  have hcl:=Ygw hgl
  have hle:=hS2.le
  have hcell:∀ o',Zae (h' ++ [.cells Zbi [.str cs[g].1,.str cs[g].2] false]) (.ptr (some (h'.length,o')))=([.str cs[g].1,.str cs[g].2]:List Zat)[o']?:=fun o'=>Zfg
  -- the classes above
  have key:(Zue cs[g].1 && (g == 0 || Zer (cs.getD (g - 1) ([],[])).1 cs[g].1))=true→Zdl.J6 (fun v h'=>v=.bool (Zkf cs)∧Zba h.length h h') R h'.length 0 (some (i,o)) n c e (g:Int) (some (i,o)) n c e (n:Int) (g:Int) (h' ++ [.cells Zbi [.str cs[g].1,.str cs[g].2] false]):=by
   intro hpre
   rw [hpre,Bool.true_and] at hcl
   apply Zdl.J6i
   rw [hcell]
   simp only [Nat.zero_add,List.getElem?_cons_succ,List.getElem?_cons_zero,Zag]
   have hsl:=hs cs[g] (List.getElem_mem hgl)
   refine Zdl.L7ind _ _ _ _ _ _ _ _ _ _ _ _ _ _ _ _ (J:=fun (q:Nat) x37 h3=>x37=(q:Int)∧q≤cs[g].2.length∧Zba h.length h h3∧h3[h'.length]?=some (.cells Zbi [.str cs[g].1,.str cs[g].2] false)∧(List.range q).all (Zzp (cs.take g) cs[g].2)=true) (fun q=>cs[g].2.length - q) ?_ 0 _ _ ⟨rfl,by omega,hS2,by simp,rfl⟩
   rintro q x37 h3 ⟨rfl,hq,hS3,hI3,hk3⟩ R7 hR7
   unfold Zdl.L7t
   refine Zau (fun hlt3=>?_) (fun hge3=>?_)
   ·have hq':q < cs[g].2.length:=by omega
    simp only [Nat.add_zero,Nat.zero_add,Zal hI3,List.getElem?_cons_succ,List.getElem?_cons_zero,Zah,Zag,true_and]
    refine Yhz (r.same hS3) hl (k:=g) (by omega) hc rfl (fun a' c' e' hrow hc'=>?_)
    simp only [Zah]
    rw [Zbq (by omega),Ymd hq' rfl]
    refine ⟨⟨by omega,by omega,by omega⟩,(Zsj (hrow.mono hS3.le) (by omega)).mono ?_⟩
    rintro v h4 ⟨rfl,s4⟩
    have hS4:=hS3.trans (s4.mono hS3.le)
    have hI4:h4[h'.length]?=some (.cells Zbi [.str cs[g].1,.str cs[g].2] false):=by rw [s4.eq _ (Own.lt hI3)]; exact hI3
    simp only [Zas,Zyj,Zal hI4,Nat.add_zero,Nat.zero_add,List.getElem?_cons_succ,List.getElem?_cons_zero,Zag,true_and]
    have hsa:=Yih (cs:=cs.take g) hq'
    have fail:Zzp (cs.take g) cs[g].2 q=false→(Zat.bool false=Zat.bool (Zkf cs)∧Zba h.length h h4):=fun hf=>⟨by rw [Zln hgl (by rw [hcl]; unfold Ydk; exact Zko hq' hf)],hS4⟩
    have next:Zzp (cs.take g) cs[g].2 q=true→R7 (some (i,o)) n c e (g:Int) h'.length 0 (some (i,o)) n c e (n:Int) (g:Int) (cs[g].2.length:Int) (IntKind.wrap .i64 ((q:Int) + 1)) h4:=fun ht=>by
     rw [Zbq (by omega)]
     exact hR7 (q + 1) _ _ (by omega) ⟨rfl,by omega,hS4,hI4,Zhp hk3 ht⟩
    refine Zbs (fun hb=>fail (by rw [hsa,hb]; rfl)) (fun hb=>?_)
    refine Zau (fun h0=>?_) (fun h0=>?_)
    ·have h0':0 < q:=by omega
     rw [Zur h0' (by omega)]
     refine ⟨⟨by omega,by omega⟩,⟨by omega,by omega⟩,?_⟩
     simp only [Int.toNat_natCast]
     have hd1:cs[g].2.getD q 0=cs[g].2[q]:=Zfu hq'
     have hq0:(q == 0)=false:=by simp; omega
     refine Zau (fun h1=>fail ?_) (fun h1=>Zdl.J11i _ _ _ _ _ _ _ _ _ _ _ _ _ _ _ _ _ _ _ (next ?_))
     ·rw [hsa,hb,hq0,← hd1]; simp only [Bool.true_and,Bool.false_or,decide_eq_false_iff_not]; omega
     ·rw [hsa,hb,hq0,← hd1]; simp only [Bool.true_and,Bool.false_or,decide_eq_true_eq]; omega
    ·have:q=0:=by omega
     subst this
     exact Zdl.J11i _ _ _ _ _ _ _ _ _ _ _ _ _ _ _ _ _ _ _ (next (by rw [hsa,hb]; rfl))
   ·apply Zdl.A7x2i
    apply Zdl.J12i
    have:q=cs[g].2.length:=by omega
    subst this
    rw [Zbq (by omega)]
    exact hR (g + 1) _ _ (by omega) ⟨rfl,by omega,hS3,Zhp hk (by rw [hcl]; exact hk3)⟩
  refine Zbs (fun hb=>⟨by rw [Zln hgl (by rw [hcl,hb]; rfl)],hS2⟩) (fun hb=>?_)
  refine Zau (fun h0=>?_) (fun h0=>?_)
  ·have h0':0 < g:=by omega
   rw [Zur h0' (by omega)]
   obtain ⟨i',o',hgl',heq,_,_,hc0,_⟩:=(r.same hS2).pr (k:=g - 1) (by omega)
   cases heq
   simp only [Zaw,Int.toNat_natCast,hc0,Zag,Nat.add_zero,Nat.zero_add,hcell,List.getElem?_cons_zero,true_and]
   refine ⟨by omega,?_⟩
   have hg0:(g == 0)=false:=by simp; omega
   have hgd:cs.getD (g - 1) ([],[])=cs[g - 1]:=Zfu hgl'
   refine Zbs (fun hb2=>⟨by rw [Zln hgl (by rw [hcl,hb,hg0,hgd,hb2]; rfl)],hS2⟩) (fun hb2=>key (by rw [hb,hg0,hgd,hb2]; rfl))
  ·have:g=0:=by omega
   subst this
   exact key (by rw [hb]; rfl)
 ·apply Zdl.A2x0i
  have:g=n:=by omega
  subst this
  have hok:Zkf cs=decide (1≤g∧g≤4):=by unfold Zkf; rw [hl,hk,Bool.true_and]
  refine Ybv.mono ?_
  rintro v h2 ⟨rfl,rfl⟩
  simp only [Zaq]
  refine ⟨?_,hS⟩
  rw [hok]; congr 1; rw [Bool.eq_iff_iff]; simp; omega
end Go.Sim

set_option linter.unusedVariables false
set_option linter.unusedSimpArgs false
set_option maxRecDepth 20000
namespace Go.Sim
open Go Go.RowKit

theorem Ysm (c:Nat):decide (c∈[120,121,122,88,89,90])=Zdp c:=by rw [Bool.eq_iff_iff]; simp [Zdp,or_assoc]
theorem Ybl {h:Zaa} (s:List Nat):Zaj pg Zmc [.str s] h fun v h'=>v=.bool (Zkz s)∧h'=h:=by
 apply Zwd.call
 match s with
 | []=>exact Zcs (fun h1=>by simp at h1) (fun h1=>⟨rfl,rfl⟩)
 | [c]=>
  refine Zcs (fun h1=>?_) (fun h1=>by simp at h1)
  refine Zoj.mono ?_
  rintro v h' ⟨rfl,rfl⟩
  simp only [Zaq]
  exact ⟨by rw [Ysm]; rfl,by trivial⟩
 | c :: d :: r=>exact Zcs (fun h1=>by simp at h1; omega) (fun h1=>⟨rfl,rfl⟩)
theorem Zqh {h:Zaa} (c:Nat):Zaj pg Zgv [.int .u8 (c:Int)] h fun v h'=>v=.bool (Zdp c)∧h'=h:=by
 apply Zpa.call
 refine (Ybw _ c (by simp)).mono ?_
 rintro v h' ⟨rfl,rfl⟩
 simp only [Zas]
 exact ⟨by rw [Ysr],by trivial⟩
noncomputable def Yrx (s v:List Nat):Int:=if Zmr s && Zkz v then (s.count (v.headD 0):Nat) else -1
theorem Ych {h:Zaa} (s v:List Nat) (hs:s.length≤1048576):Zaj pg Znc [.str s,.str v] h fun x h'=>x=.int .i64 (Yrx s v)∧Zba h.length h h':=by
 apply Zfl.call
 refine (Zir s (by omega) h).mono ?_
 rintro x h1 ⟨rfl,s1⟩
 simp only [Zaq]
 refine Zbs (fun hb=>⟨by unfold Yrx; rw [hb]; rfl,s1⟩) (fun hb=>?_)
 match v with
 | []=>exact Zhn (fun _=>⟨by unfold Yrx; rw [hb]; rfl,s1⟩) (fun h1=>by simp at h1)
 | c :: d :: r=>exact Zhn (fun _=>⟨by unfold Yrx; rw [hb]; rfl,s1⟩) (fun h1=>by simp at h1; omega)
 | [c]=>
  refine Zhn (fun h1=>by simp at h1) (fun _=>?_)
  refine ⟨⟨by omega,by simp⟩,?_⟩
  simp only [Int.toNat_zero,List.getD_cons_zero]
  refine (Zqh c).mono ?_
  rintro x h2 ⟨rfl,rfl⟩
  simp only [Zaq]
  refine Zbs (fun hv=>⟨by unfold Yrx; rw [hb,show Zkz [c]=Zdp c from rfl,hv]; rfl,s1⟩) (fun hv=>?_)
  apply Zfl.J3i
  refine Zfl.L5ind _ _ _ _ (J:=fun (g:Nat) x5 x23 h'=>x23=(g:Int)∧g≤s.length∧x5=((s.take g).count c:Nat)∧h'=h2) (fun g=>s.length - g) ?_ 0 _ _ _ ⟨rfl,by omega,by simp,rfl⟩
  rintro g x5 x23 h' ⟨rfl,hg,rfl,rfl⟩ R hR
  unfold Zfl.L5t
  refine Zau (fun hlt=>?_) (fun hge=>?_)
  ·have hg':g < s.length:=by omega
   refine ⟨⟨by omega,by omega⟩,⟨by omega,by simp⟩,?_⟩
   simp only [Int.toNat_zero,List.getD_cons_zero,Int.toNat_natCast,Zfu hg']
   have hc:=List.count_le_length (a:=c) (l:=s.take g)
   rw [List.length_take] at hc
   have htk:(s.take (g + 1)).count c=(s.take g).count c + if s[g]=c then 1 else 0:=by
    rw [List.take_succ_eq_append_getElem hg',List.count_append]; simp [List.count_cons]
   refine Zcs (fun he=>?_) (fun he=>?_)
   ·apply Zfl.J9i
    rw [Zbq (by omega),Zbq (by omega)]
    exact hR (g + 1) _ _ _ (by omega) ⟨rfl,by omega,by rw [htk,if_pos (by omega)],rfl⟩
   ·apply Zfl.J9i
    rw [Zbq (by omega)]
    exact hR (g + 1) _ _ _ (by omega) ⟨rfl,by omega,by rw [htk,if_neg (by omega)]; rfl,rfl⟩
  ·apply Zfl.A5x0i
   have:g=s.length:=by omega
   subst this
   rw [List.take_length]
   refine ⟨?_,s1⟩
   unfold Yrx
   rw [hb,show Zkz [c]=Zdp c from rfl,hv]; rfl
theorem Zsm {h:Zaa} (s:List Nat) (hs:s.length≤1048576):Zaj pg Zgh [.str s] h fun v h'=>v=.str (if Zmr s=true then Zpg s else [])∧Zba h.length h h':=by
 apply Zhg.call
 simp only [Zax]
 have hlist:(h ++ [Zby.cells Zbh [.str [88],.str [89],.str [90],.str [120],.str [121],.str [122]] false])[h.length]?=some (.cells Zbh [.str [88],.str [89],.str [90],.str [120],.str [121],.str [122]] false):=by simp
 refine Zhg.L3ind _ _ _ _ _ _ _ (J:=fun (g:Nat) x3 x8 h'=>x8=(g:Int)∧g≤6∧Zba h.length h h'∧h'[h.length]?=some (.cells Zbh [.str [88],.str [89],.str [90],.str [120],.str [121],.str [122]] false)∧x3=if Zmr s=true then (Zei.take g).filter fun v=>decide (v∈s) else []) (fun g=>6 - g) ?_ 0 _ _ _
  ⟨rfl,by omega,Zam,hlist,by simp⟩
 rintro g x3 x8 h' ⟨rfl,hg,hS,hl,rfl⟩ R hR
 unfold Zhg.L3t
 refine Zau (fun hlt=>?_) (fun hge=>?_)
 ·have hlt':g < 6:=by omega
  have hc:∃ c,Zei[g]?=some c∧Zdp c=true∧Zae h' (.ptr (some (h.length,0 + (g:Int).toNat * 1)))=some (.str [c]):=by
   rw [Zal hl,Int.toNat_natCast]
   match g,hlt' with
   | 0,_ | 1,_ | 2,_ | 3,_ | 4,_ | 5,_=>exact ⟨_,rfl,rfl,rfl⟩
  obtain ⟨c,hc1,hcv,hc2⟩:=hc
  simp only [Zaw,hc2,Zag]
  refine ⟨by omega,(Ych s [c] hs).mono ?_⟩
  rintro v h2 ⟨rfl,s2⟩
  simp only [Zas]
  have htk:Zei.take (g + 1)=Zei.take g ++ [c]:=by rw [List.take_succ,hc1]; rfl
  have hS2:=hS.trans (s2.mono hS.le)
  have hl2:h2[h.length]?=some (.cells Zbh [.str [88],.str [89],.str [90],.str [120],.str [121],.str [122]] false):=by rw [s2.eq _ (Own.lt hl)]; exact hl
  have hcn:decide (Yrx s [c] > 0)=(Zmr s && decide (c∈s)):=by
   unfold Yrx
   rw [show Zkz [c]=Zdp c from rfl,hcv]
   cases hb:Zmr s with
   | false=>rfl
   | true=>
    simp only [Bool.and_self,if_true,Bool.true_and,List.headD_cons]
    rw [Bool.eq_iff_iff]; simp [List.count_pos_iff]
  have hbd:(if Zmr s=true then (Zei.take g).filter fun v=>decide (v∈s) else []).length≤6:=by
   split
   ·exact Nat.le_trans (List.length_filter_le _ _) (by simp; omega)
   ·simp
  rw [hcn]
  refine Zdu (fun hb=>?_) (fun hb=>?_)
  ·simp only [Bool.and_eq_true] at hb
   refine ⟨by simp only [List.length_cons,List.length_nil]; omega,?_⟩
   apply Zhg.J7i
   rw [Zbq (by omega)]
   refine hR (g + 1) _ _ _ (by omega) ⟨rfl,by omega,hS2,hl2,?_⟩
   rw [if_pos hb.1,if_pos hb.1,htk,List.filter_append]; simp [hb.2]
  ·apply Zhg.J7i
   rw [Zbq (by omega)]
   refine hR (g + 1) _ _ _ (by omega) ⟨rfl,by omega,hS2,hl2,?_⟩
   cases ht:Zmr s with
   | false=>simp
   | true=>rw [ht,Bool.true_and] at hb; rw [htk,List.filter_append]; simp; simpa using hb
 ·apply Zhg.A3x0i
  have:g=6:=by omega
  subst this
  exact ⟨rfl,hS⟩
theorem Yoc {h:Zaa} (x y:List Nat) (hx:x.length≤1048576) (hy:y.length≤1048576):Zaj pg Znl [.str x,.str y] h fun v h'=>v=.bool (x.all fun c=>decide (c∈y))∧h'=h:=by
 apply Zib.call
 refine Zib.L2ind _ _ _ _ (J:=fun (g:Nat) x8 h'=>x8=(g:Int)∧g≤x.length∧h'=h∧(x.take g).all (fun c=>decide (c∈y))=true) (fun g=>x.length - g) ?_ 0 _ _ ⟨rfl,by omega,rfl,by simp⟩
 rintro g x8 h' ⟨rfl,hg,rfl,hk⟩ R hR
 unfold Zib.L2t
 refine Zau (fun hlt=>?_) (fun hge=>?_)
 ·have hg':g < x.length:=by omega
  refine ⟨⟨by omega,by omega⟩,?_⟩
  simp only [Int.toNat_natCast,Zfu hg']
  refine (Ybw y x[g] (by omega)).mono ?_
  rintro v h2 ⟨rfl,rfl⟩
  simp only [Zas]
  have hix:decide (Zuv y x[g] < 0)=!decide (x[g]∈y):=by
   by_cases hm:x[g]∈y
   ·have:=(Yax y x[g]).2 hm
    simp [hm]; omega
   ·rw [Zxh hm]; simp [hm]
  rw [hix]
  refine Zbs (fun hb=>⟨by rw [Zrk hg' hb],by trivial⟩) (fun hb=>?_)
  rw [Zbq (by omega)]
  exact hR (g + 1) _ _ (by omega) ⟨rfl,by omega,rfl,Zge hg' hk hb⟩
 ·apply Zib.A2x0i
  have:g=x.length:=by omega
  subst this
  rw [List.take_length] at hk
  exact ⟨by rw [hk],by trivial⟩

theorem Yia {cs:List Nd} {ct tt:List Nat} {ns:List Nd} (h1:Zkf cs=true) (h2:Zha cs ct=true) (h3:Zmr tt=true) (h4:tt.length≤20) (h5:Zkz tt=false) (h6:ns.length≤3):Zmy cs ((ct,tt),ns)=ns.all (Zjl cs tt):=by
 unfold Zmy; simp [h1,h2,h3,h4,h5,h6]
theorem Zwk {h:Zaa} {a a1 a2:Pt} {n c n1 c1 n2 c2:Nat} {e e1 e2:Bool} {cs ns:List Nd} {ct tt:List Nat} (r:Row h.length h a (n * 2) (Zdg eP cs)) (hc:n≤c) (hn:n≤1048576) (hs:∀ p∈cs,p.2.length≤1048576)
  (r2:Row h.length h a2 (n2 * 2) (Zdg eP ns)) (hn2:n2≤1048576) (hns:∀ p∈ns,p.2.length≤1048576) (htt:tt.length≤1048576) :
  Zaj pg Ziu [.agg [.slice a n c e,.slice a1 n1 c1 e1],.agg [.str ct,.str tt,.slice a2 n2 c2 e2]] h fun v h'=>v=.bool (Zmy cs ((ct,tt),ns))∧Zba h.length h h':=by
 have hl:cs.length=n:=by have:=r.1; rw [Zav Zcz] at this; omega
 have hl2:ns.length=n2:=by have:=r2.1; rw [Zav Zcz] at this; omega
 apply Zcy.call
 simp only [Zax]
 generalize hh0:h ++ [Zby.cells Zad [.slice a n c e,.slice a1 n1 c1 e1] false]=h0
 generalize hh1:h0 ++ [Zby.cells Zac [.str ct,.str tt,.slice a2 n2 c2 e2] false]=h1
 have s0:Zba h.length h h0:=by rw [← hh0]; exact Zam
 have s01:Zba h0.length h0 h1:=by rw [← hh1]; exact Zam
 have s1:Zba h.length h h1:=s0.trans (s01.mono s0.le)
 have hl0:h0.length=h.length + 1:=by rw [← hh0]; simp
 have hl1:h1.length=h.length + 2:=by rw [← hh1]; simp [hl0]
 have w1:h1[h.length]?=some (.cells Zad [.slice a n c e,.slice a1 n1 c1 e1] false):=by rw [← hh1,Ydd (by omega),← hh0]; simp
 have i1:h1[h0.length]?=some (.cells Zac [.str ct,.str tt,.slice a2 n2 c2 e2] false):=by rw [← hh1]; simp
 rw [Zed w1 (by simp)]
 simp only [List.drop_zero,List.take_succ_cons,List.take_zero,Zap,Zaf,Zah,Zao]
 refine (Zvs (r.same' s1) hc hn hs).mono ?_
 rintro v h2 ⟨rfl,s2⟩
 have S2:Zba h.length h h2:=s1.trans (s2.mono (by omega))
 have w2:h2[h.length]?=some (.cells Zad [.slice a n c e,.slice a1 n1 c1 e1] false):=by rw [s2.eq _ (by omega)]; exact w1
 have i2:h2[h0.length]?=some (.cells Zac [.str ct,.str tt,.slice a2 n2 c2 e2] false):=by rw [s2.eq _ (by omega)]; exact i1
 simp only [Zaq]
 refine Zbs (fun hb=>⟨by unfold Zmy; rw [hb]; rfl,S2⟩) (fun b1=>?_)
 simp only [Nat.add_zero,Nat.zero_add,Zal w2,Zal i2,List.getElem?_cons_succ,List.getElem?_cons_zero,Zah,Zag]
 refine (Zwr (r.same' S2) (by omega)).mono ?_
 rintro v h3 ⟨rfl,s3⟩
 have hle2:=s2.le
 have S3:Zba h.length h h3:=S2.trans (s3.mono S2.le)
 have i3:h3[h0.length]?=some (.cells Zac [.str ct,.str tt,.slice a2 n2 c2 e2] false):=by rw [s3.eq _ (by omega)]; exact i2
 have w3:h3[h.length]?=some (.cells Zad [.slice a n c e,.slice a1 n1 c1 e1] false):=by rw [s3.eq _ (by omega)]; exact w2
 simp only [Zaq]
 refine Zbs (fun hb=>⟨by unfold Zmy; rw [b1,hb]; rfl,S3⟩) (fun b2=>?_)
 simp only [Zal i3,List.getElem?_cons_succ,List.getElem?_cons_zero,Zag]
 refine (Zmb tt h3).mono ?_
 rintro v h4 ⟨rfl,s4⟩
 have hle3:=s3.le
 have S4:Zba h.length h h4:=S3.trans (s4.mono S3.le)
 have i4:h4[h0.length]?=some (.cells Zac [.str ct,.str tt,.slice a2 n2 c2 e2] false):=by rw [s4.eq _ (by omega)]; exact i3
 have w4:h4[h.length]?=some (.cells Zad [.slice a n c e,.slice a1 n1 c1 e1] false):=by rw [s4.eq _ (by omega)]; exact w3
 simp only [Zaq]
 refine Zbs (fun hb=>⟨by unfold Zmy; rw [b1,b2,hb]; rfl,S4⟩) (fun b3=>?_)
 simp only [Zal i4,List.getElem?_cons_succ,List.getElem?_cons_zero,Zag]
 refine Zau (fun hb=>⟨by unfold Zmy; rw [b1,b2,b3]; simp [show ¬ tt.length≤20 by omega],S4⟩) (fun b4=>?_)
 refine (Ybl tt).mono ?_
 rintro v h5 ⟨rfl,rfl⟩
 simp only [Zaq]
 refine Zdu (fun hb=>⟨by unfold Zmy; rw [hb]; simp,S4⟩) (fun b5=>?_)
 simp only [Zal i4,List.getElem?_cons_succ,List.getElem?_cons_zero,Zah]
 refine Zau (fun hb=>⟨by unfold Zmy; simp [show ¬ ns.length≤3 by omega],S4⟩) (fun b6=>?_)
 rw [Yia b1 b2 b3 (by omega) b5 (by omega)]
 apply Zcy.J3i
 simp only [Nat.zero_add,Zal i4,List.getElem?_cons_succ,List.getElem?_cons_zero,Zah]
 have hle4:=s4.le
 refine Zcy.L4ind _ _ _ _ _ _ _ _ _ _ (J:=fun (g:Nat) x50 h'=>x50=(g:Int)∧g≤n2∧Zba h5.length h5 h'∧(ns.take g).all (Zjl cs tt)=true) (fun g=>n2 - g) ?_ 0 _ _ ⟨rfl,by omega,Zba.refl _ _,rfl⟩
 rintro g x50 h' ⟨rfl,hg,hS,hk⟩ R hR
 have SS:Zba h.length h h':=S4.trans (hS.mono S4.le)
 unfold Zcy.L4t
 refine Zau (fun hlt=>?_) (fun hge=>?_)
 ·obtain ⟨i,o,hgl,rfl,hil,hr,_⟩:=(r2.same SS).pr (k:=g) (by omega)
  simp only [Zaw,Int.toNat_natCast,hr,Zap,Zaf,Zao,Zag,Zax]
  rw [Zgb]
  have hlh:=hS.le
  generalize hq:h' ++ [Zby.cells Zab [.str ns[g].1,.str ns[g].2] false]=hq'
  have sq:Zba h'.length h' hq':=by rw [← hq]; exact Zam
  have hql:hq'.length=h'.length + 1:=by rw [← hq]; simp
  have nq:hq'[h'.length]?=some (.cells Zab [.str ns[g].1,.str ns[g].2] false):=by rw [← hq]; simp
  have wq:hq'[h.length]?=some (.cells Zad [.slice a n c e,.slice a1 n1 c1 e1] false):=by rw [sq.eq _ (by omega),hS.eq _ (by omega)]; exact w4
  have iq:hq'[h0.length]?=some (.cells Zac [.str ct,.str tt,.slice (some (i,o)) n2 c2 e2] false):=by rw [sq.eq _ (by omega),hS.eq _ (by omega)]; exact i4
  simp only [Zar,Nat.add_zero,Nat.zero_add,Zal wq,Zal nq,List.getElem?_cons_succ,List.getElem?_cons_zero,Zah,Zag]
  have Sq:Zba h.length h hq':=SS.trans (sq.mono SS.le)
  refine ⟨by omega,(Zwr (r.same' Sq) (by omega)).mono ?_⟩
  rintro v k3 ⟨rfl,t3⟩
  have T3:=Sq.trans (t3.mono Sq.le)
  have n3:k3[h'.length]?=some (.cells Zab [.str ns[g].1,.str ns[g].2] false):=by rw [t3.eq _ (by omega)]; exact nq
  simp only [Zaq]
  have fail:∀ hx,Zba h.length h hx→Zjl cs tt ns[g]=false→(Zat.bool false=Zat.bool (ns.all (Zjl cs tt))∧Zba h.length h hx):=fun hx hs hf=>⟨by rw [Zrk hgl hf],hs⟩
  refine Zbs (fun hb=>fail _ T3 (by unfold Zjl; rw [hb]; rfl)) (fun m1=>?_)
  simp only [Zal n3,List.getElem?_cons_succ,List.getElem?_cons_zero,Zag]
  refine (Zmb _ k3).mono ?_
  rintro v k4 ⟨rfl,t4⟩
  have ht3:=t3.le
  have T4:=T3.trans (t4.mono T3.le)
  have n4:k4[h'.length]?=some (.cells Zab [.str ns[g].1,.str ns[g].2] false):=by rw [t4.eq _ (by omega)]; exact n3
  simp only [Zaq]
  refine Zbs (fun hb=>fail _ T4 (by unfold Zjl; rw [m1,hb]; rfl)) (fun m2=>?_)
  simp only [Zal n4,List.getElem?_cons_succ,List.getElem?_cons_zero,Zag]
  refine Zau (fun hb=>fail _ T4 (by unfold Zjl; simp [show ¬ ns[g].2.length≤20 by omega])) (fun m3=>?_)
  apply Zcy.J8i
  simp only [Nat.zero_add,Zal n4,List.getElem?_cons_succ,List.getElem?_cons_zero,Zag]
  refine (Ysp _ k4).mono ?_
  rintro v k5 ⟨t5,av,nv,cv,ev,rfl,hrow⟩
  simp only [Zah]
  have ht4:=t4.le
  have ht5:=t5.le
  have T5:=T4.trans (t5.mono T4.le)
  have hvl:(Zpg ns[g].2).length=nv:=by have:=hrow.1; simpa using this
  have hv6:(Zpg ns[g].2).length≤6:=List.length_filter_le _ _
  have hni:Zjl cs tt ns[g]=(Zpg ns[g].2).all fun v=>decide (v∈tt):=by unfold Zjl; rw [m1,m2]; simp [show ns[g].2.length≤20 by omega]
  have i5:k5[h0.length]?=some (.cells Zac [.str ct,.str tt,.slice (some (i,o)) n2 c2 e2] false):=by rw [t5.eq _ (by omega),t4.eq _ (by omega),t3.eq _ (by omega)]; exact iq
  refine Zcy.L9ind _ _ _ _ _ _ _ _ _ _ _ _ _ _ _ _ _ (J:=fun (q:Nat) x76 h6=>x76=(q:Int)∧q≤nv∧h6=k5∧((Zpg ns[g].2).take q).all (fun v=>decide (v∈tt))=true) (fun q=>nv - q) ?_ 0 _ _ ⟨rfl,by omega,rfl,rfl⟩
  rintro q x76 h6 ⟨rfl,hq6,rfl,hk6⟩ R9 hR9
  unfold Zcy.L9t
  refine Zau (fun hlt6=>?_) (fun hge6=>?_)
  ·obtain ⟨iv,ov,rfl,_,hcv⟩:=hrow.at (k:=q) (by omega)
   rw [Yhi,List.getElem?_map,List.getElem?_eq_getElem (show q < (Zpg ns[g].2).length by omega)] at hcv
   simp only [Option.map_some] at hcv
   simp only [Zaw,Int.toNat_natCast,Nat.mul_one,hcv,Zag,Nat.add_zero,Nat.zero_add,Zal i5,List.getElem?_cons_succ,List.getElem?_cons_zero,one]
   refine ⟨by omega,Zoj.mono ?_⟩
   rintro v k7 ⟨rfl,rfl⟩
   simp only [Zaq]
   refine Zbs (fun hb=>fail _ T5 (by rw [hni]; exact Zrk (by omega) hb)) (fun d1=>?_)
   rw [Zbq (by omega)]
   exact hR9 (q + 1) _ _ (by omega) ⟨rfl,by omega,rfl,Zge (by omega) hk6 d1⟩
  ·apply Zcy.A9x2i
   apply Zcy.J14i
   have:q=nv:=by omega
   subst this
   rw [List.take_of_length_le (by omega)] at hk6
   rw [Zbq (by omega)]
   refine hR (g + 1) _ _ (by omega) ⟨rfl,by omega,?_,Zge hgl hk (by rw [hni]; exact hk6)⟩
   exact hS.trans ((sq.mono hS.le).trans ((t3.mono (by omega)).trans ((t4.mono (by omega)).trans (t5.mono (by omega)))))
 ·apply Zcy.A4x0i
  have:g=n2:=by omega
  subst this
  rw [List.take_of_length_le (by omega)] at hk
  exact ⟨by rw [hk],SS⟩
end Go.Sim

set_option linter.unusedVariables false
set_option linter.unusedSimpArgs false
set_option maxRecDepth 20000
namespace Go.Sim
open Go Go.RowKit

theorem Ygb (x t:List Nat):((Zpg x).all fun c=>decide (c∈Zpg t))=(Zpg x).all fun c=>decide (c∈t):=by
 rw [Bool.eq_iff_iff,List.all_eq_true,List.all_eq_true]
 constructor
 ·intro h c hc
  have:=h c hc
  simp only [Zpg,decide_eq_true_eq,List.mem_filter] at this ⊢
  exact this.2
 ·intro h c hc
  have h1:=h c hc
  have hv:c∈Zei:=(List.mem_filter.1 hc).1
  simp only [Zpg,decide_eq_true_eq,List.mem_filter] at h1 ⊢
  exact ⟨hv,h1⟩
theorem Zux {h:Zaa} {a a1 a2:Pt} {n c n1 c1 n2 c2:Nat} {e e1 e2:Bool} {cs ns:List Nd} {ct tt:List Nat} (r:Row h.length h a (n * 2) (Zdg eP cs)) (hc:n≤c) (hn:n≤1048576) (hs:∀ p∈cs,p.2.length≤1048576) (hb256:∀ p∈cs,∀ b∈p.1,b < 256)
  (r2:Row h.length h a2 (n2 * 2) (Zdg eP ns)) (hn2:n2≤1048576) (hns:∀ p∈ns,p.2.length≤1048576) (htt:tt.length≤1048576) :
  Zaj pg Zjb [.agg [.slice a n c e,.slice a1 n1 c1 e1],.agg [.str ct,.str tt,.slice a2 n2 c2 e2]] h fun v h'=>v=.bool (Zmy cs ((ct,tt),ns))∧Zba h.length h h':=by
 have hl:cs.length=n:=by have:=r.1; rw [Zav Zcz] at this; omega
 have hl2:ns.length=n2:=by have:=r2.1; rw [Zav Zcz] at this; omega
 apply Zej.call
 simp only [Zax]
 generalize hh0:h ++ [Zby.cells Zad [.slice a n c e,.slice a1 n1 c1 e1] false]=h0
 generalize hh1:h0 ++ [Zby.cells Zac [.str ct,.str tt,.slice a2 n2 c2 e2] false]=h1
 have s0:Zba h.length h h0:=by rw [← hh0]; exact Zam
 have s01:Zba h0.length h0 h1:=by rw [← hh1]; exact Zam
 have s1:Zba h.length h h1:=s0.trans (s01.mono s0.le)
 have hl0:h0.length=h.length + 1:=by rw [← hh0]; simp
 have hl1:h1.length=h.length + 2:=by rw [← hh1]; simp [hl0]
 have w1:h1[h.length]?=some (.cells Zad [.slice a n c e,.slice a1 n1 c1 e1] false):=by rw [← hh1,Ydd (by omega),← hh0]; simp
 have i1:h1[h0.length]?=some (.cells Zac [.str ct,.str tt,.slice a2 n2 c2 e2] false):=by rw [← hh1]; simp
 simp only [Nat.add_zero,Zal w1,List.getElem?_cons_zero,Zah]
 refine (Zwg (r.same' s1) hc hn hs hb256).mono ?_
 rintro v h2 ⟨rfl,s2⟩
 have S2:Zba h.length h h2:=s1.trans (s2.mono (by omega))
 have w2:h2[h.length]?=some (.cells Zad [.slice a n c e,.slice a1 n1 c1 e1] false):=by rw [s2.eq _ (by omega)]; exact w1
 have i2:h2[h0.length]?=some (.cells Zac [.str ct,.str tt,.slice a2 n2 c2 e2] false):=by rw [s2.eq _ (by omega)]; exact i1
 simp only [Zaq]
 refine Zbs (fun hb=>⟨by unfold Zmy; rw [hb]; rfl,S2⟩) (fun b1=>?_)
 rw [Zed w2 (by simp)]
 simp only [List.drop_zero,List.take_succ_cons,List.take_zero,Zap,Zaf,Zao,Nat.zero_add,Zal i2,List.getElem?_cons_succ,List.getElem?_cons_zero,Zah,Zag]
 refine (Zsj (r.same' S2) (by omega)).mono ?_
 rintro v h3 ⟨rfl,s3⟩
 have hle2:=s2.le
 have S3:Zba h.length h h3:=S2.trans (s3.mono S2.le)
 have i3:h3[h0.length]?=some (.cells Zac [.str ct,.str tt,.slice a2 n2 c2 e2] false):=by rw [s3.eq _ (by omega)]; exact i2
 have w3:h3[h.length]?=some (.cells Zad [.slice a n c e,.slice a1 n1 c1 e1] false):=by rw [s3.eq _ (by omega)]; exact w2
 simp only [Zas,Zyj]
 refine Zbs (fun hb=>⟨by unfold Zmy; rw [b1,hb]; rfl,S3⟩) (fun b2=>?_)
 simp only [Zal i3,List.getElem?_cons_succ,List.getElem?_cons_zero,Zag]
 refine (Zir tt (by omega) h3).mono ?_
 rintro v h4 ⟨rfl,s4⟩
 have hle3:=s3.le
 have S4:Zba h.length h h4:=S3.trans (s4.mono S3.le)
 have i4:h4[h0.length]?=some (.cells Zac [.str ct,.str tt,.slice a2 n2 c2 e2] false):=by rw [s4.eq _ (by omega)]; exact i3
 have w4:h4[h.length]?=some (.cells Zad [.slice a n c e,.slice a1 n1 c1 e1] false):=by rw [s4.eq _ (by omega)]; exact w3
 simp only [Zaq]
 refine Zbs (fun hb=>⟨by unfold Zmy; rw [b1,b2,hb]; rfl,S4⟩) (fun b3=>?_)
 simp only [Zal i4,List.getElem?_cons_succ,List.getElem?_cons_zero,Zag]
 refine Zau (fun hb=>⟨by unfold Zmy; rw [b1,b2,b3]; simp [show ¬ tt.length≤20 by omega],S4⟩) (fun b4=>?_)
 have hvh:=Yub b3
 have hne:=Ymk b3
 have htl:0 < tt.length:=by cases tt with | nil=>exact absurd rfl hne | cons=>simp
 refine ⟨⟨by omega,by omega⟩,?_⟩
 have hgd:tt.getD (Int.toNat 0) 0=tt.headD 0:=by cases tt <;> rfl
 rw [hgd]
 refine (Zqh _).mono ?_
 rintro v h5 ⟨rfl,rfl⟩
 simp only [Zaq,← hvh]
 refine Zdu (fun hb=>⟨by unfold Zmy; rw [hb]; simp,S4⟩) (fun b5=>?_)
 simp only [Zal i4,List.getElem?_cons_succ,List.getElem?_cons_zero,Zah]
 refine Zau (fun hb=>⟨by unfold Zmy; simp [show ¬ ns.length≤3 by omega],S4⟩) (fun b6=>?_)
 rw [Yia b1 b2 b3 (by omega) b5 (by omega)]
 apply Zej.J3i
 simp only [Nat.zero_add,Zal i4,List.getElem?_cons_succ,List.getElem?_cons_zero,Zah]
 have hle4:=s4.le
 refine Zej.L4ind _ _ _ _ _ _ _ _ _ _ (J:=fun (g:Nat) x50 h'=>x50=(g:Int)∧g≤n2∧Zba h5.length h5 h'∧(ns.take g).all (Zjl cs tt)=true) (fun g=>n2 - g) ?_ 0 _ _ ⟨rfl,by omega,Zba.refl _ _,rfl⟩
 rintro g x50 h' ⟨rfl,hg,hS,hk⟩ R hR
 have SS:Zba h.length h h':=S4.trans (hS.mono S4.le)
 unfold Zej.L4t
 refine Zau (fun hlt=>?_) (fun hge=>?_)
 ·obtain ⟨i,o,hgl,rfl,hil,hr,_⟩:=(r2.same SS).pr (k:=g) (by omega)
  simp only [Zaw,Int.toNat_natCast,hr,Zap,Zaf,Zao,Zag,Zax]
  rw [Zgb]
  have hlh:=hS.le
  generalize hq:h' ++ [Zby.cells Zab [.str ns[g].1,.str ns[g].2] false]=hq'
  have sq:Zba h'.length h' hq':=by rw [← hq]; exact Zam
  have hql:hq'.length=h'.length + 1:=by rw [← hq]; simp
  have nq:hq'[h'.length]?=some (.cells Zab [.str ns[g].1,.str ns[g].2] false):=by rw [← hq]; simp
  have wq:hq'[h.length]?=some (.cells Zad [.slice a n c e,.slice a1 n1 c1 e1] false):=by rw [sq.eq _ (by omega),hS.eq _ (by omega)]; exact w4
  have iq:hq'[h0.length]?=some (.cells Zac [.str ct,.str tt,.slice (some (i,o)) n2 c2 e2] false):=by rw [sq.eq _ (by omega),hS.eq _ (by omega)]; exact i4
  have row:∀ {hx:Zaa},hx[h.length]?=some (.cells Zad [.slice a n c e,.slice a1 n1 c1 e1] false)→Zbj hx (.ptr (some (h.length,0))) 2=some [.slice a n c e,.slice a1 n1 c1 e1]:=fun w=>by rw [Zed w (by simp)]; rfl
  simp only [Zar,Nat.add_zero,Nat.zero_add,row wq,Zal nq,List.getElem?_cons_succ,List.getElem?_cons_zero,Zap,Zaf,Zao,Zah,Zag,true_and]
  have Sq:Zba h.length h hq':=SS.trans (sq.mono SS.le)
  refine ⟨by omega,(Zsj (r.same' Sq) (by omega)).mono ?_⟩
  rintro v k3 ⟨rfl,t3⟩
  have T3:=Sq.trans (t3.mono Sq.le)
  have n3:k3[h'.length]?=some (.cells Zab [.str ns[g].1,.str ns[g].2] false):=by rw [t3.eq _ (by omega)]; exact nq
  have w3':k3[h.length]?=some (.cells Zad [.slice a n c e,.slice a1 n1 c1 e1] false):=by rw [t3.eq _ (by omega)]; exact wq
  have i3':k3[h0.length]?=some (.cells Zac [.str ct,.str tt,.slice (some (i,o)) n2 c2 e2] false):=by rw [t3.eq _ (by omega)]; exact iq
  have ht3:=t3.le
  simp only [Zas,Zyj,row w3',Zal n3,List.getElem?_cons_succ,List.getElem?_cons_zero,Zag,true_and]
  have fail:∀ hx,Zba h.length h hx→Zjl cs tt ns[g]=false→(Zat.bool false=Zat.bool (ns.all (Zjl cs tt))∧Zba h.length h hx):=fun hx hs hf=>⟨by rw [Zrk hgl hf],hs⟩
  refine Zbs (fun hb=>fail _ T3 (by unfold Zjl; rw [hb]; rfl)) (fun m1=>?_)
  have hnl:=hns ns[g] (List.getElem_mem hgl)
  refine (Zir _ (by omega) k3).mono ?_
  rintro v k4 ⟨rfl,t4⟩
  have T4:=T3.trans (t4.mono T3.le)
  have ht4:=t4.le
  have n4:k4[h'.length]?=some (.cells Zab [.str ns[g].1,.str ns[g].2] false):=by rw [t4.eq _ (by omega)]; exact n3
  have w4':k4[h.length]?=some (.cells Zad [.slice a n c e,.slice a1 n1 c1 e1] false):=by rw [t4.eq _ (by omega)]; exact w3'
  have i4':k4[h0.length]?=some (.cells Zac [.str ct,.str tt,.slice (some (i,o)) n2 c2 e2] false):=by rw [t4.eq _ (by omega)]; exact i3'
  simp only [Zaq,row w4',Zal n4,Zal i4',List.getElem?_cons_succ,List.getElem?_cons_zero,Zag,true_and]
  refine Zbs (fun hb=>fail _ T4 (by unfold Zjl; rw [m1,hb]; rfl)) (fun m2=>?_)
  refine Zau (fun hb=>fail _ T4 (by unfold Zjl; simp [show ¬ ns[g].2.length≤20 by omega])) (fun m3=>?_)
  refine (Zsm _ hnl).mono ?_
  rintro v k5 ⟨rfl,t5⟩
  have T5:=T4.trans (t5.mono T4.le)
  have ht5:=t5.le
  have n5:k5[h'.length]?=some (.cells Zab [.str ns[g].1,.str ns[g].2] false):=by rw [t5.eq _ (by omega)]; exact n4
  have w5':k5[h.length]?=some (.cells Zad [.slice a n c e,.slice a1 n1 c1 e1] false):=by rw [t5.eq _ (by omega)]; exact w4'
  have i5':k5[h0.length]?=some (.cells Zac [.str ct,.str tt,.slice (some (i,o)) n2 c2 e2] false):=by rw [t5.eq _ (by omega)]; exact i4'
  simp only [row w5',Zal n5,Zal i5',List.getElem?_cons_succ,List.getElem?_cons_zero,Zag,true_and]
  refine (Zsm _ htt).mono ?_
  rintro v k6 ⟨rfl,t6⟩
  have T6:=T5.trans (t6.mono T5.le)
  have ht6:=t6.le
  have n6:k6[h'.length]?=some (.cells Zab [.str ns[g].1,.str ns[g].2] false):=by rw [t6.eq _ (by omega)]; exact n5
  have w6':k6[h.length]?=some (.cells Zad [.slice a n c e,.slice a1 n1 c1 e1] false):=by rw [t6.eq _ (by omega)]; exact w5'
  have i6':k6[h0.length]?=some (.cells Zac [.str ct,.str tt,.slice (some (i,o)) n2 c2 e2] false):=by rw [t6.eq _ (by omega)]; exact i5'
  simp only [row w6',Zal n6,Zal i6',List.getElem?_cons_succ,List.getElem?_cons_zero,Zag,true_and]
  rw [if_pos m2,if_pos b3]
  have hvb:∀ s,(Zpg s).length≤6:=fun s=>List.length_filter_le _ _
  have hv1:=hvb ns[g].2
  have hv2:=hvb tt
  refine (Yoc _ _ (by omega) (by omega)).mono ?_
  rintro v k7 ⟨rfl,rfl⟩
  have hni:Zjl cs tt ns[g]=(Zpg ns[g].2).all fun v=>decide (v∈tt):=by unfold Zjl; rw [m1,m2]; simp [show ns[g].2.length≤20 by omega]
  simp only [Zaq,row w6',Zal n6,Zal i6',List.getElem?_cons_succ,List.getElem?_cons_zero,Zag,true_and,Ygb,← hni]
  refine Zbs (fun hb=>fail _ T6 hb) (fun m4=>?_)
  apply Zej.J8i
  rw [Zbq (by omega)]
  refine hR (g + 1) _ _ (by omega) ⟨rfl,by omega,?_,Zge hgl hk m4⟩
  exact hS.trans ((sq.mono hS.le).trans ((t3.mono (by omega)).trans ((t4.mono (by omega)).trans ((t5.mono (by omega)).trans (t6.mono (by omega))))))
 ·apply Zej.A4x0i
  have:g=n2:=by omega
  subst this
  rw [List.take_of_length_le (by omega)] at hk
  exact ⟨by rw [hk],SS⟩
end Go.Sim
