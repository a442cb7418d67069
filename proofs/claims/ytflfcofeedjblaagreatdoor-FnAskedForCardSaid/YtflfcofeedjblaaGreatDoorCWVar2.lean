/- A part of the proof of a statement of this seat: see the text that holds the theorem. No condition. -/
import Derived.Test.YtflfcofeedjblaaGreatDoorNm
import Derived.Test.YtflfcofeedjblaaGreatDoorSimX
import Derived.Test.YtflfcofeedjblaaGreatDoorCSTy
import Derived.Test.YtflfcofeedjblaaGreatDoorPTCSMatch
import Derived.Test.YtflfcofeedjblaaGreatDoorPTCParse
set_option linter.unusedVariables false
set_option linter.unusedSimpArgs false
set_option linter.all false
set_option linter.unusedVariables false
namespace Go.Sim
open Go Go.RowKit

theorem c9:pg.cellsOf Zbi=1:=by kernel_rfl
theorem b9:pg.bytesOf Zbi=16:=by kernel_rfl

def Xbv (k:Nat) (acc:List Nat):List Nat:=if h:k=0 then acc else Xbv (k / 10) ((48 + k % 10) :: acc)
 termination_by k
 decreasing_by omega
def Yzx (k:Int):List Nat:=if k≤0 then [109,48] else 109 :: Xbv k.toNat []
theorem Ynw {h:Zaa} {t:TypeId} {cs:List Zay} {n:Nat} (hn:cs.length=n):rowOf (h ++ [.cells t cs false]) (some (h.length,0)) n=some cs:=by
 subst hn
 exact (Own.row (b:=0) (t:=t) ⟨h.length,rfl,by omega,by simp⟩).rowOf
theorem Ybb {h:Zaa} {t:TypeId} {v:Zay}:rowOf (h ++ [.cells t [v] false]) (some (h.length,0)) 1=some [v]:=Ynw rfl
def Yqe (k:Int) (n:Nat):List (List Nat):=(List.range n).map fun (j:Nat)=>Yzx (k + j)
@[simp] theorem Yxa (k:Int) (n:Nat):(Yqe k n).length=n:=by simp [Yqe]
theorem Yyr (k:Int) (n:Nat):Yqe k (n + 1)=Yqe k n ++ [Yzx (k + n)]:=by simp [Yqe,List.range_succ]

end Go.Sim

set_option linter.unusedVariables false
namespace Go.Sim
open Go Go.RowKit

def sp (l:List (List Nat)):List Nat:=[32].intercalate l
end Go.Sim

set_option linter.unusedVariables false
set_option linter.unusedSimpArgs false
set_option maxRecDepth 20000
namespace Go.Sim
open Go Go.RowKit

theorem Ybl {u:Nat} (h:u < 10):Ygn u=[48 + u]:=by
 unfold Ygn Lib.decDigits
 rw [dif_pos h]
 simp [UInt8.toNat_ofNat']; omega
theorem Ykt {u:Nat} (h:¬ u < 10):Ygn u=Ygn (u / 10) ++ [48 + u % 10]:=by
 unfold Ygn
 conv=>lhs; unfold Lib.decDigits
 rw [dif_neg h]
 simp [UInt8.toNat_ofNat']; omega
theorem Ymx:∀ (k u:Nat),u < 10 ^ (k + 1)→(Ygn u).length≤k + 1:=by
 intro k
 induction k with
 | zero=>intro u h; rw [Ybl (by omega)]; simp
 | succ k ih=>
  intro u h
  by_cases hu:u < 10
  ·rw [Ybl hu]; simp
  ·rw [Ykt hu]
   have:=ih (u / 10) (by rw [Nat.pow_succ] at h; omega)
   simp; omega
theorem Yid {z:Int} (h:z < 0):Yjp z=45 :: Ygn z.natAbs:=by unfold Yjp Lib.itoa Ygn; rw [if_pos h]; rfl
theorem Yhi {z:Int} (h:¬ z < 0):Yjp z=Ygn z.toNat:=by unfold Yjp Lib.itoa Ygn; rw [if_neg h]
theorem Ywb {h:Zaa} {z:Int} (h0:0≤z) (h1:z≤9223372036854775807):Zio.L6 (fun v h'=>v=.str (Ygn z.toNat)∧Zbc h.length h h') z [] h:=by
 refine Zio.L6ind _ (J:=fun (g:Nat) x0 x3 h'=>x0=(g:Int)∧Zbc h.length h h'∧Ygn g ++ x3=Ygn z.toNat∧(g:Int)≤z) (fun g=>g) ?_ z.toNat _ _ _ ⟨by omega,Zbc.refl _ _,by simp,by omega⟩
 rintro g x0 x3 h' ⟨rfl,hs,hd,hb⟩ R hR
 have hl:x3.length≤20:=by
  have h2:=congrArg List.length hd
  rw [List.length_append] at h2
  have:=Ymx 18 z.toNat (by omega); omega
 unfold Zio.L6t
 refine Zar (fun hlt=>?_) (fun hge=>?_)
 ·have h1:Int.tmod (g:Int) 10=((g % 10:Nat):Int):=by rw [Int.tmod_eq_emod_of_nonneg (by omega)]; omega
  have h2:Int.tdiv (g:Int) 10=((g / 10:Nat):Int):=by rw [Int.tdiv_eq_ediv_of_nonneg (by omega)]; omega
  rw [h1,h2,IntWalk.i64_in _ (by omega),IntWalk.u8_in _ (by omega),IntWalk.i64_in _ (by omega)]
  simp only [Zaw,Ybb,Zao]
  refine ⟨by omega,?_⟩
  simp only [Zoc,chk,decide_true]
  refine ⟨by omega,by simp; omega,by omega,hR (g / 10) _ _ _ (by omega) ⟨rfl,hs.trans (Zbc.app hs.le _),?_,by omega⟩⟩
  rw [← hd,Ykt (u:=g) (by omega),show (48 + ((g % 10:Nat):Int)).toNat=48 + g % 10 by omega]
  simp
 ·apply Zio.A6x0i
  rw [IntWalk.i64_in _ (by omega),IntWalk.u8_in _ (by omega)]
  simp only [Zaw,Ybb,Zao,Zoc,chk,decide_true]
  refine ⟨by omega,by simp; omega,?_,hs.trans (Zbc.app hs.le _)⟩
  rw [← hd,Ybl (u:=g) (by omega),show (48 + (g:Int)).toNat=48 + g by omega]
theorem Yqt {h:Zaa} {z:Int} (h0:-9223372036854775808≤z) (h1:z≤9223372036854775807):Zak pg Zhm [.int .i64 z] h fun v h'=>v=.str (Yjp z)∧Zbc h.length h h':=by
 have pos:∀ (z:Int) (h:Zaa),0≤z→z≤9223372036854775807→Zak pg Zhm [.int .i64 z] h fun v h'=>v=.str (Ygn z.toNat)∧Zbc h.length h h':=by
  intro z h h0 h1
  apply Zio.call
  refine Zar (fun hlt=>by omega) (fun hge=>Zar (fun hlt=>by omega) (fun hge=>Ywb h0 h1))
 by_cases hz:z < 0
 ·apply Zio.call
  refine Zar (fun hlt=>?_) (fun hge=>Zar (fun hlt=>?_) (fun hge=>by omega))
  ·have:z=-9223372036854775808:=by omega
   subst this
   exact ⟨by rw [Yid (by omega)]; simp [Ykt,Ybl],Zbc.refl _ _⟩
  ·rw [IntWalk.i64_in _ (by omega)]
   refine (pos (0 - z) h (by omega) (by omega)).mono ?_
   rintro v h' ⟨rfl,hs⟩
   simp only [Zah]
   have:=Ymx 18 (0 - z).toNat (by omega)
   refine ⟨by simp only [List.length_cons,List.length_nil]; omega,?_,hs⟩
   rw [Yid hz,show (0 - z).toNat=z.natAbs by omega]; rfl
 ·rw [Yhi hz]; exact pos z h (by omega) h1

theorem Ydy:pg.underlying Zka=some (.slice Zbi):=by kernel_rfl
theorem Yls:pg.cellsOf Zbi=1:=by kernel_rfl
theorem Ymm:pg.okElem Zbi=true:=by kernel_rfl
theorem Ylz:pg.bytesOf Zbi≤127:=Nat.le_of_ble_eq_true (by kernel_rfl)
end Go.Sim

set_option linter.unusedVariables false
set_option linter.unusedSimpArgs false
set_option maxRecDepth 20000
namespace Go.Sim
open Go Go.RowKit

theorem Yev {s:List Nat} {k:Nat} {z:Int} (hz:z=k) (hk:k≤s.length):sub s z (s.length:Int)=s.drop k:=by subst hz; simp only [sub,Int.toNat_natCast,List.take_length]
theorem Yfq {s:List Nat} {j k:Nat} {x y:Int} (hx:x=j) (hy:y=k):sub s x y=(s.take k).drop j:=by subst hx; subst hy; simp [sub]
theorem Ygh {h:Zaa} {s:List Nat} {c:Nat} (hs:s.length≤1048576):Zak pg Zis [.str s,.int .u8 (c:Int)] h fun v h'=>Zbc h.length h h' ∧
  ∃ j cp e,v=.slice (some (j,0)) (Zcy c s).length cp e∧h.length≤j∧h'[j]?=some (.cells Zbi (Zdb eS (Zcy c s)) false):=by
 apply Zdi.call
 simp only [Zaw]
 refine Zdi.L4ind _ _ _ (J:=fun (g:Nat) a5 n5 c5 e5 x6 x7 h'=>x7=(g:Int)∧g≤s.length + 1∧Zbc h.length h h'∧∃ (done:List (List Nat)) (from_:Nat),n5=done.length∧x6=(from_:Int)∧done.length≤g∧Vec Zbi h' a5 n5 c5 (strs done)∧(∀ i,a5=some (i,0)→h.length≤i) ∧
   (g≤s.length→from_≤g∧c ∉ (s.take g).drop from_∧Zcy c s=done ++ Zcy c (s.drop from_))∧(g=s.length + 1→Zcy c s=done)) (fun g=>s.length + 1 - g) ?_ 0 _ _ _ _ _ _ _
  ⟨rfl,by omega,Zbc.app (Nat.le_refl _) _,[],0,rfl,rfl,by simp,Vec.mk1 (by simp),by simp,fun _=>⟨by omega,by simp,by simp⟩,by omega⟩
 rintro g a5 n5 c5 e5 x6 x7 h' ⟨rfl,hg,hS,done,from_,rfl,rfl,hdl,hv,ha,hin,hout⟩ R hR
 unfold Zdi.L4t
 refine Zar (fun hle=>?_) (fun hgt=>?_)
 ·obtain ⟨hf,hnc,hsp⟩:=hin (by omega)
  have push:∀ p,(∀ a n e h4,Zbc h.length h h4→n=done.length + 1→Vec Zbi h4 a n n (strs (done ++ [p]))→(∀ i,a=some (i,0)→h.length≤i)→Zdi.J5 (fun v h'=>Zbc h.length h h'∧∃ j cp e,v=.slice (some (j,0)) (Zcy c s).length cp e∧h.length≤j∧h'[j]?=some (.cells Zbi (Zdb eS (Zcy c s)) false)) R (g:Int) s (c:Int) a n n e (IntKind.wrap .i64 ((g:Int) + 1)) h4) →
    Zci pg Zka (h' ++ [.cells Zbi [.str p] false]) (.slice a5 done.length c5 e5) (.slice (some (List.length h',0)) 1 1 true) fun v_2 h_3=>xSl (some v_2) fun a_4 n_5 c_6 e_7=>Zdi.J5 (fun v h'=>Zbc h.length h h'∧∃ j cp e,v=.slice (some (j,0)) (Zcy c s).length cp e∧h.length≤j∧h'[j]?=some (.cells Zbi (Zdb eS (Zcy c s)) false)) R (g:Int) s (c:Int) a_4 n_5 c_6 e_7 (IntKind.wrap .i64 ((g:Int) + 1)) h_3:=by
   intro p K
   refine hv.push Ydy Yls Ymm Ylz (by simp) rfl (by omega) (fun h4 hl4 hi4 hk4=>?_)
   simp only [Zaj]
   have hle:=hS.le
   refine K _ _ _ _ ⟨by omega,fun j hj=>?_⟩ rfl (Vec.mk1 (by simpa [strs] using hi4)) (fun i hi=>by cases hi; omega)
   rw [hk4 j (by omega) fun i hi=>by have:=ha i hi; omega]; exact hS.eq j hj
  refine Zcw (fun he=>?_) (fun hne=>?_)
  ·have hgs:g=s.length:=by omega
   subst hgs
   rw [Yfq (j:=from_) (k:=s.length) rfl rfl,List.take_length]
   rw [List.take_length] at hnc
   refine ⟨⟨by omega,by omega,by omega⟩,push _ fun a n e h4 hS4 hn4 hv4 ha4=>Zdi.J5i _ _ _ _ _ _ _ _ _ _ _ ?_⟩
   rw [Zbm (by omega)]
   subst hn4
   exact hR (s.length + 1) _ _ _ _ _ _ _ (by omega) ⟨rfl,by omega,hS4,done ++ [s.drop from_],s.length + 1,by simp,rfl,by simp; omega,by simpa using hv4,ha4,by omega,fun _=>by rw [hsp,Zwd hnc]⟩
  ·have hlt:g < s.length:=by omega
   refine ⟨⟨by omega,by omega⟩,?_⟩
   rw [Int.toNat_natCast,Zzz hlt]
   have htk:(s.take (g + 1)).drop from_=(s.take g).drop from_ ++ [s[g]]:=by
    rw [List.take_succ_eq_append_getElem hlt,List.drop_append_of_le_length (by simp; omega)]
   have hdr:s.drop from_=(s.take g).drop from_ ++ s[g] :: s.drop (g + 1):=by
    conv=>lhs; rw [← List.take_append_drop g s]
    rw [List.drop_append_of_le_length (by simp; omega),List.drop_eq_getElem_cons hlt]
   refine Zcw (fun he=>?_) (fun hne2=>?_)
   ·have hec:s[g]=c:=by omega
    rw [Yfq (j:=from_) (k:=g) rfl rfl]
    refine ⟨⟨by omega,by omega,by omega⟩,push _ fun a n e h4 hS4 hn4 hv4 ha4=>Zdi.J5i _ _ _ _ _ _ _ _ _ _ _ ?_⟩
    rw [Zbm (by omega)]
    subst hn4
    refine hR (g + 1) _ _ _ _ _ _ _ (by omega) ⟨rfl,by omega,hS4,done ++ [(s.take g).drop from_],g + 1,by simp,rfl,by simp; omega,by simpa using hv4,ha4,fun _=>⟨by omega,by simp,?_⟩,by omega⟩
    rw [hsp,hdr,hec,Zxx hnc]; simp
   ·apply Zdi.J5i
    rw [Zbm (by omega)]
    refine hR (g + 1) _ _ _ _ _ _ _ (by omega) ⟨rfl,by omega,hS,done,from_,rfl,rfl,by omega,hv,ha,fun _=>⟨by omega,?_,hsp⟩,by omega⟩
    rw [htk]
    simp only [List.mem_append,List.mem_singleton,not_or]
    exact ⟨hnc,fun e=>hne2 (by rw [e])⟩
 ·have:g=s.length + 1:=by omega
  have hd:=hout this
  apply Zdi.A4x0i
  rw [hd]
  rcases hv with ⟨_,_,_,h0⟩ | ⟨i,rfl,hi⟩
  ·exact absurd (by rw [hd]; exact List.map_eq_nil_iff.1 h0) (Zrt c s)
  ·exact ⟨hS,_,_,_,rfl,ha i rfl,by rw [Yiz]; exact hi⟩
end Go.Sim

set_option linter.unusedVariables false
namespace Go.Sim
open Go Go.RowKit

def prs (l:List (List Nat × List Nat)):List Zay:=l.flatMap fun p=>[.str p.1,.str p.2]
@[simp] theorem Xbb:prs []=[]:=rfl
@[simp] theorem Xaw (p:List Nat × List Nat) (l:List (List Nat × List Nat)):prs (p :: l)=.str p.1 :: .str p.2 :: prs l:=rfl
@[simp] theorem Yyq (a b:List (List Nat × List Nat)):prs (a ++ b)=prs a ++ prs b:=by simp [prs]
theorem Yyo (l:List (List Nat × List Nat)):(prs l).length=l.length * 2:=by
 induction l with
 | nil=>rfl
 | cons p l ih=>simp [ih]; omega
def Yro (l:List (List Nat × List Nat)):Nat:=(l.map fun p=>p.1.length + p.2.length).sum
theorem Yrk {l:List (List Nat × List Nat)} {g:Nat} (h:g < l.length):Yro (l.take (g + 1))=Yro (l.take g) + (l[g].1.length + l[g].2.length):=by
 unfold Yro; rw [List.take_succ_eq_append_getElem h,List.map_append,List.sum_append]; simp
theorem Ygb (l:List (List Nat × List Nat)) (g:Nat):Yro (l.take g)≤Yro l:=by
 conv=>rhs; rw [← List.take_append_drop g l]
 unfold Yro; rw [List.map_append,List.sum_append]; omega
theorem Ymu {l:List (List Nat × List Nat)} {g:Nat} (h:g < l.length):l[g].1.length + l[g].2.length≤Yro l:=by
 have:=Yrk h; have:=Ygb l (g + 1); omega
end Go.Sim

set_option linter.unusedVariables false
namespace Go.Sim
open Go Go.RowKit
def need (p:List Nat × List Nat):List Nat:=p.1 ++ [32] ++ p.2
end Go.Sim

set_option linter.unusedSimpArgs false
namespace Go.Sim

def Zfh:List Nat:=[88,89,90,120,121,122]
def Zrn (s:List Nat):List Nat:=Zfh.filter fun v=>decide (v∈s)
theorem Ztx (c:Nat):c∈Zfh ↔ Zee c=true:=by simp [Zfh,Zee]; omega
theorem Zwj {s:List Nat} (h:Zoq s=true):∃ t,Zkt s=some t:=Option.isSome_iff_exists.1 h
theorem Ypl {s:List Nat} {t:Ty} (h:Zkt s=some t):Zoq s=true:=by simp [Zoq,h]
end Go.Sim

set_option linter.unusedSimpArgs false
namespace Go.Sim

abbrev Nd:=List Nat × List Nat
abbrev Ins:=Nd × List Nd
structure Wd where
 cs:List Nd
 is:List Ins

def Zwk (s:List Nat):Bool:=match s with | [c]=>decide (65≤c∧c≤84) | _=>false
def Zgg (cs:List Nd) (c:List Nat):Bool:=cs.any fun x=>decide (x.1=c)
def Ydh (cs:List Nd) (s:List Nat) (k:Nat):Bool:=Zgg cs [s.getD k 0] && (k == 0 || decide (s.getD (k - 1) 0 < s.getD k 0))
def Yhe (cs:List Nd) (s:List Nat):Bool:=(List.range s.length).all (Ydh cs s)
def Ydc (cs:List Nd) (i:Nat):Bool:=Zwk (cs.getD i ([],[])).1 && (i == 0 || Zfo (cs.getD (i - 1) ([],[])).1 (cs.getD i ([],[])).1) && Yhe (cs.take i) (cs.getD i ([],[])).2
def Zit (cs:List Nd):Bool:=(List.range cs.length).all (Ydc cs) && decide (1≤cs.length∧cs.length≤4)
def Zmi (s:List Nat):Bool:=match s with | [c]=>Zee c | _=>false
noncomputable def Zkz (cs:List Nd) (t:List Nat) (n:Nd):Bool:=Zgg cs n.1 && Zoq n.2 && decide (n.2.length≤20) && (Zrn n.2).all fun v=>decide (v∈t)
noncomputable def Zoz (cs:List Nd) (i:Ins):Bool:=Zit cs && Zgg cs i.1.1 && Zoq i.1.2 && decide (i.1.2.length≤20) && !Zmi i.1.2 && decide (i.2.length≤3) && i.2.all (Zkz cs i.1.2)
noncomputable def Zcz (w:Wd):Bool:=Zit w.cs && decide (w.is.length≤10) && w.is.all (Zoz w.cs)
noncomputable def Zdq (w:Wd) (n:Nd):Bool:=Zgg w.cs n.1 && Zoq n.2
theorem Ziz {f:Nat→Bool} {g:Nat} (h:(List.range g).all f=true) (k:f g=true):(List.range (g + 1)).all f=true:=by
 rw [List.range_succ,List.all_append,h]; simp [k]
theorem Zmd {f:Nat→Bool} {g n:Nat} (h:g < n) (k:f g=false):(List.range n).all f=false:=by
 rw [List.all_eq_false]; exact ⟨g,List.mem_range.2 h,by simp [k]⟩
theorem Zgp {α:Type} {f:α→Bool} {l:List α} {g:Nat} (hg:g < l.length) (h:(l.take g).all f=true) (k:f l[g]=true):(l.take (g + 1)).all f=true:=by
 rw [List.take_succ_eq_append_getElem hg,List.all_append,h]; simp [k]
theorem Zqz {α:Type} {f:α→Bool} {l:List α} {g:Nat} (hg:g < l.length) (k:f l[g]=false):l.all f=false:=by
 rw [List.all_eq_false]; exact ⟨_,List.getElem_mem hg,by simp [k]⟩
theorem Zgh {α:Type} {l:List α} {g:Nat} {d:α} (h:g < l.length):l.getD g d=l[g]:=by simp [List.getD,h]
theorem Yaf {cs:List Nd} {c:List Nat} {g:Nat} (hg:g < cs.length):Zgg (cs.take (g + 1)) c=(Zgg (cs.take g) c || decide (cs[g].1=c)):=by
 unfold Zgg; rw [List.take_succ_eq_append_getElem hg,List.any_append]; simp
def Yay (cs:List Nd) (c:List Nat):Int:=if Zgg cs c then (cs.findIdx fun x=>decide (x.1=c):Nat) else -1
theorem Ybe (cs:List Nd) (c:List Nat):decide (Yay cs c < 0)=!Zgg cs c:=by
 unfold Yay; cases h:Zgg cs c <;> simp
theorem Xap {t:List Nat} (h:Zoq t=true):Zmi t=Zee (t.headD 0):=by
 obtain ⟨u,hu,rfl,_⟩:=Zuz.1 h
 cases u with
 | k c=>rfl
 | u c a=>
  have h1:=hu
  simp only [Ty.ok,Bool.and_eq_true,Bool.or_eq_true,beq_iff_eq] at h1
  rcases h1.1 with rfl | rfl <;> rfl
 | w c a b=>
  have h1:=hu
  simp only [Ty.ok,Bool.and_eq_true,beq_iff_eq] at h1
  rcases h1.1.1 with rfl; rfl
end Go.Sim

set_option linter.unusedVariables false
set_option linter.unusedSimpArgs false
set_option maxRecDepth 20000
namespace Go.Sim
open Go Go.RowKit

theorem Yfi {h:Zaa} {x a b:Int}:Zak pg Zno [.int .i64 x,.int .i64 a,.int .i64 b] h fun v h'=>v=.bool (decide (a≤x∧x≤b))∧h'=h:=by
 apply Ycj.call
 refine Zar (fun h1=>?_) (fun h1=>?_)
 ·have:a≤x:=h1
  simp [this]
 ·have:¬ a≤x:=h1
  simp [this]
theorem Yni {h:Zaa} (s:List Nat):Zak pg Zqu [.str s] h fun v h'=>v=.bool (Zwk s)∧h'=h:=by
 apply Zve.call
 match s with
 | []=>simp [Zwk]
 | [c]=>
  simp only [List.length_cons,List.length_nil,show ((0 + 1:Nat):Int)=1 from rfl,beq_self_eq_true,Zcv]
  have e1:Zfo [c] [65]=decide (c < 65):=by simp [Zfo]
  have e2:Zfo [c] [84]=decide (c < 84):=by simp [Zfo]
  rw [e1,e2]
  refine Yei (fun h1=>?_) (fun h1=>?_)
  ·refine ⟨?_,by trivial⟩
   congr 1
   simp [Zwk]
   rw [Bool.eq_iff_iff]; simp; omega
  ·refine ⟨?_,by trivial⟩
   simp [Zwk]; omega
 | c :: d :: r=>
  refine Zcw (fun h1=>?_) (fun h1=>⟨rfl,rfl⟩)
  simp at h1; omega
theorem Zzf {h:Zaa} (s:List Nat) (hb:∀ b∈s,b < 256):Zak pg Zll [.str s] h fun v h'=>v=.bool (Zwk s)∧h'=h:=by
 apply Ztb.call
 match s,hb with
 | [],_=>simp [Zwk]
 | [c],hb=>
  have hc:=hb c (by simp)
  simp only [List.length_cons,List.length_nil,show ((0 + 1:Nat):Int)=1 from rfl,beq_self_eq_true,Zcv]
  refine ⟨⟨by omega,by simp⟩,?_⟩
  simp only [Int.toNat_zero,List.getD_cons_zero]
  rw [IntWalk.i64_in _ (by omega)]
  refine Yfi.mono ?_
  rintro v h' ⟨rfl,rfl⟩
  simp only [Zaq]
  refine ⟨?_,by trivial⟩
  congr 1
  simp [Zwk]; rw [Bool.eq_iff_iff]; simp; omega
 | c :: d :: r,_=>
  refine Zcw (fun h1=>?_) (fun h1=>⟨rfl,rfl⟩)
  simp at h1; omega
def Yjt (s:List Nat) (h:Zaa) (v:Zay) (h':Zaa):Prop:=Zbc h.length h h'∧((∃ p,Znu s=some p∧v=.tup [.agg [.str p.1,.str p.2],.bool true]) ∨ (Znu s=none∧v=.tup [.agg [.str [],.str []],.bool false]))
theorem Ynn {c:Nat} {t:List Nat} (h1:65≤c∧c≤84) (h2:Zoq t=true):Znu (c :: 32 :: t)=some ([c],t):=by unfold Znu; simp [h1,h2]
theorem Zrm {h h':Zaa} {s:List Nat} {x y:Zay} (hs:Zbc h.length h h') (hi:h'[h.length]?=some (.cells Zab [x,y] false)) (hn:Znu s=none) :
  Zbt (Zbb h' (.ptr (some (List.length h,0))) [.str [],.str []]) fun h_1=>Zcd (Zbe h_1 (.ptr (some (List.length h,0))) 2) fun cs_2=>Zai cs_2 fun c_3 r_4=>Zbd (some c_3) fun s_5=>Zai r_4 fun c_6 r_7=>Zbd (some c_6) fun s_8=>Zbq r_7 (Yjt s h (.tup [.agg [.str s_5,.str s_8],.bool false]) h_1):=by
 rw [Zbg hi (by simp)]
 simp only [Zas]
 rw [Zew (Zce hi) (by simp [putRow])]
 simp only [putRow,List.take_zero,List.nil_append,List.length_cons,List.length_nil,List.cons_append,List.drop_succ_cons,List.drop_zero,List.drop_nil,List.append_nil,List.take_succ_cons,Zao,Zae,Zah,Zam]
 exact ⟨hs.trans (Zbc.set (Nat.le_refl _) _),.inr ⟨hn,rfl⟩⟩
theorem Yof {h h':Zaa} {s c t:List Nat} {x y:Zay} (hs:Zbc h.length h h') (hi:h'[h.length]?=some (.cells Zab [x,y] false)) (hn:Znu s=some (c,t)) :
  Zbt (Zbb h' (.ptr (some (List.length h,0))) [.str c,.str t]) fun h_1=>Zcd (Zbe h_1 (.ptr (some (List.length h,0))) 2) fun cs_2=>Zai cs_2 fun c_3 r_4=>Zbd (some c_3) fun s_5=>Zai r_4 fun c_6 r_7=>Zbd (some c_6) fun s_8=>Zbq r_7 (Yjt s h (.tup [.agg [.str s_5,.str s_8],.bool true]) h_1):=by
 rw [Zbg hi (by simp)]
 simp only [Zas]
 rw [Zew (Zce hi) (by simp [putRow])]
 simp only [putRow,List.take_zero,List.nil_append,List.length_cons,List.length_nil,List.cons_append,List.drop_succ_cons,List.drop_zero,List.drop_nil,List.append_nil,List.take_succ_cons,Zao,Zae,Zah,Zam]
 exact ⟨hs.trans (Zbc.set (Nat.le_refl _) _),.inl ⟨_,hn,rfl⟩⟩
theorem Zwz {h:Zaa} (s:List Nat) (hs:s.length≤1048576) (hb:∀ b∈s,b < 256):Zak pg Zlj [.str s] h (Yjt s h):=by
 apply Zop.call
 simp only [Zaw]
 have h0i:(h ++ [Zcb.cells Zab [.str [],.str []] false])[h.length]?=some (.cells Zab [.str [],.str []] false):=by simp
 have s0:Zbc h.length h (h ++ [Zcb.cells Zab [.str [],.str []] false]):=Zbc.app (Nat.le_refl _) _
 match s,hs,hb with
 | [],_,_=>exact Zar (fun _=>Zrm s0 h0i rfl) (fun h1=>by simp at h1)
 | [a],_,_=>exact Zar (fun _=>Zrm s0 h0i rfl) (fun h1=>by simp at h1)
 | [a,b],_,_=>
  refine Zar (fun _=>Zrm s0 h0i ?_) (fun h1=>by simp at h1)
  have:Zoq []=false:=by
   cases ht:Zoq [] with
   | false=>rfl
   | true=>exact absurd rfl (Ypq ht)
  simp [Znu,this]
 | a :: b :: c :: t,hs,hb=>
  refine Zar (fun h1=>by simp at h1; omega) (fun h1=>?_)
  refine ⟨⟨by omega,by simp; omega⟩,?_⟩
  simp only [show Int.toNat 1=1 from rfl,List.getD_cons_succ,List.getD_cons_zero]
  refine Ziy (fun hne=>Zrm s0 h0i ?_) (fun he=>?_)
  ·have:¬ b=32:=by omega
   simp [Znu,this]
  ·have hb32:b=32:=by omega
   subst hb32
   refine ⟨⟨by omega,by omega,by simp; omega⟩,?_⟩
   rw [Yhw]
   refine (Zzf [a] (fun x hx=>hb x (by simp at hx; simp [hx]))).mono ?_
   rintro v h2 ⟨rfl,rfl⟩
   simp only [Zaq]
   refine Zbs (fun hc=>Zrm s0 h0i ?_) (fun hc=>?_)
   ·have:¬ (65≤a∧a≤84):=by simp [Zwk] at hc; omega
    simp [Znu,this]
   ·have ha:65≤a∧a≤84:=by simpa [Zwk] using hc
    refine ⟨⟨by omega,by simp; omega,by omega⟩,?_⟩
    rw [Yev (s:=a :: 32 :: c :: t) (z:=2) (k:=2) rfl (by simp)]
    simp only [List.drop_succ_cons,List.drop_zero]
    refine (Zkc (c :: t) (by simp at hs ⊢; omega) _).mono ?_
    rintro v h3 ⟨rfl,s3⟩
    simp only [Zaq]
    have h3i:h3[h.length]?=some (.cells Zab [.str [],.str []] false):=by rw [s3.eq _ (by simp)]; exact h0i
    have s03:Zbc h.length h h3:=s0.trans (s3.mono (by simp))
    refine Zbs (fun hv=>Zrm s03 h3i ?_) (fun hv=>?_)
    ·simp [Znu,hv]
    ·apply Zop.J3i
     rw [Yhw,Yev (s:=a :: 32 :: c :: t) (z:=2) (k:=2) rfl (by simp)]
     simp only [List.drop_succ_cons,List.drop_zero]
     exact ⟨⟨by omega,by omega,by simp; omega⟩,⟨by omega,by simp; omega,by omega⟩,Yof s03 h3i (Ynn ha hv)⟩

theorem Zhi:pg.underlying Zbo=some (.slice Zab):=by kernel_rfl
theorem Zng:pg.cellsOf Zab=2:=by kernel_rfl
theorem Zni:pg.okElem Zab=true:=by kernel_rfl
theorem Znh:pg.bytesOf Zab≤127:=Nat.le_of_ble_eq_true (by kernel_rfl)
def Zds {α:Type} (ty:TypeId) (enc:α→List Zay) (b:Nat) (h:Zaa) (a:Pt) (n:Nat) (l:List α):Prop:=l.length=n∧(n=0 ∨ ∃ i,a=some (i,0)∧b≤i∧h[i]?=some (.cells ty (Zdb enc l) false))
theorem Zds.row {α:Type} {ty:TypeId} {enc:α→List Zay} {w b:Nat} {h:Zaa} {a:Pt} {n:Nat} {l:List α} (hw:∀ x,(enc x).length=w) (f:Zds ty enc b h a n l):Row h.length h a (n * w) (Zdb enc l):=by
 obtain ⟨hl,h0 | ⟨i,ha,hb,hi⟩⟩:=f
 ·subst h0
  have:l=[]:=List.eq_nil_of_length_eq_zero hl
  subst this; simp; exact Row.nil
 ·rw [ha]; exact (Vec.mk1 (n:=0) (c:=0) hi).row (by rw [Zat hw,hl])
theorem Zds.same {α:Type} {ty:TypeId} {enc:α→List Zay} {b:Nat} {h h':Zaa} {a:Pt} {n:Nat} {l:List α} (f:Zds ty enc b h a n l) (s:Zbc h.length h h'):Zds ty enc b h' a n l:=
 ⟨f.1,f.2.imp id fun ⟨i,ha,hb,hi⟩=>⟨i,ha,hb,by rw [s.eq i (Own.lt hi)]; exact hi⟩⟩
end Go.Sim

set_option linter.unusedVariables false
set_option linter.unusedSimpArgs false
set_option maxRecDepth 20000
namespace Go.Sim
open Go Go.RowKit

def Ype (a:Pt) (n:Nat) (h h':Zaa):Prop:=h.length≤h'.length∧∀ j,j < h.length→(∀ i,a=some (i,0)→n≠0→j≠i)→h'[j]?=h[j]?
theorem Ype.refl (a:Pt) (n:Nat) (h:Zaa):Ype a n h h:=⟨Nat.le_refl _,fun _ _ _=>rfl⟩
theorem Ype.same {a:Pt} {n:Nat} {h h1 h2:Zaa} (o:Ype a n h h1) (s:Zbc h1.length h1 h2):Ype a n h h2:=⟨Nat.le_trans o.1 s.le,fun j hj hn=>by rw [s.eq j (by have:=o.1; omega)]; exact o.2 j hj hn⟩
theorem Ype.set {n i:Nat} {h h1:Zaa} {x:Zcb} (o:Ype (some (i,0)) n h h1) (hn:n≠0):Ype (some (i,0)) n h (h1.set i x):=⟨by simp; exact o.1,fun j hj hne=>by rw [Zbw (fun e=>hne i rfl hn e.symm)]; exact o.2 j hj hne⟩
theorem Row.only {b:Nat} {h h':Zaa} {a a':Pt} {n m:Nat} {cs:List Zay} (r:Row b h a m cs) (o:Ype a' n h h') (hb:∀ i,a'=some (i,0)→n≠0→b≤i):Row b h' a m cs:=by
 obtain ⟨hl,r⟩:=r
 refine ⟨hl,r.imp id ?_⟩
 rintro ⟨i,o',t,all,ro,ha,hi,hg,x⟩
 exact ⟨i,o',t,all,ro,ha,hi,by rw [o.2 i (Own.lt hg) fun j hj hn=>by have:=hb j hj hn; omega]; exact hg,x⟩
theorem Zds.only {α:Type} {ty:TypeId} {enc:α→List Zay} {b:Nat} {h h':Zaa} {a a':Pt} {n m:Nat} {l:List α} (f:Zds ty enc b h a n l) (o:Ype a' m h h') (hb:∀ i,a'=some (i,0)→m≠0→∀ j,a=some (j,0)→j≠i):Zds ty enc b h' a n l:=
 ⟨f.1,f.2.imp id fun ⟨i,ha,hbi,hi⟩=>⟨i,ha,hbi,by rw [o.2 i (Own.lt hi) fun j hj hn=>hb j hj hn i ha]; exact hi⟩⟩
end Go.Sim

set_option linter.unusedVariables false
set_option linter.unusedSimpArgs false
set_option maxRecDepth 20000
namespace Go.Sim
open Go Go.RowKit

structure EI where
 c:List Nat
 t:List Nat
 a:Pt
 n:Nat
 cp:Nat
 e:Bool
 deriving Inhabited
def eN (x:EI):List Zay:=[.str x.c,.str x.t,.slice x.a x.n x.cp x.e]
theorem Zrs (x:EI):(eN x).length=3:=rfl
def Yym (h:Zaa) (x:EI) (i:Ins):Prop:=x.c=i.1.1∧x.t=i.1.2∧Row h.length h x.a (x.n * 2) (Zdb eP i.2)
def Yvg (h:Zaa) (xs:List EI) (is:List Ins):Prop:=xs.length=is.length∧∀ (k:Nat) (x:EI) (i:Ins),xs[k]?=some x→is[k]?=some i→Yym h x i
structure Zkr (h:Zaa) (a0:Pt) (n0 c0:Nat) (a1:Pt) (n1 c1:Nat) (w:Wd):Prop where
 cls:Row h.length h a0 (n0 * 2) (Zdb eP w.cs)
 ins:∃ xs,Row h.length h a1 (n1 * 3) (Zdb eN xs)∧Yvg h xs w.is
 le0:n0≤c0
 le1:n1≤c1
theorem Row.same' {h h':Zaa} {a:Pt} {n:Nat} {cs:List Zay} (r:Row h.length h a n cs) (s:Zbc h.length h h'):Row h'.length h' a n cs:=(r.same s).mono s.le
theorem Yym.same {h h':Zaa} {x:EI} {i:Ins} (r:Yym h x i) (s:Zbc h.length h h'):Yym h' x i:=⟨r.1,r.2.1,r.2.2.same' s⟩
theorem Yvg.same {h h':Zaa} {xs:List EI} {is:List Ins} (r:Yvg h xs is) (s:Zbc h.length h h'):Yvg h' xs is:=⟨r.1,fun k x i hx hi=>(r.2 k x i hx hi).same s⟩
theorem Zkr.same {h h':Zaa} {a0 a1:Pt} {n0 c0 n1 c1:Nat} {w:Wd} (r:Zkr h a0 n0 c0 a1 n1 c1 w) (s:Zbc h.length h h'):Zkr h' a0 n0 c0 a1 n1 c1 w:=
 ⟨r.cls.same' s,r.ins.imp fun xs ⟨r1,r2⟩=>⟨r1.same' s,r2.same s⟩,r.le0,r.le1⟩
theorem Yym.len {h:Zaa} {x:EI} {i:Ins} (r:Yym h x i):i.2.length=x.n:=by have:=r.2.2.1; rw [Zat Zcr] at this; omega
theorem Zkr.len0 {h:Zaa} {a0 a1:Pt} {n0 c0 n1 c1:Nat} {w:Wd} (r:Zkr h a0 n0 c0 a1 n1 c1 w):w.cs.length=n0:=by have:=r.cls.1; rw [Zat Zcr] at this; omega
theorem Zkr.len1 {h:Zaa} {a0 a1:Pt} {n0 c0 n1 c1:Nat} {w:Wd} (r:Zkr h a0 n0 c0 a1 n1 c1 w):w.is.length=n1:=by
 obtain ⟨xs,r1,r2,_⟩:=r.ins
 have:=r1.1; rw [Zat Zrs] at this; omega
theorem Zkr.class {h:Zaa} {a0 a1:Pt} {n0 c0 n1 c1:Nat} {w:Wd} (r:Zkr h a0 n0 c0 a1 n1 c1 w) {k:Nat} (hk:k < n0) :
  ∃ i o,∃ hk':k < w.cs.length,a0=some (i,o)∧i < h.length∧Zbe h (.ptr (some (i,o + k * 2))) 2=some [.str w.cs[k].1,.str w.cs[k].2]∧Zag h (.ptr (some (i,o + k * 2)))=some (.str w.cs[k].1)∧Zag h (.ptr (some (i,o + k * 2 + 1)))=some (.str w.cs[k].2):=by
 obtain ⟨i,o,hk',ha,hi,hr,hc⟩:=Row.el Zcr r.cls r.len0 hk (by omega)
 exact ⟨i,o,hk',ha,hi,hr,by simpa [eP] using hc 0 (by omega),by simpa [eP] using hc 1 (by omega)⟩
theorem Zkr.inst {h:Zaa} {a0 a1:Pt} {n0 c0 n1 c1:Nat} {w:Wd} (r:Zkr h a0 n0 c0 a1 n1 c1 w) {k:Nat} (hk:k < n1) :
  ∃ i o,∃ hk':k < w.is.length,∃ a n cp e,a1=some (i,o)∧i < h.length∧Zbe h (.ptr (some (i,o + k * 3))) 3=some [.str w.is[k].1.1,.str w.is[k].1.2,.slice a n cp e]∧Zag h (.ptr (some (i,o + k * 3)))=some (.str w.is[k].1.1)∧Zag h (.ptr (some (i,o + k * 3 + 1)))=some (.str w.is[k].1.2)∧Zag h (.ptr (some (i,o + k * 3 + 2)))=some (.slice a n cp e) ∧
   Row h.length h a (n * 2) (Zdb eP w.is[k].2)∧w.is[k].2.length=n:=by
 have hl:=r.len1
 obtain ⟨xs,r1,r2,r3⟩:=r.ins
 obtain ⟨i,o,hk',ha,hi,hr,hc⟩:=Row.el Zrs r1 (by omega) hk (by omega)
 have hI:=r3 k xs[k] w.is[k] (List.getElem?_eq_getElem hk') (List.getElem?_eq_getElem (by omega))
 obtain ⟨e1,e2,e3⟩:=id hI
 refine ⟨i,o,by omega,xs[k].a,xs[k].n,xs[k].cp,xs[k].e,ha,hi,?_,?_,?_,?_,e3,hI.len⟩
 ·rw [hr,eN,e1,e2]
 ·have:=hc 0 (by omega); rw [← e1]; simpa [eN] using this
 ·have:=hc 1 (by omega); rw [← e2]; simpa [eN] using this
 ·have:=hc 2 (by omega); simpa [eN] using this
theorem Row.pr {b:Nat} {h:Zaa} {a:Pt} {n:Nat} {l:List Nd} (r:Row b h a (n * 2) (Zdb eP l)) {k:Nat} (hk:k < n) :
  ∃ i o,∃ hk':k < l.length,a=some (i,o)∧i < b∧Zbe h (.ptr (some (i,o + k * 2))) 2=some [.str l[k].1,.str l[k].2]∧Zag h (.ptr (some (i,o + k * 2)))=some (.str l[k].1)∧Zag h (.ptr (some (i,o + k * 2 + 1)))=some (.str l[k].2):=by
 have hl:l.length=n:=by have:=r.1; rw [Zat Zcr] at this; omega
 obtain ⟨i,o,hk',ha,hi,hr,hc⟩:=Row.el Zcr r hl hk (by omega)
 exact ⟨i,o,hk',ha,hi,hr,by simpa [eP] using hc 0 (by omega),by simpa [eP] using hc 1 (by omega)⟩

def Mid (lo hi:Nat) (h h':Zaa):Prop:=h.length≤h'.length∧∀ j,j < h.length→(j < lo ∨ hi≤j)→h'[j]?=h[j]?
theorem Mid.refl (lo hi:Nat) (h:Zaa):Mid lo hi h h:=⟨Nat.le_refl _,fun _ _ _=>rfl⟩
theorem Mid.trans {lo hi:Nat} {h h1 h2:Zaa} (a:Mid lo hi h h1) (b:Mid lo hi h1 h2):Mid lo hi h h2:=⟨Nat.le_trans a.1 b.1,fun j hj hn=>by rw [b.2 j (by have:=a.1; omega) hn]; exact a.2 j hj hn⟩
theorem Mid.of_same {lo hi:Nat} {h h':Zaa} (s:Zbc h.length h h'):Mid lo hi h h':=⟨s.le,fun j hj _=>s.eq j hj⟩
theorem Mid.same {lo hi:Nat} {h h1 h2:Zaa} (a:Mid lo hi h h1) (s:Zbc h1.length h1 h2):Mid lo hi h h2:=a.trans (Mid.of_same s)
theorem Mid.set {lo hi i:Nat} {h h1:Zaa} {x:Zcb} (o:Mid lo hi h h1) (h0:lo≤i) (h2:i < hi):Mid lo hi h (h1.set i x):=⟨by simp; exact o.1,fun j hj hne=>by rw [Zbw (by omega)]; exact o.2 j hj hne⟩
theorem Ype.mid {lo hi:Nat} {a:Pt} {n:Nat} {h h':Zaa} (o:Ype a n h h') (hb:∀ i,a=some (i,0)→n≠0→lo≤i∧i < hi):Mid lo hi h h':=⟨o.1,fun j hj hn=>o.2 j hj fun i hi h0=>by have:=hb i hi h0; omega⟩
theorem Zds.in {α:Type} {ty:TypeId} {enc:α→List Zay} {b:Nat} {h:Zaa} {a:Pt} {n:Nat} {l:List α} (f:Zds ty enc b h a n l):∀ i,a=some (i,0)→n≠0→b≤i∧i < h.length:=by
 intro i hi hn
 rcases f.2 with h0 | ⟨j,ha,hb,hj⟩
 ·exact absurd h0 hn
 ·rw [hi] at ha; cases ha; exact ⟨hb,Own.lt hj⟩
theorem Row.mid {lo hi b:Nat} {h h':Zaa} {a:Pt} {m:Nat} {cs:List Zay} (r:Row b h a m cs) (o:Mid lo hi h h') (hb:b≤lo):Row b h' a m cs:=by
 obtain ⟨hl,r⟩:=r
 refine ⟨hl,r.imp id ?_⟩
 rintro ⟨i,o',t,all,ro,ha,hi,hg,x⟩
 exact ⟨i,o',t,all,ro,ha,hi,by rw [o.2 i (Own.lt hg) (.inl (by omega))]; exact hg,x⟩
theorem Zds.mid {α:Type} {ty:TypeId} {enc:α→List Zay} {lo hi b:Nat} {h h':Zaa} {a:Pt} {n:Nat} {l:List α} (f:Zds ty enc b h a n l) (o:Mid lo hi h h') (hb:hi≤b):Zds ty enc b h' a n l:=
 ⟨f.1,f.2.imp id fun ⟨i,ha,hbi,hi⟩=>⟨i,ha,hbi,by rw [o.2 i (Own.lt hi) (.inr (by omega))]; exact hi⟩⟩

structure Zvr (b:Nat) (h:Zaa) (a0:Pt) (n0:Nat) (a1:Pt) (n1:Nat) (xs:List EI) (w:Wd):Prop where
 cls:Zds Zbj eP b h a0 n0 w.cs
 ins:Zds Zad eN b h a1 n1 xs
 len:xs.length=w.is.length
 need:∀ (k:Nat) (x:EI) (i:Ins),xs[k]?=some x→w.is[k]?=some i→x.c=i.1.1∧x.t=i.1.2∧Zds Zab eP b h x.a x.n i.2
 sep:∀ (j k:Nat) (x y:EI),j≠k→xs[j]?=some x→xs[k]?=some y→x.n≠0→y.n≠0→x.a≠y.a
 nn:∀ x∈xs,x.a≠none
 nc:a0≠none
theorem Zvr.same {b:Nat} {h h':Zaa} {a0 a1:Pt} {n0 n1:Nat} {xs:List EI} {w:Wd} (f:Zvr b h a0 n0 a1 n1 xs w) (s:Zbc h.length h h'):Zvr b h' a0 n0 a1 n1 xs w:=
 ⟨f.cls.same s,f.ins.same s,f.len,fun k x i hx hi=>⟨(f.need k x i hx hi).1,(f.need k x i hx hi).2.1,(f.need k x i hx hi).2.2.same s⟩,f.sep,f.nn,f.nc⟩
theorem Zvr.mid {lo hi b:Nat} {h h':Zaa} {a0 a1:Pt} {n0 n1:Nat} {xs:List EI} {w:Wd} (f:Zvr b h a0 n0 a1 n1 xs w) (s:Mid lo hi h h') (hb:hi≤b):Zvr b h' a0 n0 a1 n1 xs w:=
 ⟨f.cls.mid s hb,f.ins.mid s hb,f.len,fun k x i hx hi=>⟨(f.need k x i hx hi).1,(f.need k x i hx hi).2.1,(f.need k x i hx hi).2.2.mid s hb⟩,f.sep,f.nn,f.nc⟩
theorem Zvr.rep {b:Nat} {h:Zaa} {a0 a1:Pt} {n0 c0 n1 c1:Nat} {xs:List EI} {w:Wd} (f:Zvr b h a0 n0 a1 n1 xs w) (h0:n0≤c0) (h1:n1≤c1):Zkr h a0 n0 c0 a1 n1 c1 w:=
 ⟨f.cls.row Zcr,⟨xs,f.ins.row Zrs,f.len,fun k x i hx hi=>⟨(f.need k x i hx hi).1,(f.need k x i hx hi).2.1,(f.need k x i hx hi).2.2.row Zcr⟩⟩,h0,h1⟩
end Go.Sim

set_option linter.unusedVariables false
set_option linter.unusedSimpArgs false
set_option maxRecDepth 20000
namespace Go.Sim
open Go Go.RowKit

def one (c:Nat):List Nat:=[c]
theorem Zwc:pg.underlying Zka=some (.slice Zbi):=by kernel_rfl
theorem Yau:pg.cellsOf Zbi=1:=by kernel_rfl
theorem Yct:pg.okElem Zbi=true:=by kernel_rfl
theorem Ycq:pg.bytesOf Zbi≤127:=Nat.le_of_ble_eq_true (by kernel_rfl)
theorem Yya (s:List Nat) (h:Zaa):Zak pg Zwa [.str s] h fun v h'=>Zbc h.length h h'∧∃ a n c e,v=.slice a n c e∧Row h'.length h' a n (strs ((Zrn s).map one)):=by
 apply Zlq.call
 simp only [Zaw]
 have hlist:(h ++ [Zcb.cells Zbi [] false] ++ [Zcb.cells Zbi [.str [88],.str [89],.str [90],.str [120],.str [121],.str [122]] false])[h.length + 1]?=some (.cells Zbi [.str [88],.str [89],.str [90],.str [120],.str [121],.str [122]] false):=by simp
 have hlen:List.length (h ++ [Zcb.cells Zbi [] false])=h.length + 1:=by simp
 rw [hlen]
 refine Zlq.L3ind _ _ _ _ _ _ _ (J:=fun (g:Nat) a3 n3 c3 e3 x9 h'=>x9=(g:Int)∧g≤6∧Zbc h.length h h'∧h'[h.length + 1]?=some (.cells Zbi [.str [88],.str [89],.str [90],.str [120],.str [121],.str [122]] false)∧n3=(((Zfh.take g).filter fun v=>decide (v∈s)).map one).length∧Vec Zbi h' a3 n3 c3 (strs (((Zfh.take g).filter fun v=>decide (v∈s)).map one))∧∀ i,a3=some (i,0)→h.length≤i∧i≠h.length + 1) (fun g=>6 - g) ?_ 0 _ _ _ _ _ _
  ⟨rfl,by omega,(Zbc.app (Nat.le_refl _) _).trans (Zbc.app (by simp) _),hlist,by simp,Vec.mk1 (by simp),fun i hi=>by cases hi; omega⟩
 rintro g a3 n3 c3 e3 x9 h' ⟨rfl,hg,hS,hl,rfl,hv,ha⟩ R hR
 unfold Zlq.L3t
 refine Zar (fun hlt=>?_) (fun hge=>?_)
 ·have hlt':g < 6:=by omega
  have hc:∃ c,Zfh[g]?=some c∧Zag h' (.ptr (some (h.length + 1,0 + (g:Int).toNat * 1)))=some (.str [c]):=by
   rw [Zan hl,Int.toNat_natCast]
   match g,hlt' with
   | 0,_ | 1,_ | 2,_ | 3,_ | 4,_ | 5,_=>exact ⟨_,rfl,rfl⟩
  obtain ⟨c,hc1,hc2⟩:=hc
  simp only [Zau,hc2,Zah]
  refine ⟨by omega,Zlx.mono ?_⟩
  rintro v h2 ⟨rfl,rfl⟩
  simp only [Zaq]
  have htk:Zfh.take (g + 1)=Zfh.take g ++ [c]:=by
   rw [List.take_succ,hc1]; rfl
  have hbd:(((Zfh.take g).filter fun v=>decide (v∈s)).map one).length≤6:=by
   rw [List.length_map]
   exact Nat.le_trans (List.length_filter_le _ _) (by simp; omega)
  refine Zar (fun hin=>?_) (fun hout=>?_)
  ·simp only [Zaw]
   refine hv.push Zwc Yau Yct Ycq (by simp) rfl (by omega) (fun h4 hl4 hi4 hk4=>?_)
   simp only [Zaj]
   apply Zlq.J7i
   rw [Zbm (by omega)]
   have hle:=hS.le
   refine hR (g + 1) _ _ _ _ _ _ (by omega) ⟨rfl,by omega,⟨by omega,fun j hj=>?_⟩,?_,?_,Vec.mk1 ?_,fun i hi=>by cases hi; have:=Own.lt hl; omega⟩
   ·rw [hk4 j (by omega) fun i hi=>by have:=(ha i hi).1; omega]; exact hS.eq j hj
   ·rw [hk4 _ (Own.lt hl) fun i hi=>(ha i hi).2.symm]; exact hl
   ·rw [htk,List.filter_append]; simp [hin]
   ·rw [hi4,htk,List.filter_append]; simp [hin,strs,one]
  ·apply Zlq.J7i
   rw [Zbm (by omega)]
   have hf:(Zfh.take (g + 1)).filter (fun v=>decide (v∈s))=(Zfh.take g).filter fun v=>decide (v∈s):=by rw [htk,List.filter_append]; simp [hout]
   refine hR (g + 1) _ _ _ _ _ _ (by omega) ⟨rfl,by omega,hS,hl,by rw [hf],by rw [hf]; exact hv,ha⟩
 ·have:g=6:=by omega
  subst this
  apply Zlq.A3x0i
  refine ⟨hS,_,_,_,_,rfl,hv.row (by simp)⟩
end Go.Sim

set_option linter.unusedVariables false
set_option linter.unusedSimpArgs false
set_option maxRecDepth 20000
namespace Go.Sim
open Go Go.RowKit

theorem Zgm {h:Zaa} {t:TypeId} {cs:List Zay} {o:Nat}:Zag (h ++ [.cells t cs false]) (.ptr (some (h.length,o)))=cs[o]?:=Zan (t:=t) (cs:=cs) (ro:=false) (by simp)
theorem Yhg {h:Zaa} {t:TypeId} {cs:List Zay} {n:Nat} (hn:cs.length=n):Zbe (h ++ [.cells t cs false]) (.ptr (some (h.length,0))) n=some cs:=by
 rw [Zew (show (h ++ [Zcb.cells t cs false])[h.length]?=some (.cells t cs false) by simp) (by omega)]; simp [← hn]
theorem Zal {h:Zaa} {x:Zcb}:Zbc h.length h (h ++ [x]):=Zbc.app (Nat.le_refl _) _
theorem Zur {h:Zaa} {t:TypeId} {cs vs:List Zay} (hl:cs.length=vs.length):Zbb (h ++ [.cells t cs false]) (.ptr (some (h.length,0))) vs=some (h ++ [.cells t vs false]):=by
 rw [Zbg (show (h ++ [Zcb.cells t cs false])[h.length]?=some (.cells t cs false) by simp) (by omega)]
 simp [putRow,hl]
theorem Zfb {h:Zaa} {t:TypeId} {x y a b:Zay}:Zbb (h ++ [.cells t [x,y] false]) (.ptr (some (h.length,0))) [a,b]=some (h ++ [.cells t [a,b] false]):=Zur rfl
theorem Yyw {h:Zaa} {t:TypeId} {x y z a b c:Zay}:Zbb (h ++ [.cells t [x,y,z] false]) (.ptr (some (h.length,0))) [a,b,c]=some (h ++ [.cells t [a,b,c] false]):=Zur rfl
theorem Row.sl {b:Nat} {h:Zaa} {a:Pt} {n k:Nat} {l:List Nd} (r:Row b h a (n * 2) (Zdb eP l)) (hk:k≤n) (hl:l.length=n):Row b h a (k * 2) (Zdb eP (l.take k)):=by
 obtain ⟨h1,h2⟩:=r
 have e:(Zdb eP (l.take k)).length=k * 2:=by rw [Zat Zcr,List.length_take,Nat.min_eq_left (by omega)]
 refine ⟨e,?_⟩
 rcases h2 with h0 | ⟨i,o,t,all,ro,ha,hb,hi,hle,hcs⟩
 ·exact .inl (by omega)
 ·refine .inr ⟨i,o,t,all,ro,ha,hb,hi,by omega,?_⟩
  rw [← Yja Zcr,hcs,List.take_take,Nat.min_eq_left (by omega)]
theorem Ymv {b:Nat} {h:Zaa} {a:Pt} {n c k:Nat} {e:Bool} {l:List Nd} {K:Zay→Prop} (r:Row b h a (n * 2) (Zdb eP l)) (hl:l.length=n) (hk:k≤n) (hc:n≤c) {z:Int} (hz:z=k)
  (hK:∀ a' c' e',Row b h a' (k * 2) (Zdb eP (l.take k))→k≤c'→K (.slice a' k c' e')):Zhw a n c e 2 none (some (.int .i64 z)) none K:=by
 subst hz
 simp only [Zhw,Zlv]
 refine ⟨by omega,?_⟩
 split
 ·have h0:n=0:=by
   obtain ⟨h1,h2⟩:=r
   rcases h2 with h2 | ⟨i,o,t,all,ro,ha,_⟩
   ·omega
   ·cases ha
  have hk0:k=0:=by omega
  subst hk0
  exact ⟨⟨by trivial,by simp,.inl (by trivial)⟩,hK _ _ _ (by simpa using Row.nil) (by omega)⟩
 ·rename_i i o
  refine ⟨fun hlt=>?_,fun hlt=>?_⟩
  ·have e2:((k:Int) - 0).toNat=k:=by omega
   have e3:o + Int.toNat 0 * 2=o:=by simp
   have e4:((c:Int) - 0).toNat=c:=by omega
   rw [e2,e3,e4]
   exact hK _ _ _ (r.sl hk hl) (by omega)
  ·have hk0:k=0:=by omega
   subst hk0
   exact hK _ _ _ (by simpa using Row.nil) (by omega)

theorem Yjy {h:Zaa} {x:Nd} {j:Nat} {c:List Nat} (hj:Zag h (.ptr (some (j,0)))=some (.str c)) (hjl:j < h.length) :
  Zak pg Zdv [.agg [.str x.1,.str x.2],.ptr (some (j,0))] h fun v h'=>v=.bool (decide (x.1=c))∧Zbc h.length h h':=by
 apply Zrk.call
 simp only [Zaw,Zgm,List.getElem?_cons_zero,Zah]
 have:=(Zal (h:=h) (x:=.cells Zbj [.str x.1,.str x.2] false)).cell hjl hj
 rw [this]
 exact ⟨rfl,Zal⟩
theorem Ykx {h:Zaa} {a:Pt} {n c:Nat} {e:Bool} {cs:List Nd} {j:Nat} {s:List Nat} (r:Row h.length h a (n * 2) (Zdb eP cs)) (hn:n≤4611686018427387904) (hj:Zag h (.ptr (some (j,0)))=some (.str s)) (hjl:j < h.length) :
  Zak pg Zel [.slice a n c e,.fn Zdv [.ptr (some (j,0))]] h fun v h'=>(∃ z:Int,v=.int .i64 z∧decide (z ≥ 0)=Zgg cs s)∧Zbc h.length h h':=by
 have hl:cs.length=n:=by have:=r.1; rw [Zat Zcr] at this; omega
 apply Zcc.call
 refine Zcc.L2ind _ _ _ _ _ _ _ (J:=fun (g:Nat) x8 h'=>x8=(g:Int)∧g≤n∧Zbc h.length h h'∧Zgg (cs.take g) s=false) (fun g=>n - g) ?_ 0 _ _ ⟨rfl,by omega,Zbc.refl _ _,rfl⟩
 rintro g x8 h' ⟨rfl,hg,hS,hk⟩ R hR
 unfold Zcc.L2t
 refine Zar (fun hlt=>?_) (fun hge=>?_)
 ·obtain ⟨i,o,hgl,rfl,_,hr,_⟩:=(r.same hS).pr (k:=g) (by omega)
  simp only [Zau,Int.toNat_natCast,hr,Zao,Zae,Zam,Zah]
  refine ⟨by omega,(Yjy (x:=cs[g]) (hS.cell hjl hj) (by have:=hS.le; omega)).mono ?_⟩
  rintro v h2 ⟨rfl,s2⟩
  simp only [Zaq]
  have hS2:=hS.trans (s2.mono hS.le)
  refine Zar (fun he=>?_) (fun he=>?_)
  ·refine ⟨⟨_,rfl,?_⟩,hS2⟩
   have:Zgg cs s=true:=by unfold Zgg; rw [List.any_eq_true]; exact ⟨_,List.getElem_mem hgl,by simpa using he⟩
   rw [this]; simp
  ·rw [Zbm (by omega)]
   exact hR (g + 1) _ _ (by omega) ⟨rfl,by omega,hS2,by rw [Yaf hgl,hk]; simp [he]⟩
 ·apply Zcc.A2x0i
  have:g=n:=by omega
  subst this
  rw [List.take_of_length_le (by omega)] at hk
  exact ⟨⟨_,rfl,by rw [hk]; rfl⟩,hS⟩
theorem Zxk {h:Zaa} {a:Pt} {n c:Nat} {e:Bool} {cs:List Nd} {s:List Nat} (r:Row h.length h a (n * 2) (Zdb eP cs)) (hn:n≤4611686018427387904) :
  Zak pg Zjm [.slice a n c e,.str s] h fun v h'=>v=.bool (Zgg cs s)∧Zbc h.length h h':=by
 apply Zyu.call
 simp only [Zaw]
 apply Zdy.call
 have s1:Zbc h.length h (h ++ [.cells Zbi [.str s] false]):=Zal
 refine (Ykx (r.same' s1) hn (s:=s) (by rw [Zgm]; rfl) (by simp)).mono ?_
 rintro v h2 ⟨⟨z,rfl,hz⟩,s2⟩
 simp only [Zax,Zaq]
 exact ⟨by rw [hz],s1.trans (s2.mono s1.le)⟩
theorem Znl {h:Zaa} {a a1:Pt} {n c n1 c1:Nat} {e e1:Bool} {cs:List Nd} {s:List Nat} (r:Row h.length h a (n * 2) (Zdb eP cs)) (hn:n≤4611686018427387904) :
  Zak pg Zgo [.agg [.slice a n c e,.slice a1 n1 c1 e1],.str s] h fun v h'=>v=.int .i64 (Yay cs s)∧Zbc h.length h h':=by
 have hl:cs.length=n:=by have:=r.1; rw [Zat Zcr] at this; omega
 apply Zkv.call
 simp only [Zaw,Zgm,Nat.add_zero,List.getElem?_cons_zero,Zaj]
 have s1:Zbc h.length h (h ++ [.cells Zac [.slice a n c e,.slice a1 n1 c1 e1] false]):=Zal
 refine Zkv.L2ind _ _ _ _ _ _ _ (J:=fun (g:Nat) x10 h'=>x10=(g:Int)∧g≤n∧Zbc h.length h h'∧Zgg (cs.take g) s=false) (fun g=>n - g) ?_ 0 _ _ ⟨rfl,by omega,s1,rfl⟩
 rintro g x8 h' ⟨rfl,hg,hS,hk⟩ R hR
 unfold Zkv.L2t
 refine Zar (fun hlt=>?_) (fun hge=>?_)
 ·obtain ⟨i,o,hgl,rfl,_,hr,_⟩:=(r.same hS).pr (k:=g) (by omega)
  simp only [Zau,Int.toNat_natCast,hr,Zao,Zae,Zam,Zah,Zaw]
  rw [Zfb]
  simp only [Zas,Zgm,Nat.add_zero,List.getElem?_cons_zero,Zah]
  refine ⟨by omega,?_⟩
  have hS2:Zbc h.length h (h' ++ [.cells Zbj [.str cs[g].1,.str cs[g].2] false]):=hS.trans (Zbc.app hS.le _)
  refine Zar (fun he=>?_) (fun he=>?_)
  ·refine ⟨?_,hS2⟩
   have hkn:Zgg cs s=true:=by unfold Zgg; rw [List.any_eq_true]; exact ⟨_,List.getElem_mem hgl,by simpa using he⟩
   unfold Yay
   rw [hkn,if_pos rfl]
   congr 2
   symm
   rw [List.findIdx_eq hgl]
   refine ⟨by simpa using he,fun j hj=>?_⟩
   unfold Zgg at hk
   rw [List.any_eq_false] at hk
   have:=hk cs[j] (List.mem_take_iff_getElem.2 ⟨j,by omega,rfl⟩)
   simpa using this
  ·rw [Zbm (by omega)]
   exact hR (g + 1) _ _ (by omega) ⟨rfl,by omega,hS2,by rw [Yaf hgl,hk]; simp [he]⟩
 ·apply Zkv.A2x0i
  have:g=n:=by omega
  subst this
  rw [List.take_of_length_le (by omega)] at hk
  exact ⟨by unfold Yay; rw [hk]; rfl,hS⟩

theorem Yaq {s:List Nat} {g:Nat} {z:Int} (hg:g < s.length) (hz:z=((g + 1:Nat):Int)):sub s (g:Int) z=[s[g]]:=by
 subst hz
 simp only [sub,Int.toNat_natCast]
 rw [List.take_succ_eq_append_getElem hg,List.drop_append_of_le_length (by simp; omega),List.drop_of_length_le (by rw [List.length_take]; exact Nat.min_le_left _ _),List.nil_append]
theorem Zwl {g:Nat} (hg:0 < g) (hn:g≤9223372036854775807):IntKind.wrap .i64 ((g:Int) - 1)=((g - 1:Nat):Int):=by rw [IntWalk.i64_in _ (by omega)]; omega
theorem Yle {cs:List Nd} {s:List Nat} {g:Nat} (hg:g < s.length):Ydh cs s g=(Zgg cs [s[g]] && (g == 0 || decide (s.getD (g - 1) 0 < s[g]))):=by unfold Ydh; rw [Zgh hg]
theorem Yna {cs:List Nd} {g:Nat} (hg:g < cs.length):Ydc cs g=(Zwk cs[g].1 && (g == 0 || Zfo (cs.getD (g - 1) ([],[])).1 cs[g].1) && Yhe (cs.take g) cs[g].2):=by unfold Ydc; rw [Zgh hg]
theorem Znn {cs:List Nd} {g:Nat} (hg:g < cs.length) (h:Ydc cs g=false):Zit cs=false:=by unfold Zit; rw [Zmd hg h]; rfl
theorem Zzh {h:Zaa} {a a1:Pt} {n c n1 c1:Nat} {e e1:Bool} {cs:List Nd} (r:Row h.length h a (n * 2) (Zdb eP cs)) (hc:n≤c) (hn:n≤1048576) (hs:∀ p∈cs,p.2.length≤1048576) :
  Zak pg Zln [.agg [.slice a n c e,.slice a1 n1 c1 e1]] h fun v h'=>v=.bool (Zit cs)∧Zbc h.length h h':=by
 have hl:cs.length=n:=by have:=r.1; rw [Zat Zcr] at this; omega
 apply Zdw.call
 simp only [Zaw,Zgm,Nat.add_zero,List.getElem?_cons_zero,Zaj]
 have s1:Zbc h.length h (h ++ [.cells Zac [.slice a n c e,.slice a1 n1 c1 e1] false]):=Zal
 have hw:(h ++ [Zcb.cells Zac [.slice a n c e,.slice a1 n1 c1 e1] false])[h.length]?=some (.cells Zac [.slice a n c e,.slice a1 n1 c1 e1] false):=by simp
 refine Zdw.L2ind _ _ _ _ _ _ _ _ (J:=fun (g:Nat) x9 h'=>x9=(g:Int)∧g≤n∧Zbc h.length h h'∧h'[h.length]?=some (.cells Zac [.slice a n c e,.slice a1 n1 c1 e1] false)∧(List.range g).all (Ydc cs)=true) (fun g=>n - g) ?_ 0 _ _ ⟨rfl,by omega,s1,hw,rfl⟩
 rintro g x9 h' ⟨rfl,hg,hS,hW,hk⟩ R hR
 unfold Zdw.L2t
 refine Zar (fun hlt=>?_) (fun hge=>?_)
 ·obtain ⟨i,o,hgl,rfl,hil,hr,_⟩:=(r.same hS).pr (k:=g) (by omega)
  simp only [Zau,Int.toNat_natCast,hr,Zao,Zae,Zam,Zah,Zaw]
  rw [Zfb]
  simp only [Zas,Zgm,Nat.add_zero,List.getElem?_cons_zero,Zah]
  have hS2:Zbc h.length h (h' ++ [.cells Zbj [.str cs[g].1,.str cs[g].2] false]):=hS.trans (Zbc.app hS.le _)
  refine ⟨by omega,(Yni _).mono ?_⟩
  rintro v h2 ⟨rfl,rfl⟩
  simp only [Zaq,true_and]
  have hcl:=Yna hgl
  have hle:=hS2.le
  have hWl:=Own.lt hW
  have hW2:(h' ++ [.cells Zbj [.str cs[g].1,.str cs[g].2] false])[h.length]?=some (.cells Zac [.slice (some (i,o)) n c e,.slice a1 n1 c1 e1] false):=Zib hW
  have hcell:∀ o',Zag (h' ++ [.cells Zbj [.str cs[g].1,.str cs[g].2] false]) (.ptr (some (h'.length,o')))=([.str cs[g].1,.str cs[g].2]:List Zay)[o']?:=fun o'=>Zgm
  -- the classes above
  have key:(Zwk cs[g].1 && (g == 0 || Zfo (cs.getD (g - 1) ([],[])).1 cs[g].1))=true→Zdw.J6 (fun v h'=>v=.bool (Zit cs)∧Zbc h.length h h') R h'.length 0 h.length 0 (g:Int) (some (i,o)) n c e (n:Int) (g:Int) (h' ++ [.cells Zbj [.str cs[g].1,.str cs[g].2] false]):=by
   intro hpre
   rw [hpre,Bool.true_and] at hcl
   apply Zdw.J6i
   rw [hcell]
   simp only [Nat.zero_add,List.getElem?_cons_succ,List.getElem?_cons_zero,Zah]
   have hsl:=hs cs[g] (List.getElem_mem hgl)
   refine Zdw.L7ind _ _ _ _ _ _ _ _ _ _ _ _ _ _ (J:=fun (q:Nat) x37 h3=>x37=(q:Int)∧q≤cs[g].2.length∧Zbc h.length h h3∧h3[h.length]?=some (.cells Zac [.slice (some (i,o)) n c e,.slice a1 n1 c1 e1] false)∧h3[h'.length]?=some (.cells Zbj [.str cs[g].1,.str cs[g].2] false)∧(List.range q).all (Ydh (cs.take g) cs[g].2)=true) (fun q=>cs[g].2.length - q) ?_ 0 _ _ ⟨rfl,by omega,hS2,hW2,by simp,rfl⟩
   rintro q x37 h3 ⟨rfl,hq,hS3,hW3,hI3,hk3⟩ R7 hR7
   unfold Zdw.L7t
   refine Zar (fun hlt3=>?_) (fun hge3=>?_)
   ·have hq':q < cs[g].2.length:=by omega
    simp only [Nat.add_zero,Nat.zero_add,Zan hW3,Zan hI3,List.getElem?_cons_succ,List.getElem?_cons_zero,Zaj,Zah,true_and]
    refine Ymv (r.same hS3) hl (k:=g) (by omega) hc rfl (fun a' c' e' hrow hc'=>?_)
    simp only [Zaj]
    rw [Zbm (by omega),Yaq hq' rfl]
    refine ⟨⟨by omega,by omega,by omega⟩,(Zxk (hrow.mono hS3.le) (by omega)).mono ?_⟩
    rintro v h4 ⟨rfl,s4⟩
    have hS4:=hS3.trans (s4.mono hS3.le)
    have hW4:h4[h.length]?=some (.cells Zac [.slice (some (i,o)) n c e,.slice a1 n1 c1 e1] false):=by rw [s4.eq _ (Own.lt hW3)]; exact hW3
    have hI4:h4[h'.length]?=some (.cells Zbj [.str cs[g].1,.str cs[g].2] false):=by rw [s4.eq _ (Own.lt hI3)]; exact hI3
    simp only [Zaq,Zan hW3,Zan hW4,Zan hI4,Nat.add_zero,Nat.zero_add,List.getElem?_cons_succ,List.getElem?_cons_zero,Zah,true_and]
    have hsa:=Yle (cs:=cs.take g) hq'
    have fail:Ydh (cs.take g) cs[g].2 q=false→(Zay.bool false=Zay.bool (Zit cs)∧Zbc h.length h h4):=fun hf=>⟨by rw [Znn hgl (by rw [hcl]; unfold Yhe; exact Zmd hq' hf)],hS4⟩
    have next:Ydh (cs.take g) cs[g].2 q=true→R7 h.length 0 (g:Int) h'.length 0 (some (i,o)) n c e (n:Int) (g:Int) (cs[g].2.length:Int) (IntKind.wrap .i64 ((q:Int) + 1)) h4:=fun ht=>by
     rw [Zbm (by omega)]
     exact hR7 (q + 1) _ _ (by omega) ⟨rfl,by omega,hS4,hW4,hI4,Ziz hk3 ht⟩
    refine Zbs (fun hb=>fail (by rw [hsa,hb]; rfl)) (fun hb=>?_)
    refine Zar (fun h0=>?_) (fun h0=>?_)
    ·have h0':0 < q:=by omega
     rw [Zwl h0' (by omega)]
     refine ⟨⟨by omega,by omega⟩,⟨by omega,by omega⟩,?_⟩
     simp only [Int.toNat_natCast]
     have hd1:cs[g].2.getD q 0=cs[g].2[q]:=Zgh hq'
     have hq0:(q == 0)=false:=by simp; omega
     refine Zar (fun h1=>fail ?_) (fun h1=>Zdw.J11i _ _ _ _ _ _ _ _ _ _ _ _ _ _ _ _ _ (next ?_))
     ·rw [hsa,hb,hq0,← hd1]; simp only [Bool.true_and,Bool.false_or,decide_eq_false_iff_not]; omega
     ·rw [hsa,hb,hq0,← hd1]; simp only [Bool.true_and,Bool.false_or,decide_eq_true_eq]; omega
    ·have:q=0:=by omega
     subst this
     exact Zdw.J11i _ _ _ _ _ _ _ _ _ _ _ _ _ _ _ _ _ (next (by rw [hsa,hb]; rfl))
   ·apply Zdw.A7x2i
    apply Zdw.J12i
    have:q=cs[g].2.length:=by omega
    subst this
    rw [Zbm (by omega)]
    exact hR (g + 1) _ _ (by omega) ⟨rfl,by omega,hS3,hW3,Ziz hk (by rw [hcl]; exact hk3)⟩
  refine Zbs (fun hb=>⟨by rw [Znn hgl (by rw [hcl,hb]; rfl)],hS2⟩) (fun hb=>?_)
  refine Zar (fun h0=>?_) (fun h0=>?_)
  ·have h0':0 < g:=by omega
   rw [Zan hW2]
   simp only [List.getElem?_cons_zero,Zaj]
   rw [Zwl h0' (by omega)]
   obtain ⟨i',o',hgl',heq,_,_,hc0,_⟩:=(r.same hS2).pr (k:=g - 1) (by omega)
   cases heq
   simp only [Zau,Int.toNat_natCast,hc0,Zah,Nat.add_zero,Nat.zero_add,hcell,List.getElem?_cons_zero,true_and]
   refine ⟨by omega,?_⟩
   have hg0:(g == 0)=false:=by simp; omega
   have hgd:cs.getD (g - 1) ([],[])=cs[g - 1]:=Zgh hgl'
   refine Zbs (fun hb2=>⟨by rw [Znn hgl (by rw [hcl,hb,hg0,hgd,hb2]; rfl)],hS2⟩) (fun hb2=>key (by rw [hb,hg0,hgd,hb2]; rfl))
  ·have:g=0:=by omega
   subst this
   exact key (by rw [hb]; rfl)
 ·apply Zdw.A2x0i
  have:g=n:=by omega
  subst this
  have hok:Zit cs=decide (1≤g∧g≤4):=by unfold Zit; rw [hl,hk,Bool.true_and]
  simp only [Nat.add_zero,Zan hW,List.getElem?_cons_zero,Zaj]
  refine Zar (fun h1=>?_) (fun h1=>?_)
  ·refine ⟨?_,hS⟩
   rw [hok]; congr 1; rw [Bool.eq_iff_iff]; simp; omega
  ·refine ⟨?_,hS⟩
   rw [hok]; congr 1; symm; simp; omega
end Go.Sim

set_option linter.unusedVariables false
set_option linter.unusedSimpArgs false
set_option maxRecDepth 20000
namespace Go.Sim
open Go Go.RowKit
theorem Zyx {h:Zaa} {a:Pt} {n c:Nat} {e:Bool} {cs:List Nd} (r:Row h.length h a (n * 2) (Zdb eP cs)) (hc:n≤c) (hn:n≤1048576) (hs:∀ p∈cs,p.2.length≤1048576) (hb256:∀ p∈cs,∀ b∈p.1,b < 256) :
  Zak pg Zlk [.slice a n c e] h fun v h'=>v=.bool (Zit cs)∧Zbc h.length h h':=by
 have hl:cs.length=n:=by have:=r.1; rw [Zat Zcr] at this; omega
 apply Zdu.call
 refine Zdu.L2ind _ _ _ _ _ _ _ _ _ _ (J:=fun (g:Nat) x9 h'=>x9=(g:Int)∧g≤n∧Zbc h.length h h'∧(List.range g).all (Ydc cs)=true) (fun g=>n - g) ?_ 0 _ _ ⟨rfl,by omega,Zbc.refl _ _,rfl⟩
 rintro g x9 h' ⟨rfl,hg,hS,hk⟩ R hR
 unfold Zdu.L2t
 refine Zar (fun hlt=>?_) (fun hge=>?_)
 ·obtain ⟨i,o,hgl,rfl,hil,hr,_⟩:=(r.same hS).pr (k:=g) (by omega)
  simp only [Zau,Int.toNat_natCast,hr,Zao,Zae,Zam,Zah,Zaw]
  rw [Zfb]
  simp only [Zas,Zgm,Nat.add_zero,List.getElem?_cons_zero,Zah]
  have hS2:Zbc h.length h (h' ++ [.cells Zbj [.str cs[g].1,.str cs[g].2] false]):=hS.trans (Zbc.app hS.le _)
  refine ⟨by omega,(Zzf _ (hb256 _ (List.getElem_mem hgl))).mono ?_⟩
  rintro v h2 ⟨rfl,rfl⟩
  simp only [Zaq,true_and]
  have hcl:=Yna hgl
  have hle:=hS2.le
  have hcell:∀ o',Zag (h' ++ [.cells Zbj [.str cs[g].1,.str cs[g].2] false]) (.ptr (some (h'.length,o')))=([.str cs[g].1,.str cs[g].2]:List Zay)[o']?:=fun o'=>Zgm
  -- the classes above
  have key:(Zwk cs[g].1 && (g == 0 || Zfo (cs.getD (g - 1) ([],[])).1 cs[g].1))=true→Zdu.J6 (fun v h'=>v=.bool (Zit cs)∧Zbc h.length h h') R h'.length 0 (some (i,o)) n c e (g:Int) (some (i,o)) n c e (n:Int) (g:Int) (h' ++ [.cells Zbj [.str cs[g].1,.str cs[g].2] false]):=by
   intro hpre
   rw [hpre,Bool.true_and] at hcl
   apply Zdu.J6i
   rw [hcell]
   simp only [Nat.zero_add,List.getElem?_cons_succ,List.getElem?_cons_zero,Zah]
   have hsl:=hs cs[g] (List.getElem_mem hgl)
   refine Zdu.L7ind _ _ _ _ _ _ _ _ _ _ _ _ _ _ _ _ (J:=fun (q:Nat) x37 h3=>x37=(q:Int)∧q≤cs[g].2.length∧Zbc h.length h h3∧h3[h'.length]?=some (.cells Zbj [.str cs[g].1,.str cs[g].2] false)∧(List.range q).all (Ydh (cs.take g) cs[g].2)=true) (fun q=>cs[g].2.length - q) ?_ 0 _ _ ⟨rfl,by omega,hS2,by simp,rfl⟩
   rintro q x37 h3 ⟨rfl,hq,hS3,hI3,hk3⟩ R7 hR7
   unfold Zdu.L7t
   refine Zar (fun hlt3=>?_) (fun hge3=>?_)
   ·have hq':q < cs[g].2.length:=by omega
    simp only [Nat.add_zero,Nat.zero_add,Zan hI3,List.getElem?_cons_succ,List.getElem?_cons_zero,Zaj,Zah,true_and]
    refine Ymv (r.same hS3) hl (k:=g) (by omega) hc rfl (fun a' c' e' hrow hc'=>?_)
    simp only [Zaj]
    rw [Zbm (by omega),Yaq hq' rfl]
    refine ⟨⟨by omega,by omega,by omega⟩,(Znl (hrow.mono hS3.le) (by omega)).mono ?_⟩
    rintro v h4 ⟨rfl,s4⟩
    have hS4:=hS3.trans (s4.mono hS3.le)
    have hI4:h4[h'.length]?=some (.cells Zbj [.str cs[g].1,.str cs[g].2] false):=by rw [s4.eq _ (Own.lt hI3)]; exact hI3
    simp only [Zax,Ybe,Zan hI4,Nat.add_zero,Nat.zero_add,List.getElem?_cons_succ,List.getElem?_cons_zero,Zah,true_and]
    have hsa:=Yle (cs:=cs.take g) hq'
    have fail:Ydh (cs.take g) cs[g].2 q=false→(Zay.bool false=Zay.bool (Zit cs)∧Zbc h.length h h4):=fun hf=>⟨by rw [Znn hgl (by rw [hcl]; unfold Yhe; exact Zmd hq' hf)],hS4⟩
    have next:Ydh (cs.take g) cs[g].2 q=true→R7 (some (i,o)) n c e (g:Int) h'.length 0 (some (i,o)) n c e (n:Int) (g:Int) (cs[g].2.length:Int) (IntKind.wrap .i64 ((q:Int) + 1)) h4:=fun ht=>by
     rw [Zbm (by omega)]
     exact hR7 (q + 1) _ _ (by omega) ⟨rfl,by omega,hS4,hI4,Ziz hk3 ht⟩
    refine Zbs (fun hb=>fail (by rw [hsa,hb]; rfl)) (fun hb=>?_)
    refine Zar (fun h0=>?_) (fun h0=>?_)
    ·have h0':0 < q:=by omega
     rw [Zwl h0' (by omega)]
     refine ⟨⟨by omega,by omega⟩,⟨by omega,by omega⟩,?_⟩
     simp only [Int.toNat_natCast]
     have hd1:cs[g].2.getD q 0=cs[g].2[q]:=Zgh hq'
     have hq0:(q == 0)=false:=by simp; omega
     refine Zar (fun h1=>fail ?_) (fun h1=>Zdu.J11i _ _ _ _ _ _ _ _ _ _ _ _ _ _ _ _ _ _ _ (next ?_))
     ·rw [hsa,hb,hq0,← hd1]; simp only [Bool.true_and,Bool.false_or,decide_eq_false_iff_not]; omega
     ·rw [hsa,hb,hq0,← hd1]; simp only [Bool.true_and,Bool.false_or,decide_eq_true_eq]; omega
    ·have:q=0:=by omega
     subst this
     exact Zdu.J11i _ _ _ _ _ _ _ _ _ _ _ _ _ _ _ _ _ _ _ (next (by rw [hsa,hb]; rfl))
   ·apply Zdu.A7x2i
    apply Zdu.J12i
    have:q=cs[g].2.length:=by omega
    subst this
    rw [Zbm (by omega)]
    exact hR (g + 1) _ _ (by omega) ⟨rfl,by omega,hS3,Ziz hk (by rw [hcl]; exact hk3)⟩
  refine Zbs (fun hb=>⟨by rw [Znn hgl (by rw [hcl,hb]; rfl)],hS2⟩) (fun hb=>?_)
  refine Zar (fun h0=>?_) (fun h0=>?_)
  ·have h0':0 < g:=by omega
   rw [Zwl h0' (by omega)]
   obtain ⟨i',o',hgl',heq,_,_,hc0,_⟩:=(r.same hS2).pr (k:=g - 1) (by omega)
   cases heq
   simp only [Zau,Int.toNat_natCast,hc0,Zah,Nat.add_zero,Nat.zero_add,hcell,List.getElem?_cons_zero,true_and]
   refine ⟨by omega,?_⟩
   have hg0:(g == 0)=false:=by simp; omega
   have hgd:cs.getD (g - 1) ([],[])=cs[g - 1]:=Zgh hgl'
   refine Zbs (fun hb2=>⟨by rw [Znn hgl (by rw [hcl,hb,hg0,hgd,hb2]; rfl)],hS2⟩) (fun hb2=>key (by rw [hb,hg0,hgd,hb2]; rfl))
  ·have:g=0:=by omega
   subst this
   exact key (by rw [hb]; rfl)
 ·apply Zdu.A2x0i
  have:g=n:=by omega
  subst this
  have hok:Zit cs=decide (1≤g∧g≤4):=by unfold Zit; rw [hl,hk,Bool.true_and]
  refine Yfi.mono ?_
  rintro v h2 ⟨rfl,rfl⟩
  simp only [Zaq]
  refine ⟨?_,hS⟩
  rw [hok]; congr 1; rw [Bool.eq_iff_iff]; simp; omega
end Go.Sim

set_option linter.unusedVariables false
set_option linter.unusedSimpArgs false
set_option maxRecDepth 20000
namespace Go.Sim
open Go Go.RowKit

theorem Yye (c:Nat):decide (c∈[120,121,122,88,89,90])=Zee c:=by rw [Bool.eq_iff_iff]; simp [Zee,or_assoc]
theorem Yer {h:Zaa} (s:List Nat):Zak pg Zoa [.str s] h fun v h'=>v=.bool (Zmi s)∧h'=h:=by
 apply Zzb.call
 match s with
 | []=>exact Zcw (fun h1=>by simp at h1) (fun h1=>⟨rfl,rfl⟩)
 | [c]=>
  refine Zcw (fun h1=>?_) (fun h1=>by simp at h1)
  refine Zlx.mono ?_
  rintro v h' ⟨rfl,rfl⟩
  simp only [Zaq]
  exact ⟨by rw [Yye]; rfl,by trivial⟩
 | c :: d :: r=>exact Zcw (fun h1=>by simp at h1; omega) (fun h1=>⟨rfl,rfl⟩)
theorem Zsu {h:Zaa} (c:Nat):Zak pg Zia [.int .u8 (c:Int)] h fun v h'=>v=.bool (Zee c)∧h'=h:=by
 apply Zrr.call
 refine (Yaj _ c (by simp)).mono ?_
 rintro v h' ⟨rfl,rfl⟩
 simp only [Zax]
 exact ⟨by rw [Yyf],by trivial⟩
noncomputable def Ywy (s v:List Nat):Int:=if Zoq s && Zmi v then (s.count (v.headD 0):Nat) else -1
theorem Ygv {h:Zaa} (s v:List Nat) (hs:s.length≤1048576):Zak pg Zpl [.str s,.str v] h fun x h'=>x=.int .i64 (Ywy s v)∧Zbc h.length h h':=by
 apply Zgs.call
 refine (Zkc s (by omega) h).mono ?_
 rintro x h1 ⟨rfl,s1⟩
 simp only [Zaq]
 refine Zbs (fun hb=>⟨by unfold Ywy; rw [hb]; rfl,s1⟩) (fun hb=>?_)
 match v with
 | []=>exact Ziy (fun _=>⟨by unfold Ywy; rw [hb]; rfl,s1⟩) (fun h1=>by simp at h1)
 | c :: d :: r=>exact Ziy (fun _=>⟨by unfold Ywy; rw [hb]; rfl,s1⟩) (fun h1=>by simp at h1; omega)
 | [c]=>
  refine Ziy (fun h1=>by simp at h1) (fun _=>?_)
  refine ⟨⟨by omega,by simp⟩,?_⟩
  simp only [Int.toNat_zero,List.getD_cons_zero]
  refine (Zsu c).mono ?_
  rintro x h2 ⟨rfl,rfl⟩
  simp only [Zaq]
  refine Zbs (fun hv=>⟨by unfold Ywy; rw [hb,show Zmi [c]=Zee c from rfl,hv]; rfl,s1⟩) (fun hv=>?_)
  apply Zgs.J3i
  refine Zgs.L5ind _ _ _ _ (J:=fun (g:Nat) x5 x23 h'=>x23=(g:Int)∧g≤s.length∧x5=((s.take g).count c:Nat)∧h'=h2) (fun g=>s.length - g) ?_ 0 _ _ _ ⟨rfl,by omega,by simp,rfl⟩
  rintro g x5 x23 h' ⟨rfl,hg,rfl,rfl⟩ R hR
  unfold Zgs.L5t
  refine Zar (fun hlt=>?_) (fun hge=>?_)
  ·have hg':g < s.length:=by omega
   refine ⟨⟨by omega,by omega⟩,⟨by omega,by simp⟩,?_⟩
   simp only [Int.toNat_zero,List.getD_cons_zero,Int.toNat_natCast,Zgh hg']
   have hc:=List.count_le_length (a:=c) (l:=s.take g)
   rw [List.length_take] at hc
   have htk:(s.take (g + 1)).count c=(s.take g).count c + if s[g]=c then 1 else 0:=by
    rw [List.take_succ_eq_append_getElem hg',List.count_append]; simp [List.count_cons]
   refine Zcw (fun he=>?_) (fun he=>?_)
   ·apply Zgs.J9i
    rw [Zbm (by omega),Zbm (by omega)]
    exact hR (g + 1) _ _ _ (by omega) ⟨rfl,by omega,by rw [htk,if_pos (by omega)],rfl⟩
   ·apply Zgs.J9i
    rw [Zbm (by omega)]
    exact hR (g + 1) _ _ _ (by omega) ⟨rfl,by omega,by rw [htk,if_neg (by omega)]; rfl,rfl⟩
  ·apply Zgs.A5x0i
   have:g=s.length:=by omega
   subst this
   rw [List.take_length]
   refine ⟨?_,s1⟩
   unfold Ywy
   rw [hb,show Zmi [c]=Zee c from rfl,hv]; rfl
theorem Zuy {h:Zaa} (s:List Nat) (hs:s.length≤1048576):Zak pg Zhs [.str s] h fun v h'=>v=.str (if Zoq s=true then Zrn s else [])∧Zbc h.length h h':=by
 apply Zil.call
 simp only [Zaw]
 have hlist:(h ++ [Zcb.cells Zbi [.str [88],.str [89],.str [90],.str [120],.str [121],.str [122]] false])[h.length]?=some (.cells Zbi [.str [88],.str [89],.str [90],.str [120],.str [121],.str [122]] false):=by simp
 refine Zil.L3ind _ _ _ _ _ _ _ (J:=fun (g:Nat) x3 x8 h'=>x8=(g:Int)∧g≤6∧Zbc h.length h h'∧h'[h.length]?=some (.cells Zbi [.str [88],.str [89],.str [90],.str [120],.str [121],.str [122]] false)∧x3=if Zoq s=true then (Zfh.take g).filter fun v=>decide (v∈s) else []) (fun g=>6 - g) ?_ 0 _ _ _
  ⟨rfl,by omega,Zal,hlist,by simp⟩
 rintro g x3 x8 h' ⟨rfl,hg,hS,hl,rfl⟩ R hR
 unfold Zil.L3t
 refine Zar (fun hlt=>?_) (fun hge=>?_)
 ·have hlt':g < 6:=by omega
  have hc:∃ c,Zfh[g]?=some c∧Zee c=true∧Zag h' (.ptr (some (h.length,0 + (g:Int).toNat * 1)))=some (.str [c]):=by
   rw [Zan hl,Int.toNat_natCast]
   match g,hlt' with
   | 0,_ | 1,_ | 2,_ | 3,_ | 4,_ | 5,_=>exact ⟨_,rfl,rfl,rfl⟩
  obtain ⟨c,hc1,hcv,hc2⟩:=hc
  simp only [Zau,hc2,Zah]
  refine ⟨by omega,(Ygv s [c] hs).mono ?_⟩
  rintro v h2 ⟨rfl,s2⟩
  simp only [Zax]
  have htk:Zfh.take (g + 1)=Zfh.take g ++ [c]:=by rw [List.take_succ,hc1]; rfl
  have hS2:=hS.trans (s2.mono hS.le)
  have hl2:h2[h.length]?=some (.cells Zbi [.str [88],.str [89],.str [90],.str [120],.str [121],.str [122]] false):=by rw [s2.eq _ (Own.lt hl)]; exact hl
  have hcn:decide (Ywy s [c] > 0)=(Zoq s && decide (c∈s)):=by
   unfold Ywy
   rw [show Zmi [c]=Zee c from rfl,hcv]
   cases hb:Zoq s with
   | false=>rfl
   | true=>
    simp only [Bool.and_self,if_true,Bool.true_and,List.headD_cons]
    rw [Bool.eq_iff_iff]; simp [List.count_pos_iff]
  have hbd:(if Zoq s=true then (Zfh.take g).filter fun v=>decide (v∈s) else []).length≤6:=by
   split
   ·exact Nat.le_trans (List.length_filter_le _ _) (by simp; omega)
   ·simp
  rw [hcn]
  refine Zdj (fun hb=>?_) (fun hb=>?_)
  ·simp only [Bool.and_eq_true] at hb
   refine ⟨by simp only [List.length_cons,List.length_nil]; omega,?_⟩
   apply Zil.J7i
   rw [Zbm (by omega)]
   refine hR (g + 1) _ _ _ (by omega) ⟨rfl,by omega,hS2,hl2,?_⟩
   rw [if_pos hb.1,if_pos hb.1,htk,List.filter_append]; simp [hb.2]
  ·apply Zil.J7i
   rw [Zbm (by omega)]
   refine hR (g + 1) _ _ _ (by omega) ⟨rfl,by omega,hS2,hl2,?_⟩
   cases ht:Zoq s with
   | false=>simp
   | true=>rw [ht,Bool.true_and] at hb; rw [htk,List.filter_append]; simp; simpa using hb
 ·apply Zil.A3x0i
  have:g=6:=by omega
  subst this
  exact ⟨rfl,hS⟩
theorem Yrb {h:Zaa} (x y:List Nat) (hx:x.length≤1048576) (hy:y.length≤1048576):Zak pg Zpk [.str x,.str y] h fun v h'=>v=.bool (x.all fun c=>decide (c∈y))∧h'=h:=by
 apply Zjp.call
 refine Zjp.L2ind _ _ _ _ (J:=fun (g:Nat) x8 h'=>x8=(g:Int)∧g≤x.length∧h'=h∧(x.take g).all (fun c=>decide (c∈y))=true) (fun g=>x.length - g) ?_ 0 _ _ ⟨rfl,by omega,rfl,by simp⟩
 rintro g x8 h' ⟨rfl,hg,rfl,hk⟩ R hR
 unfold Zjp.L2t
 refine Zar (fun hlt=>?_) (fun hge=>?_)
 ·have hg':g < x.length:=by omega
  refine ⟨⟨by omega,by omega⟩,?_⟩
  simp only [Int.toNat_natCast,Zgh hg']
  refine (Yaj y x[g] (by omega)).mono ?_
  rintro v h2 ⟨rfl,rfl⟩
  simp only [Zax]
  have hix:decide (Zxr y x[g] < 0)=!decide (x[g]∈y):=by
   by_cases hm:x[g]∈y
   ·have:=(Zzx y x[g]).2 hm
    simp [hm]; omega
   ·rw [Ybx hm]; simp [hm]
  rw [hix]
  refine Zbs (fun hb=>⟨by rw [Zqz hg' hb],by trivial⟩) (fun hb=>?_)
  rw [Zbm (by omega)]
  exact hR (g + 1) _ _ (by omega) ⟨rfl,by omega,rfl,Zgp hg' hk hb⟩
 ·apply Zjp.A2x0i
  have:g=x.length:=by omega
  subst this
  rw [List.take_length] at hk
  exact ⟨by rw [hk],by trivial⟩

theorem Ylp {cs:List Nd} {ct tt:List Nat} {ns:List Nd} (h1:Zit cs=true) (h2:Zgg cs ct=true) (h3:Zoq tt=true) (h4:tt.length≤20) (h5:Zmi tt=false) (h6:ns.length≤3):Zoz cs ((ct,tt),ns)=ns.all (Zkz cs tt):=by
 unfold Zoz; simp [h1,h2,h3,h4,h5,h6]
theorem Zzp {h:Zaa} {a a1 a2:Pt} {n c n1 c1 n2 c2:Nat} {e e1 e2:Bool} {cs ns:List Nd} {ct tt:List Nat} (r:Row h.length h a (n * 2) (Zdb eP cs)) (hc:n≤c) (hn:n≤1048576) (hs:∀ p∈cs,p.2.length≤1048576)
  (r2:Row h.length h a2 (n2 * 2) (Zdb eP ns)) (hn2:n2≤1048576) (hns:∀ p∈ns,p.2.length≤1048576) (htt:tt.length≤1048576) :
  Zak pg Zkm [.agg [.slice a n c e,.slice a1 n1 c1 e1],.agg [.str ct,.str tt,.slice a2 n2 c2 e2]] h fun v h'=>v=.bool (Zoz cs ((ct,tt),ns))∧Zbc h.length h h':=by
 have hl:cs.length=n:=by have:=r.1; rw [Zat Zcr] at this; omega
 have hl2:ns.length=n2:=by have:=r2.1; rw [Zat Zcr] at this; omega
 apply Zdg.call
 simp only [Zaw]
 generalize hh0:h ++ [Zcb.cells Zac [.slice a n c e,.slice a1 n1 c1 e1] false]=h0
 generalize hh1:h0 ++ [Zcb.cells Zad [.str ct,.str tt,.slice a2 n2 c2 e2] false]=h1
 have s0:Zbc h.length h h0:=by rw [← hh0]; exact Zal
 have s01:Zbc h0.length h0 h1:=by rw [← hh1]; exact Zal
 have s1:Zbc h.length h h1:=s0.trans (s01.mono s0.le)
 have hl0:h0.length=h.length + 1:=by rw [← hh0]; simp
 have hl1:h1.length=h.length + 2:=by rw [← hh1]; simp [hl0]
 have w1:h1[h.length]?=some (.cells Zac [.slice a n c e,.slice a1 n1 c1 e1] false):=by rw [← hh1,Zyy (by omega),← hh0]; simp
 have i1:h1[h0.length]?=some (.cells Zad [.str ct,.str tt,.slice a2 n2 c2 e2] false):=by rw [← hh1]; simp
 rw [Zew w1 (by simp)]
 simp only [List.drop_zero,List.take_succ_cons,List.take_zero,Zao,Zae,Zaj,Zam]
 refine (Zzh (r.same' s1) hc hn hs).mono ?_
 rintro v h2 ⟨rfl,s2⟩
 have S2:Zbc h.length h h2:=s1.trans (s2.mono (by omega))
 have w2:h2[h.length]?=some (.cells Zac [.slice a n c e,.slice a1 n1 c1 e1] false):=by rw [s2.eq _ (by omega)]; exact w1
 have i2:h2[h0.length]?=some (.cells Zad [.str ct,.str tt,.slice a2 n2 c2 e2] false):=by rw [s2.eq _ (by omega)]; exact i1
 simp only [Zaq]
 refine Zbs (fun hb=>⟨by unfold Zoz; rw [hb]; rfl,S2⟩) (fun b1=>?_)
 simp only [Nat.add_zero,Nat.zero_add,Zan w2,Zan i2,List.getElem?_cons_succ,List.getElem?_cons_zero,Zaj,Zah]
 refine (Zxk (r.same' S2) (by omega)).mono ?_
 rintro v h3 ⟨rfl,s3⟩
 have hle2:=s2.le
 have S3:Zbc h.length h h3:=S2.trans (s3.mono S2.le)
 have i3:h3[h0.length]?=some (.cells Zad [.str ct,.str tt,.slice a2 n2 c2 e2] false):=by rw [s3.eq _ (by omega)]; exact i2
 have w3:h3[h.length]?=some (.cells Zac [.slice a n c e,.slice a1 n1 c1 e1] false):=by rw [s3.eq _ (by omega)]; exact w2
 simp only [Zaq]
 refine Zbs (fun hb=>⟨by unfold Zoz; rw [b1,hb]; rfl,S3⟩) (fun b2=>?_)
 simp only [Zan i3,List.getElem?_cons_succ,List.getElem?_cons_zero,Zah]
 refine (Zny tt h3).mono ?_
 rintro v h4 ⟨rfl,s4⟩
 have hle3:=s3.le
 have S4:Zbc h.length h h4:=S3.trans (s4.mono S3.le)
 have i4:h4[h0.length]?=some (.cells Zad [.str ct,.str tt,.slice a2 n2 c2 e2] false):=by rw [s4.eq _ (by omega)]; exact i3
 have w4:h4[h.length]?=some (.cells Zac [.slice a n c e,.slice a1 n1 c1 e1] false):=by rw [s4.eq _ (by omega)]; exact w3
 simp only [Zaq]
 refine Zbs (fun hb=>⟨by unfold Zoz; rw [b1,b2,hb]; rfl,S4⟩) (fun b3=>?_)
 simp only [Zan i4,List.getElem?_cons_succ,List.getElem?_cons_zero,Zah]
 refine Zar (fun hb=>⟨by unfold Zoz; rw [b1,b2,b3]; simp [show ¬ tt.length≤20 by omega],S4⟩) (fun b4=>?_)
 refine (Yer tt).mono ?_
 rintro v h5 ⟨rfl,rfl⟩
 simp only [Zaq]
 refine Zdj (fun hb=>⟨by unfold Zoz; rw [hb]; simp,S4⟩) (fun b5=>?_)
 simp only [Zan i4,List.getElem?_cons_succ,List.getElem?_cons_zero,Zaj]
 refine Zar (fun hb=>⟨by unfold Zoz; simp [show ¬ ns.length≤3 by omega],S4⟩) (fun b6=>?_)
 rw [Ylp b1 b2 b3 (by omega) b5 (by omega)]
 apply Zdg.J3i
 simp only [Nat.zero_add,Zan i4,List.getElem?_cons_succ,List.getElem?_cons_zero,Zaj]
 have hle4:=s4.le
 refine Zdg.L4ind _ _ _ _ _ _ _ _ _ _ (J:=fun (g:Nat) x50 h'=>x50=(g:Int)∧g≤n2∧Zbc h5.length h5 h'∧(ns.take g).all (Zkz cs tt)=true) (fun g=>n2 - g) ?_ 0 _ _ ⟨rfl,by omega,Zbc.refl _ _,rfl⟩
 rintro g x50 h' ⟨rfl,hg,hS,hk⟩ R hR
 have SS:Zbc h.length h h':=S4.trans (hS.mono S4.le)
 unfold Zdg.L4t
 refine Zar (fun hlt=>?_) (fun hge=>?_)
 ·obtain ⟨i,o,hgl,rfl,hil,hr,_⟩:=(r2.same SS).pr (k:=g) (by omega)
  simp only [Zau,Int.toNat_natCast,hr,Zao,Zae,Zam,Zah,Zaw]
  rw [Zfb]
  have hlh:=hS.le
  generalize hq:h' ++ [Zcb.cells Zab [.str ns[g].1,.str ns[g].2] false]=hq'
  have sq:Zbc h'.length h' hq':=by rw [← hq]; exact Zal
  have hql:hq'.length=h'.length + 1:=by rw [← hq]; simp
  have nq:hq'[h'.length]?=some (.cells Zab [.str ns[g].1,.str ns[g].2] false):=by rw [← hq]; simp
  have wq:hq'[h.length]?=some (.cells Zac [.slice a n c e,.slice a1 n1 c1 e1] false):=by rw [sq.eq _ (by omega),hS.eq _ (by omega)]; exact w4
  have iq:hq'[h0.length]?=some (.cells Zad [.str ct,.str tt,.slice (some (i,o)) n2 c2 e2] false):=by rw [sq.eq _ (by omega),hS.eq _ (by omega)]; exact i4
  simp only [Zas,Nat.add_zero,Nat.zero_add,Zan wq,Zan nq,List.getElem?_cons_succ,List.getElem?_cons_zero,Zaj,Zah]
  have Sq:Zbc h.length h hq':=SS.trans (sq.mono SS.le)
  refine ⟨by omega,(Zxk (r.same' Sq) (by omega)).mono ?_⟩
  rintro v k3 ⟨rfl,t3⟩
  have T3:=Sq.trans (t3.mono Sq.le)
  have n3:k3[h'.length]?=some (.cells Zab [.str ns[g].1,.str ns[g].2] false):=by rw [t3.eq _ (by omega)]; exact nq
  simp only [Zaq]
  have fail:∀ hx,Zbc h.length h hx→Zkz cs tt ns[g]=false→(Zay.bool false=Zay.bool (ns.all (Zkz cs tt))∧Zbc h.length h hx):=fun hx hs hf=>⟨by rw [Zqz hgl hf],hs⟩
  refine Zbs (fun hb=>fail _ T3 (by unfold Zkz; rw [hb]; rfl)) (fun m1=>?_)
  simp only [Zan n3,List.getElem?_cons_succ,List.getElem?_cons_zero,Zah]
  refine (Zny _ k3).mono ?_
  rintro v k4 ⟨rfl,t4⟩
  have ht3:=t3.le
  have T4:=T3.trans (t4.mono T3.le)
  have n4:k4[h'.length]?=some (.cells Zab [.str ns[g].1,.str ns[g].2] false):=by rw [t4.eq _ (by omega)]; exact n3
  simp only [Zaq]
  refine Zbs (fun hb=>fail _ T4 (by unfold Zkz; rw [m1,hb]; rfl)) (fun m2=>?_)
  simp only [Zan n4,List.getElem?_cons_succ,List.getElem?_cons_zero,Zah]
  refine Zar (fun hb=>fail _ T4 (by unfold Zkz; simp [show ¬ ns[g].2.length≤20 by omega])) (fun m3=>?_)
  apply Zdg.J8i
  simp only [Nat.zero_add,Zan n4,List.getElem?_cons_succ,List.getElem?_cons_zero,Zah]
  refine (Yya _ k4).mono ?_
  rintro v k5 ⟨t5,av,nv,cv,ev,rfl,hrow⟩
  simp only [Zaj]
  have ht4:=t4.le
  have ht5:=t5.le
  have T5:=T4.trans (t5.mono T4.le)
  have hvl:(Zrn ns[g].2).length=nv:=by have:=hrow.1; simpa using this
  have hv6:(Zrn ns[g].2).length≤6:=List.length_filter_le _ _
  have hni:Zkz cs tt ns[g]=(Zrn ns[g].2).all fun v=>decide (v∈tt):=by unfold Zkz; rw [m1,m2]; simp [show ns[g].2.length≤20 by omega]
  have i5:k5[h0.length]?=some (.cells Zad [.str ct,.str tt,.slice (some (i,o)) n2 c2 e2] false):=by rw [t5.eq _ (by omega),t4.eq _ (by omega),t3.eq _ (by omega)]; exact iq
  refine Zdg.L9ind _ _ _ _ _ _ _ _ _ _ _ _ _ _ _ _ _ (J:=fun (q:Nat) x76 h6=>x76=(q:Int)∧q≤nv∧h6=k5∧((Zrn ns[g].2).take q).all (fun v=>decide (v∈tt))=true) (fun q=>nv - q) ?_ 0 _ _ ⟨rfl,by omega,rfl,rfl⟩
  rintro q x76 h6 ⟨rfl,hq6,rfl,hk6⟩ R9 hR9
  unfold Zdg.L9t
  refine Zar (fun hlt6=>?_) (fun hge6=>?_)
  ·obtain ⟨iv,ov,rfl,_,hcv⟩:=hrow.at (k:=q) (by omega)
   rw [Yep,List.getElem?_map,List.getElem?_eq_getElem (show q < (Zrn ns[g].2).length by omega)] at hcv
   simp only [Option.map_some] at hcv
   simp only [Zau,Int.toNat_natCast,Nat.mul_one,hcv,Zah,Nat.add_zero,Nat.zero_add,Zan i5,List.getElem?_cons_succ,List.getElem?_cons_zero,one]
   refine ⟨by omega,Zlx.mono ?_⟩
   rintro v k7 ⟨rfl,rfl⟩
   simp only [Zaq]
   refine Zbs (fun hb=>fail _ T5 (by rw [hni]; exact Zqz (by omega) hb)) (fun d1=>?_)
   rw [Zbm (by omega)]
   exact hR9 (q + 1) _ _ (by omega) ⟨rfl,by omega,rfl,Zgp (by omega) hk6 d1⟩
  ·apply Zdg.A9x2i
   apply Zdg.J14i
   have:q=nv:=by omega
   subst this
   rw [List.take_of_length_le (by omega)] at hk6
   rw [Zbm (by omega)]
   refine hR (g + 1) _ _ (by omega) ⟨rfl,by omega,?_,Zgp hgl hk (by rw [hni]; exact hk6)⟩
   exact hS.trans ((sq.mono hS.le).trans ((t3.mono (by omega)).trans ((t4.mono (by omega)).trans (t5.mono (by omega)))))
 ·apply Zdg.A4x0i
  have:g=n2:=by omega
  subst this
  rw [List.take_of_length_le (by omega)] at hk
  exact ⟨by rw [hk],SS⟩
end Go.Sim

set_option linter.unusedVariables false
set_option linter.unusedSimpArgs false
set_option maxRecDepth 20000
namespace Go.Sim
open Go Go.RowKit

theorem Yjd (x t:List Nat):((Zrn x).all fun c=>decide (c∈Zrn t))=(Zrn x).all fun c=>decide (c∈t):=by
 rw [Bool.eq_iff_iff,List.all_eq_true,List.all_eq_true]
 constructor
 ·intro h c hc
  have:=h c hc
  simp only [Zrn,decide_eq_true_eq,List.mem_filter] at this ⊢
  exact this.2
 ·intro h c hc
  have h1:=h c hc
  have hv:c∈Zfh:=(List.mem_filter.1 hc).1
  simp only [Zrn,decide_eq_true_eq,List.mem_filter] at h1 ⊢
  exact ⟨hv,h1⟩
theorem Zyk {h:Zaa} {a a1 a2:Pt} {n c n1 c1 n2 c2:Nat} {e e1 e2:Bool} {cs ns:List Nd} {ct tt:List Nat} (r:Row h.length h a (n * 2) (Zdb eP cs)) (hc:n≤c) (hn:n≤1048576) (hs:∀ p∈cs,p.2.length≤1048576) (hb256:∀ p∈cs,∀ b∈p.1,b < 256)
  (r2:Row h.length h a2 (n2 * 2) (Zdb eP ns)) (hn2:n2≤1048576) (hns:∀ p∈ns,p.2.length≤1048576) (htt:tt.length≤1048576) :
  Zak pg Zkn [.agg [.slice a n c e,.slice a1 n1 c1 e1],.agg [.str ct,.str tt,.slice a2 n2 c2 e2]] h fun v h'=>v=.bool (Zoz cs ((ct,tt),ns))∧Zbc h.length h h':=by
 have hl:cs.length=n:=by have:=r.1; rw [Zat Zcr] at this; omega
 have hl2:ns.length=n2:=by have:=r2.1; rw [Zat Zcr] at this; omega
 apply Zfg.call
 simp only [Zaw]
 generalize hh0:h ++ [Zcb.cells Zac [.slice a n c e,.slice a1 n1 c1 e1] false]=h0
 generalize hh1:h0 ++ [Zcb.cells Zad [.str ct,.str tt,.slice a2 n2 c2 e2] false]=h1
 have s0:Zbc h.length h h0:=by rw [← hh0]; exact Zal
 have s01:Zbc h0.length h0 h1:=by rw [← hh1]; exact Zal
 have s1:Zbc h.length h h1:=s0.trans (s01.mono s0.le)
 have hl0:h0.length=h.length + 1:=by rw [← hh0]; simp
 have hl1:h1.length=h.length + 2:=by rw [← hh1]; simp [hl0]
 have w1:h1[h.length]?=some (.cells Zac [.slice a n c e,.slice a1 n1 c1 e1] false):=by rw [← hh1,Zyy (by omega),← hh0]; simp
 have i1:h1[h0.length]?=some (.cells Zad [.str ct,.str tt,.slice a2 n2 c2 e2] false):=by rw [← hh1]; simp
 simp only [Nat.add_zero,Zan w1,List.getElem?_cons_zero,Zaj]
 refine (Zyx (r.same' s1) hc hn hs hb256).mono ?_
 rintro v h2 ⟨rfl,s2⟩
 have S2:Zbc h.length h h2:=s1.trans (s2.mono (by omega))
 have w2:h2[h.length]?=some (.cells Zac [.slice a n c e,.slice a1 n1 c1 e1] false):=by rw [s2.eq _ (by omega)]; exact w1
 have i2:h2[h0.length]?=some (.cells Zad [.str ct,.str tt,.slice a2 n2 c2 e2] false):=by rw [s2.eq _ (by omega)]; exact i1
 simp only [Zaq]
 refine Zbs (fun hb=>⟨by unfold Zoz; rw [hb]; rfl,S2⟩) (fun b1=>?_)
 rw [Zew w2 (by simp)]
 simp only [List.drop_zero,List.take_succ_cons,List.take_zero,Zao,Zae,Zam,Nat.zero_add,Zan i2,List.getElem?_cons_succ,List.getElem?_cons_zero,Zaj,Zah]
 refine (Znl (r.same' S2) (by omega)).mono ?_
 rintro v h3 ⟨rfl,s3⟩
 have hle2:=s2.le
 have S3:Zbc h.length h h3:=S2.trans (s3.mono S2.le)
 have i3:h3[h0.length]?=some (.cells Zad [.str ct,.str tt,.slice a2 n2 c2 e2] false):=by rw [s3.eq _ (by omega)]; exact i2
 have w3:h3[h.length]?=some (.cells Zac [.slice a n c e,.slice a1 n1 c1 e1] false):=by rw [s3.eq _ (by omega)]; exact w2
 simp only [Zax,Ybe]
 refine Zbs (fun hb=>⟨by unfold Zoz; rw [b1,hb]; rfl,S3⟩) (fun b2=>?_)
 simp only [Zan i3,List.getElem?_cons_succ,List.getElem?_cons_zero,Zah]
 refine (Zkc tt (by omega) h3).mono ?_
 rintro v h4 ⟨rfl,s4⟩
 have hle3:=s3.le
 have S4:Zbc h.length h h4:=S3.trans (s4.mono S3.le)
 have i4:h4[h0.length]?=some (.cells Zad [.str ct,.str tt,.slice a2 n2 c2 e2] false):=by rw [s4.eq _ (by omega)]; exact i3
 have w4:h4[h.length]?=some (.cells Zac [.slice a n c e,.slice a1 n1 c1 e1] false):=by rw [s4.eq _ (by omega)]; exact w3
 simp only [Zaq]
 refine Zbs (fun hb=>⟨by unfold Zoz; rw [b1,b2,hb]; rfl,S4⟩) (fun b3=>?_)
 simp only [Zan i4,List.getElem?_cons_succ,List.getElem?_cons_zero,Zah]
 refine Zar (fun hb=>⟨by unfold Zoz; rw [b1,b2,b3]; simp [show ¬ tt.length≤20 by omega],S4⟩) (fun b4=>?_)
 have hvh:=Xap b3
 have hne:=Ypq b3
 have htl:0 < tt.length:=by cases tt with | nil=>exact absurd rfl hne | cons=>simp
 refine ⟨⟨by omega,by omega⟩,?_⟩
 have hgd:tt.getD (Int.toNat 0) 0=tt.headD 0:=by cases tt <;> rfl
 rw [hgd]
 refine (Zsu _).mono ?_
 rintro v h5 ⟨rfl,rfl⟩
 simp only [Zaq,← hvh]
 refine Zdj (fun hb=>⟨by unfold Zoz; rw [hb]; simp,S4⟩) (fun b5=>?_)
 simp only [Zan i4,List.getElem?_cons_succ,List.getElem?_cons_zero,Zaj]
 refine Zar (fun hb=>⟨by unfold Zoz; simp [show ¬ ns.length≤3 by omega],S4⟩) (fun b6=>?_)
 rw [Ylp b1 b2 b3 (by omega) b5 (by omega)]
 apply Zfg.J3i
 simp only [Nat.zero_add,Zan i4,List.getElem?_cons_succ,List.getElem?_cons_zero,Zaj]
 have hle4:=s4.le
 refine Zfg.L4ind _ _ _ _ _ _ _ _ _ _ (J:=fun (g:Nat) x50 h'=>x50=(g:Int)∧g≤n2∧Zbc h5.length h5 h'∧(ns.take g).all (Zkz cs tt)=true) (fun g=>n2 - g) ?_ 0 _ _ ⟨rfl,by omega,Zbc.refl _ _,rfl⟩
 rintro g x50 h' ⟨rfl,hg,hS,hk⟩ R hR
 have SS:Zbc h.length h h':=S4.trans (hS.mono S4.le)
 unfold Zfg.L4t
 refine Zar (fun hlt=>?_) (fun hge=>?_)
 ·obtain ⟨i,o,hgl,rfl,hil,hr,_⟩:=(r2.same SS).pr (k:=g) (by omega)
  simp only [Zau,Int.toNat_natCast,hr,Zao,Zae,Zam,Zah,Zaw]
  rw [Zfb]
  have hlh:=hS.le
  generalize hq:h' ++ [Zcb.cells Zab [.str ns[g].1,.str ns[g].2] false]=hq'
  have sq:Zbc h'.length h' hq':=by rw [← hq]; exact Zal
  have hql:hq'.length=h'.length + 1:=by rw [← hq]; simp
  have nq:hq'[h'.length]?=some (.cells Zab [.str ns[g].1,.str ns[g].2] false):=by rw [← hq]; simp
  have wq:hq'[h.length]?=some (.cells Zac [.slice a n c e,.slice a1 n1 c1 e1] false):=by rw [sq.eq _ (by omega),hS.eq _ (by omega)]; exact w4
  have iq:hq'[h0.length]?=some (.cells Zad [.str ct,.str tt,.slice (some (i,o)) n2 c2 e2] false):=by rw [sq.eq _ (by omega),hS.eq _ (by omega)]; exact i4
  have row:∀ {hx:Zaa},hx[h.length]?=some (.cells Zac [.slice a n c e,.slice a1 n1 c1 e1] false)→Zbe hx (.ptr (some (h.length,0))) 2=some [.slice a n c e,.slice a1 n1 c1 e1]:=fun w=>by rw [Zew w (by simp)]; rfl
  simp only [Zas,Nat.add_zero,Nat.zero_add,row wq,Zan nq,List.getElem?_cons_succ,List.getElem?_cons_zero,Zao,Zae,Zam,Zaj,Zah,true_and]
  have Sq:Zbc h.length h hq':=SS.trans (sq.mono SS.le)
  refine ⟨by omega,(Znl (r.same' Sq) (by omega)).mono ?_⟩
  rintro v k3 ⟨rfl,t3⟩
  have T3:=Sq.trans (t3.mono Sq.le)
  have n3:k3[h'.length]?=some (.cells Zab [.str ns[g].1,.str ns[g].2] false):=by rw [t3.eq _ (by omega)]; exact nq
  have w3':k3[h.length]?=some (.cells Zac [.slice a n c e,.slice a1 n1 c1 e1] false):=by rw [t3.eq _ (by omega)]; exact wq
  have i3':k3[h0.length]?=some (.cells Zad [.str ct,.str tt,.slice (some (i,o)) n2 c2 e2] false):=by rw [t3.eq _ (by omega)]; exact iq
  have ht3:=t3.le
  simp only [Zax,Ybe,row w3',Zan n3,List.getElem?_cons_succ,List.getElem?_cons_zero,Zah,true_and]
  have fail:∀ hx,Zbc h.length h hx→Zkz cs tt ns[g]=false→(Zay.bool false=Zay.bool (ns.all (Zkz cs tt))∧Zbc h.length h hx):=fun hx hs hf=>⟨by rw [Zqz hgl hf],hs⟩
  refine Zbs (fun hb=>fail _ T3 (by unfold Zkz; rw [hb]; rfl)) (fun m1=>?_)
  have hnl:=hns ns[g] (List.getElem_mem hgl)
  refine (Zkc _ (by omega) k3).mono ?_
  rintro v k4 ⟨rfl,t4⟩
  have T4:=T3.trans (t4.mono T3.le)
  have ht4:=t4.le
  have n4:k4[h'.length]?=some (.cells Zab [.str ns[g].1,.str ns[g].2] false):=by rw [t4.eq _ (by omega)]; exact n3
  have w4':k4[h.length]?=some (.cells Zac [.slice a n c e,.slice a1 n1 c1 e1] false):=by rw [t4.eq _ (by omega)]; exact w3'
  have i4':k4[h0.length]?=some (.cells Zad [.str ct,.str tt,.slice (some (i,o)) n2 c2 e2] false):=by rw [t4.eq _ (by omega)]; exact i3'
  simp only [Zaq,row w4',Zan n4,Zan i4',List.getElem?_cons_succ,List.getElem?_cons_zero,Zah,true_and]
  refine Zbs (fun hb=>fail _ T4 (by unfold Zkz; rw [m1,hb]; rfl)) (fun m2=>?_)
  refine Zar (fun hb=>fail _ T4 (by unfold Zkz; simp [show ¬ ns[g].2.length≤20 by omega])) (fun m3=>?_)
  refine (Zuy _ hnl).mono ?_
  rintro v k5 ⟨rfl,t5⟩
  have T5:=T4.trans (t5.mono T4.le)
  have ht5:=t5.le
  have n5:k5[h'.length]?=some (.cells Zab [.str ns[g].1,.str ns[g].2] false):=by rw [t5.eq _ (by omega)]; exact n4
  have w5':k5[h.length]?=some (.cells Zac [.slice a n c e,.slice a1 n1 c1 e1] false):=by rw [t5.eq _ (by omega)]; exact w4'
  have i5':k5[h0.length]?=some (.cells Zad [.str ct,.str tt,.slice (some (i,o)) n2 c2 e2] false):=by rw [t5.eq _ (by omega)]; exact i4'
  simp only [row w5',Zan n5,Zan i5',List.getElem?_cons_succ,List.getElem?_cons_zero,Zah,true_and]
  refine (Zuy _ htt).mono ?_
  rintro v k6 ⟨rfl,t6⟩
  have T6:=T5.trans (t6.mono T5.le)
  have ht6:=t6.le
  have n6:k6[h'.length]?=some (.cells Zab [.str ns[g].1,.str ns[g].2] false):=by rw [t6.eq _ (by omega)]; exact n5
  have w6':k6[h.length]?=some (.cells Zac [.slice a n c e,.slice a1 n1 c1 e1] false):=by rw [t6.eq _ (by omega)]; exact w5'
  have i6':k6[h0.length]?=some (.cells Zad [.str ct,.str tt,.slice (some (i,o)) n2 c2 e2] false):=by rw [t6.eq _ (by omega)]; exact i5'
  simp only [row w6',Zan n6,Zan i6',List.getElem?_cons_succ,List.getElem?_cons_zero,Zah,true_and]
  rw [if_pos m2,if_pos b3]
  have hvb:∀ s,(Zrn s).length≤6:=fun s=>List.length_filter_le _ _
  have hv1:=hvb ns[g].2
  have hv2:=hvb tt
  refine (Yrb _ _ (by omega) (by omega)).mono ?_
  rintro v k7 ⟨rfl,rfl⟩
  have hni:Zkz cs tt ns[g]=(Zrn ns[g].2).all fun v=>decide (v∈tt):=by unfold Zkz; rw [m1,m2]; simp [show ns[g].2.length≤20 by omega]
  simp only [Zaq,row w6',Zan n6,Zan i6',List.getElem?_cons_succ,List.getElem?_cons_zero,Zah,true_and,Yjd,← hni]
  refine Zbs (fun hb=>fail _ T6 hb) (fun m4=>?_)
  apply Zfg.J8i
  rw [Zbm (by omega)]
  refine hR (g + 1) _ _ (by omega) ⟨rfl,by omega,?_,Zgp hgl hk m4⟩
  exact hS.trans ((sq.mono hS.le).trans ((t3.mono (by omega)).trans ((t4.mono (by omega)).trans ((t5.mono (by omega)).trans (t6.mono (by omega))))))
 ·apply Zfg.A4x0i
  have:g=n2:=by omega
  subst this
  rw [List.take_of_length_le (by omega)] at hk
  exact ⟨by rw [hk],SS⟩
end Go.Sim
