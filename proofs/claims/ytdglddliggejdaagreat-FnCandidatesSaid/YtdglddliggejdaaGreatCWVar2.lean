/- A part of the proof of a statement of this seat: see the text that holds the theorem. No condition. -/
import Derived.Test.YtdglddliggejdaaGreatNm
import Derived.Test.YtdglddliggejdaaGreatSimW
import Derived.Test.YtdglddliggejdaaGreatCSTy
import Derived.Test.YtdglddliggejdaaGreatPTCSApply2
import Derived.Test.YtdglddliggejdaaGreatPTCWCls2
set_option linter.unusedVariables false
set_option linter.unusedSimpArgs false
set_option linter.all false
set_option linter.unusedVariables false
namespace Go.Sim
open Go Go.RowKit

theorem c9:pg.cellsOf Zbg=1:=by kernel_rfl
def Yvu (k:Nat) (acc:List Nat):List Nat:=if h:k=0 then acc else Yvu (k / 10) ((48 + k % 10) :: acc)
 termination_by k
 decreasing_by omega
def Yuk (k:Int):List Nat:=if k≤0 then [109,48] else 109 :: Yvu k.toNat []
def Yls (k:Int) (n:Nat):List (List Nat):=(List.range n).map fun (j:Nat)=>Yuk (k + j)
@[simp] theorem Yqn (k:Int) (n:Nat):(Yls k n).length=n:=by simp [Yls]
theorem Ysw (k:Int) (n:Nat):Yls k (n + 1)=Yls k n ++ [Yuk (k + n)]:=by simp [Yls,List.range_succ]

end Go.Sim

set_option linter.unusedVariables false
namespace Go.Sim
open Go Go.RowKit

def sp (l:List (List Nat)):List Nat:=[32].intercalate l
end Go.Sim

set_option linter.unusedVariables false
set_option linter.unusedSimpArgs false
set_option maxRecDepth 20000
namespace Go.Sim
open Go Go.RowKit

theorem Zzr:pg.underlying Zjh=some (.slice Zbg):=by kernel_rfl
theorem Yha:pg.cellsOf Zbg=1:=by kernel_rfl
theorem Ygg:pg.okElem Zbg=true:=by kernel_rfl
theorem Yhy:pg.bytesOf Zbg≤127:=Nat.le_of_ble_eq_true (by kernel_rfl)
end Go.Sim

set_option linter.unusedVariables false
set_option linter.unusedSimpArgs false
set_option maxRecDepth 20000
namespace Go.Sim
open Go Go.RowKit

theorem Yaz {s:List Nat} {k:Nat} {z:Int} (hz:z=k) (hk:k≤s.length):sub s z (s.length:Int)=s.drop k:=by subst hz; simp only [sub,Int.toNat_natCast,List.take_length]
theorem Ybh {s:List Nat} {j k:Nat} {x y:Int} (hx:x=j) (hy:y=k):sub s x y=(s.take k).drop j:=by subst hx; subst hy; simp [sub]
theorem Ydo {h:Zaa} {s:List Nat} {c:Nat} (hs:s.length≤1048576):Zah pg Zgq [.str s,.int .u8 (c:Int)] h fun v h'=>Zbe h.length h h' ∧
  ∃ j cp e,v=.slice (some (j,0)) (Zcr c s).length cp e∧h.length≤j∧h'[j]?=some (.cells Zbg (Zdq eS (Zcr c s)) false):=by
 apply Zda.call
 simp only [Zax]
 refine Zda.L4ind _ _ _ (J:=fun (g:Nat) a5 n5 c5 e5 x6 x7 h'=>x7=(g:Int)∧g≤s.length + 1∧Zbe h.length h h'∧∃ (done:List (List Nat)) (from_:Nat),n5=done.length∧x6=(from_:Int)∧done.length≤g∧Vec Zbg h' a5 n5 c5 (strs done)∧(∀ i,a5=some (i,0)→h.length≤i) ∧
   (g≤s.length→from_≤g∧c ∉ (s.take g).drop from_∧Zcr c s=done ++ Zcr c (s.drop from_))∧(g=s.length + 1→Zcr c s=done)) (fun g=>s.length + 1 - g) ?_ 0 _ _ _ _ _ _ _
  ⟨rfl,by omega,Zbe.app (Nat.le_refl _) _,[],0,rfl,rfl,by simp,Vec.mk1 (by simp),by simp,fun _=>⟨by omega,by simp,by simp⟩,by omega⟩
 rintro g a5 n5 c5 e5 x6 x7 h' ⟨rfl,hg,hS,done,from_,rfl,rfl,hdl,hv,ha,hin,hout⟩ R hR
 unfold Zda.L4t
 refine Zav (fun hle=>?_) (fun hgt=>?_)
 ·obtain ⟨hf,hnc,hsp⟩:=hin (by omega)
  have push:∀ p,(∀ a n e h4,Zbe h.length h h4→n=done.length + 1→Vec Zbg h4 a n n (strs (done ++ [p]))→(∀ i,a=some (i,0)→h.length≤i)→Zda.J5 (fun v h'=>Zbe h.length h h'∧∃ j cp e,v=.slice (some (j,0)) (Zcr c s).length cp e∧h.length≤j∧h'[j]?=some (.cells Zbg (Zdq eS (Zcr c s)) false)) R (g:Int) s (c:Int) a n n e (IntKind.wrap .i64 ((g:Int) + 1)) h4) →
    Zcz pg Zjh (h' ++ [.cells Zbg [.str p] false]) (.slice a5 done.length c5 e5) (.slice (some (List.length h',0)) 1 1 true) fun v_2 h_3=>xSl (some v_2) fun a_4 n_5 c_6 e_7=>Zda.J5 (fun v h'=>Zbe h.length h h'∧∃ j cp e,v=.slice (some (j,0)) (Zcr c s).length cp e∧h.length≤j∧h'[j]?=some (.cells Zbg (Zdq eS (Zcr c s)) false)) R (g:Int) s (c:Int) a_4 n_5 c_6 e_7 (IntKind.wrap .i64 ((g:Int) + 1)) h_3:=by
   intro p K
   refine hv.push Zzr Yha Ygg Yhy (by simp) rfl (by omega) (fun h4 hl4 hi4 hk4=>?_)
   simp only [Zaf]
   have hle:=hS.le
   refine K _ _ _ _ ⟨by omega,fun j hj=>?_⟩ rfl (Vec.mk1 (by simpa [strs] using hi4)) (fun i hi=>by cases hi; omega)
   rw [hk4 j (by omega) fun i hi=>by have:=ha i hi; omega]; exact hS.eq j hj
  refine Zcs (fun he=>?_) (fun hne=>?_)
  ·have hgs:g=s.length:=by omega
   subst hgs
   rw [Ybh (j:=from_) (k:=s.length) rfl rfl,List.take_length]
   rw [List.take_length] at hnc
   refine ⟨⟨by omega,by omega,by omega⟩,push _ fun a n e h4 hS4 hn4 hv4 ha4=>Zda.J5i _ _ _ _ _ _ _ _ _ _ _ ?_⟩
   rw [Zbt (by omega)]
   subst hn4
   exact hR (s.length + 1) _ _ _ _ _ _ _ (by omega) ⟨rfl,by omega,hS4,done ++ [s.drop from_],s.length + 1,by simp,rfl,by simp; omega,by simpa using hv4,ha4,by omega,fun _=>by rw [hsp,Zsq hnc]⟩
  ·have hlt:g < s.length:=by omega
   refine ⟨⟨by omega,by omega⟩,?_⟩
   rw [Int.toNat_natCast,Zwc hlt]
   have htk:(s.take (g + 1)).drop from_=(s.take g).drop from_ ++ [s[g]]:=by
    rw [List.take_succ_eq_append_getElem hlt,List.drop_append_of_le_length (by simp; omega)]
   have hdr:s.drop from_=(s.take g).drop from_ ++ s[g] :: s.drop (g + 1):=by
    conv=>lhs; rw [← List.take_append_drop g s]
    rw [List.drop_append_of_le_length (by simp; omega),List.drop_eq_getElem_cons hlt]
   refine Zcs (fun he=>?_) (fun hne2=>?_)
   ·have hec:s[g]=c:=by omega
    rw [Ybh (j:=from_) (k:=g) rfl rfl]
    refine ⟨⟨by omega,by omega,by omega⟩,push _ fun a n e h4 hS4 hn4 hv4 ha4=>Zda.J5i _ _ _ _ _ _ _ _ _ _ _ ?_⟩
    rw [Zbt (by omega)]
    subst hn4
    refine hR (g + 1) _ _ _ _ _ _ _ (by omega) ⟨rfl,by omega,hS4,done ++ [(s.take g).drop from_],g + 1,by simp,rfl,by simp; omega,by simpa using hv4,ha4,fun _=>⟨by omega,by simp,?_⟩,by omega⟩
    rw [hsp,hdr,hec,Zuy hnc]; simp
   ·apply Zda.J5i
    rw [Zbt (by omega)]
    refine hR (g + 1) _ _ _ _ _ _ _ (by omega) ⟨rfl,by omega,hS,done,from_,rfl,rfl,by omega,hv,ha,fun _=>⟨by omega,?_,hsp⟩,by omega⟩
    rw [htk]
    simp only [List.mem_append,List.mem_singleton,not_or]
    exact ⟨hnc,fun e=>hne2 (by rw [e])⟩
 ·have:g=s.length + 1:=by omega
  have hd:=hout this
  apply Zda.A4x0i
  rw [hd]
  rcases hv with ⟨_,_,_,h0⟩ | ⟨i,rfl,hi⟩
  ·exact absurd (by rw [hd]; exact List.map_eq_nil_iff.1 h0) (Zoa c s)
  ·exact ⟨hS,_,_,_,rfl,ha i rfl,by rw [Ykv]; exact hi⟩
end Go.Sim

set_option linter.unusedVariables false
namespace Go.Sim
open Go Go.RowKit

def prs (l:List (List Nat × List Nat)):List Zas:=l.flatMap fun p=>[.str p.1,.str p.2]
@[simp] theorem Yvd:prs []=[]:=rfl
@[simp] theorem Yuv (p:List Nat × List Nat) (l:List (List Nat × List Nat)):prs (p :: l)=.str p.1 :: .str p.2 :: prs l:=rfl
@[simp] theorem Ysz (a b:List (List Nat × List Nat)):prs (a ++ b)=prs a ++ prs b:=by simp [prs]
theorem Yst (l:List (List Nat × List Nat)):(prs l).length=l.length * 2:=by
 induction l with
 | nil=>rfl
 | cons p l ih=>simp [ih]; omega
def Yli (l:List (List Nat × List Nat)):Nat:=(l.map fun p=>p.1.length + p.2.length).sum
theorem Ylq {l:List (List Nat × List Nat)} {g:Nat} (h:g < l.length):Yli (l.take (g + 1))=Yli (l.take g) + (l[g].1.length + l[g].2.length):=by
 unfold Yli; rw [List.take_succ_eq_append_getElem h,List.map_append,List.sum_append]; simp
theorem Ydf (l:List (List Nat × List Nat)) (g:Nat):Yli (l.take g)≤Yli l:=by
 conv=>rhs; rw [← List.take_append_drop g l]
 unfold Yli; rw [List.map_append,List.sum_append]; omega
theorem Yhj {l:List (List Nat × List Nat)} {g:Nat} (h:g < l.length):l[g].1.length + l[g].2.length≤Yli l:=by
 have:=Ylq h; have:=Ydf l (g + 1); omega
end Go.Sim

set_option linter.unusedVariables false
namespace Go.Sim
open Go Go.RowKit
def need (p:List Nat × List Nat):List Nat:=p.1 ++ [32] ++ p.2
end Go.Sim

set_option linter.unusedSimpArgs false
namespace Go.Sim

def Zef:List Nat:=[88,89,90,120,121,122]
def Zjy (s:List Nat):List Nat:=Zef.filter fun v=>decide (v∈s)
theorem Ztq (c:Nat):c∈Zef ↔ Zbd c=true:=by simp [Zef,Zbd]; omega
theorem Zle {s:List Nat} (h:Zkg s=true):∃ t,Zgv s=some t:=Option.isSome_iff_exists.1 h
theorem Zqe {s:List Nat} {t:Ty} (h:Zgv s=some t):Zkg s=true:=by simp [Zkg,h]
end Go.Sim

set_option linter.unusedSimpArgs false
namespace Go.Sim

abbrev Nd:=List Nat × List Nat
abbrev Ins:=Nd × List Nd
structure Wd where
 cs:List Nd
 is:List Ins

def Ztb (s:List Nat):Bool:=match s with | [c]=>decide (65≤c∧c≤84) | _=>false
def Zgl (cs:List Nd) (c:List Nat):Bool:=cs.any fun x=>decide (x.1=c)
def Zza (cs:List Nd) (s:List Nat) (k:Nat):Bool:=Zgl cs [s.getD k 0] && (k == 0 || decide (s.getD (k - 1) 0 < s.getD k 0))
def Ydx (cs:List Nd) (s:List Nat):Bool:=(List.range s.length).all (Zza cs s)
def Zzc (cs:List Nd) (i:Nat):Bool:=Ztb (cs.getD i ([],[])).1 && (i == 0 || Zfj (cs.getD (i - 1) ([],[])).1 (cs.getD i ([],[])).1) && Ydx (cs.take i) (cs.getD i ([],[])).2
def Zja (cs:List Nd):Bool:=(List.range cs.length).all (Zzc cs) && decide (1≤cs.length∧cs.length≤4)
def Zrx (s:List Nat):Bool:=match s with | [c]=>Zbd c | _=>false
noncomputable def Zin (cs:List Nd) (t:List Nat) (n:Nd):Bool:=Zgl cs n.1 && Zkg n.2 && decide (n.2.length≤20) && (Zjy n.2).all fun v=>decide (v∈t)
noncomputable def Zlw (cs:List Nd) (i:Ins):Bool:=Zja cs && Zgl cs i.1.1 && Zkg i.1.2 && decide (i.1.2.length≤20) && !Zrx i.1.2 && decide (i.2.length≤3) && i.2.all (Zin cs i.1.2)
noncomputable def Zgb (w:Wd):Bool:=Zja w.cs && decide (w.is.length≤10) && w.is.all (Zlw w.cs)
noncomputable def Zjb (w:Wd) (n:Nd):Bool:=Zgl w.cs n.1 && Zkg n.2
theorem Zku {f:Nat→Bool} {g:Nat} (h:(List.range g).all f=true) (k:f g=true):(List.range (g + 1)).all f=true:=by
 rw [List.range_succ,List.all_append,h]; simp [k]
theorem Zpm {f:Nat→Bool} {g n:Nat} (h:g < n) (k:f g=false):(List.range n).all f=false:=by
 rw [List.all_eq_false]; exact ⟨g,List.mem_range.2 h,by simp [k]⟩
theorem Zhz {α:Type} {f:α→Bool} {l:List α} {g:Nat} (hg:g < l.length) (h:(l.take g).all f=true) (k:f l[g]=true):(l.take (g + 1)).all f=true:=by
 rw [List.take_succ_eq_append_getElem hg,List.all_append,h]; simp [k]
theorem Zuj {α:Type} {f:α→Bool} {l:List α} {g:Nat} (hg:g < l.length) (k:f l[g]=false):l.all f=false:=by
 rw [List.all_eq_false]; exact ⟨_,List.getElem_mem hg,by simp [k]⟩
theorem Zkf {α:Type} {l:List α} {g:Nat} {d:α} (h:g < l.length):l.getD g d=l[g]:=by simp [List.getD,h]
theorem Zxd {cs:List Nd} {c:List Nat} {g:Nat} (hg:g < cs.length):Zgl (cs.take (g + 1)) c=(Zgl (cs.take g) c || decide (cs[g].1=c)):=by
 unfold Zgl; rw [List.take_succ_eq_append_getElem hg,List.any_append]; simp
def Yes (cs:List Nd) (c:List Nat):Int:=if Zgl cs c then (cs.findIdx fun x=>decide (x.1=c):Nat) else -1
theorem Zwv (cs:List Nd) (c:List Nat):decide (Yes cs c < 0)=!Zgl cs c:=by
 unfold Yes; cases h:Zgl cs c <;> simp
theorem Ytg {t:List Nat} (h:Zkg t=true):Zrx t=Zbd (t.headD 0):=by
 obtain ⟨u,hu,rfl,_⟩:=Zwm.1 h
 cases u with
 | k c=>rfl
 | u c a=>
  have h1:=hu
  simp only [Ty.ok,Bool.and_eq_true,Bool.or_eq_true,beq_iff_eq] at h1
  rcases h1.1 with rfl | rfl <;> rfl
 | w c a b=>
  have h1:=hu
  simp only [Ty.ok,Bool.and_eq_true,beq_iff_eq] at h1
  rcases h1.1.1 with rfl; rfl
end Go.Sim

set_option linter.unusedVariables false
set_option linter.unusedSimpArgs false
set_option maxRecDepth 20000
namespace Go.Sim
open Go Go.RowKit

theorem Ynb {h:Zaa} {x a b:Int}:Zah pg Zoq [.int .i64 x,.int .i64 a,.int .i64 b] h fun v h'=>v=.bool (decide (a≤x∧x≤b))∧h'=h:=by
 apply Zyn.call
 refine Zav (fun h1=>?_) (fun h1=>?_)
 ·have:a≤x:=h1
  simp [this]
 ·have:¬ a≤x:=h1
  simp [this]
theorem Yju {h:Zaa} (s:List Nat):Zah pg Znu [.str s] h fun v h'=>v=.bool (Ztb s)∧h'=h:=by
 apply Zse.call
 match s with
 | []=>simp [Ztb]
 | [c]=>
  simp only [List.length_cons,List.length_nil,show ((0 + 1:Nat):Int)=1 from rfl,beq_self_eq_true,Zby]
  have e1:Zfj [c] [65]=decide (c < 65):=by simp [Zfj]
  have e2:Zfj [c] [84]=decide (c < 84):=by simp [Zfj]
  rw [e1,e2]
  refine Zrn (fun h1=>?_) (fun h1=>?_)
  ·refine ⟨?_,by trivial⟩
   congr 1
   simp [Ztb]
   rw [Bool.eq_iff_iff]; simp; omega
  ·refine ⟨?_,by trivial⟩
   simp [Ztb]; omega
 | c :: d :: r=>
  refine Zcs (fun h1=>?_) (fun h1=>⟨rfl,rfl⟩)
  simp at h1; omega
theorem Zvf {h:Zaa} (s:List Nat) (hb:∀ b∈s,b < 256):Zah pg Zis [.str s] h fun v h'=>v=.bool (Ztb s)∧h'=h:=by
 apply Zpr.call
 match s,hb with
 | [],_=>simp [Ztb]
 | [c],hb=>
  have hc:=hb c (by simp)
  simp only [List.length_cons,List.length_nil,show ((0 + 1:Nat):Int)=1 from rfl,beq_self_eq_true,Zby]
  refine ⟨⟨by omega,by simp⟩,?_⟩
  simp only [Int.toNat_zero,List.getD_cons_zero]
  rw [IntWalk.i64_in _ (by omega)]
  refine Ynb.mono ?_
  rintro v h' ⟨rfl,rfl⟩
  simp only [Zap]
  refine ⟨?_,by trivial⟩
  congr 1
  simp [Ztb]; rw [Bool.eq_iff_iff]; simp; omega
 | c :: d :: r,_=>
  refine Zcs (fun h1=>?_) (fun h1=>⟨rfl,rfl⟩)
  simp at h1; omega
def Yfy (s:List Nat) (h:Zaa) (v:Zas) (h':Zaa):Prop:=Zbe h.length h h'∧((∃ p,Zld s=some p∧v=.tup [.agg [.str p.1,.str p.2],.bool true]) ∨ (Zld s=none∧v=.tup [.agg [.str [],.str []],.bool false]))
theorem Yjr {c:Nat} {t:List Nat} (h1:65≤c∧c≤84) (h2:Zkg t=true):Zld (c :: 32 :: t)=some ([c],t):=by unfold Zld; simp [h1,h2]
theorem Znv {h h':Zaa} {s:List Nat} {x y:Zas} (hs:Zbe h.length h h') (hi:h'[h.length]?=some (.cells Zae [x,y] false)) (hn:Zld s=none) :
  Zbx (Zbb h' (.ptr (some (List.length h,0))) [.str [],.str []]) fun h_1=>Zcb (Zan h_1 (.ptr (some (List.length h,0))) 2) fun cs_2=>Zag cs_2 fun c_3 r_4=>Zbn (some c_3) fun s_5=>Zag r_4 fun c_6 r_7=>Zbn (some c_6) fun s_8=>Zbu r_7 (Yfy s h (.tup [.agg [.str s_5,.str s_8],.bool false]) h_1):=by
 rw [Zba hi (by simp)]
 simp only [Zat]
 rw [Zed (Zbv hi) (by simp [putRow])]
 simp only [putRow,List.take_zero,List.nil_append,List.length_cons,List.length_nil,List.cons_append,List.drop_succ_cons,List.drop_zero,List.drop_nil,List.append_nil,List.take_succ_cons,Zau,Zaj,Zam,Zar]
 exact ⟨hs.trans (Zbe.set (Nat.le_refl _) _),.inr ⟨hn,rfl⟩⟩
theorem Yio {h h':Zaa} {s c t:List Nat} {x y:Zas} (hs:Zbe h.length h h') (hi:h'[h.length]?=some (.cells Zae [x,y] false)) (hn:Zld s=some (c,t)) :
  Zbx (Zbb h' (.ptr (some (List.length h,0))) [.str c,.str t]) fun h_1=>Zcb (Zan h_1 (.ptr (some (List.length h,0))) 2) fun cs_2=>Zag cs_2 fun c_3 r_4=>Zbn (some c_3) fun s_5=>Zag r_4 fun c_6 r_7=>Zbn (some c_6) fun s_8=>Zbu r_7 (Yfy s h (.tup [.agg [.str s_5,.str s_8],.bool true]) h_1):=by
 rw [Zba hi (by simp)]
 simp only [Zat]
 rw [Zed (Zbv hi) (by simp [putRow])]
 simp only [putRow,List.take_zero,List.nil_append,List.length_cons,List.length_nil,List.cons_append,List.drop_succ_cons,List.drop_zero,List.drop_nil,List.append_nil,List.take_succ_cons,Zau,Zaj,Zam,Zar]
 exact ⟨hs.trans (Zbe.set (Nat.le_refl _) _),.inl ⟨_,hn,rfl⟩⟩
theorem Zuh {h:Zaa} (s:List Nat) (hs:s.length≤1048576) (hb:∀ b∈s,b < 256):Zah pg Ziu [.str s] h (Yfy s h):=by
 apply Zlq.call
 simp only [Zax]
 have h0i:(h ++ [Zcc.cells Zae [.str [],.str []] false])[h.length]?=some (.cells Zae [.str [],.str []] false):=by simp
 have s0:Zbe h.length h (h ++ [Zcc.cells Zae [.str [],.str []] false]):=Zbe.app (Nat.le_refl _) _
 match s,hs,hb with
 | [],_,_=>exact Zav (fun _=>Znv s0 h0i rfl) (fun h1=>by simp at h1)
 | [a],_,_=>exact Zav (fun _=>Znv s0 h0i rfl) (fun h1=>by simp at h1)
 | [a,b],_,_=>
  refine Zav (fun _=>Znv s0 h0i ?_) (fun h1=>by simp at h1)
  have:Zkg []=false:=by
   cases ht:Zkg [] with
   | false=>rfl
   | true=>exact absurd rfl (Ykn ht)
  simp [Zld,this]
 | a :: b :: c :: t,hs,hb=>
  refine Zav (fun h1=>by simp at h1; omega) (fun h1=>?_)
  refine ⟨⟨by omega,by simp; omega⟩,?_⟩
  simp only [show Int.toNat 1=1 from rfl,List.getD_cons_succ,List.getD_cons_zero]
  refine Zgi (fun hne=>Znv s0 h0i ?_) (fun he=>?_)
  ·have:¬ b=32:=by omega
   simp [Zld,this]
  ·have hb32:b=32:=by omega
   subst hb32
   refine ⟨⟨by omega,by omega,by simp; omega⟩,?_⟩
   rw [Ycr]
   refine (Zvf [a] (fun x hx=>hb x (by simp at hx; simp [hx]))).mono ?_
   rintro v h2 ⟨rfl,rfl⟩
   simp only [Zap]
   refine Zcq (fun hc=>Znv s0 h0i ?_) (fun hc=>?_)
   ·have:¬ (65≤a∧a≤84):=by simp [Ztb] at hc; omega
    simp [Zld,this]
   ·have ha:65≤a∧a≤84:=by simpa [Ztb] using hc
    refine ⟨⟨by omega,by simp; omega,by omega⟩,?_⟩
    rw [Yaz (s:=a :: 32 :: c :: t) (z:=2) (k:=2) rfl (by simp)]
    simp only [List.drop_succ_cons,List.drop_zero]
    refine (Zjj (c :: t) (by simp at hs ⊢; omega) _).mono ?_
    rintro v h3 ⟨rfl,s3⟩
    simp only [Zap]
    have h3i:h3[h.length]?=some (.cells Zae [.str [],.str []] false):=by rw [s3.eq _ (by simp)]; exact h0i
    have s03:Zbe h.length h h3:=s0.trans (s3.mono (by simp))
    refine Zcq (fun hv=>Znv s03 h3i ?_) (fun hv=>?_)
    ·simp [Zld,hv]
    ·apply Zlq.J3i
     rw [Ycr,Yaz (s:=a :: 32 :: c :: t) (z:=2) (k:=2) rfl (by simp)]
     simp only [List.drop_succ_cons,List.drop_zero]
     exact ⟨⟨by omega,by omega,by simp; omega⟩,⟨by omega,by simp; omega,by omega⟩,Yio s03 h3i (Yjr ha hv)⟩

theorem Yaj:pg.underlying Zhw=some (.slice Zae):=by kernel_rfl
theorem Ylj:pg.cellsOf Zae=2:=by kernel_rfl
theorem Ynr:pg.okElem Zae=true:=by kernel_rfl
theorem Ykz:pg.bytesOf Zae≤127:=Nat.le_of_ble_eq_true (by kernel_rfl)
def Zdl {α:Type} (ty:TypeId) (enc:α→List Zas) (b:Nat) (h:Zaa) (a:Pt) (n:Nat) (l:List α):Prop:=l.length=n∧(n=0 ∨ ∃ i,a=some (i,0)∧b≤i∧h[i]?=some (.cells ty (Zdq enc l) false))
theorem Zdl.row {α:Type} {ty:TypeId} {enc:α→List Zas} {w b:Nat} {h:Zaa} {a:Pt} {n:Nat} {l:List α} (hw:∀ x,(enc x).length=w) (f:Zdl ty enc b h a n l):Row h.length h a (n * w) (Zdq enc l):=by
 obtain ⟨hl,h0 | ⟨i,ha,hb,hi⟩⟩:=f
 ·subst h0
  have:l=[]:=List.eq_nil_of_length_eq_zero hl
  subst this; simp; exact Row.nil
 ·rw [ha]; exact (Vec.mk1 (n:=0) (c:=0) hi).row (by rw [Zay hw,hl])
theorem Zdl.same {α:Type} {ty:TypeId} {enc:α→List Zas} {b:Nat} {h h':Zaa} {a:Pt} {n:Nat} {l:List α} (f:Zdl ty enc b h a n l) (s:Zbe h.length h h'):Zdl ty enc b h' a n l:=
 ⟨f.1,f.2.imp id fun ⟨i,ha,hb,hi⟩=>⟨i,ha,hb,by rw [s.eq i (Own.lt hi)]; exact hi⟩⟩
end Go.Sim

set_option linter.unusedVariables false
set_option linter.unusedSimpArgs false
set_option maxRecDepth 20000
namespace Go.Sim
open Go Go.RowKit

def Yjx (a:Pt) (n:Nat) (h h':Zaa):Prop:=h.length≤h'.length∧∀ j,j < h.length→(∀ i,a=some (i,0)→n≠0→j≠i)→h'[j]?=h[j]?
theorem Yjx.refl (a:Pt) (n:Nat) (h:Zaa):Yjx a n h h:=⟨Nat.le_refl _,fun _ _ _=>rfl⟩
theorem Yjx.same {a:Pt} {n:Nat} {h h1 h2:Zaa} (o:Yjx a n h h1) (s:Zbe h1.length h1 h2):Yjx a n h h2:=⟨Nat.le_trans o.1 s.le,fun j hj hn=>by rw [s.eq j (by have:=o.1; omega)]; exact o.2 j hj hn⟩
theorem Yjx.set {n i:Nat} {h h1:Zaa} {x:Zcc} (o:Yjx (some (i,0)) n h h1) (hn:n≠0):Yjx (some (i,0)) n h (h1.set i x):=⟨by simp; exact o.1,fun j hj hne=>by rw [Zbl (fun e=>hne i rfl hn e.symm)]; exact o.2 j hj hne⟩
theorem Row.only {b:Nat} {h h':Zaa} {a a':Pt} {n m:Nat} {cs:List Zas} (r:Row b h a m cs) (o:Yjx a' n h h') (hb:∀ i,a'=some (i,0)→n≠0→b≤i):Row b h' a m cs:=by
 obtain ⟨hl,r⟩:=r
 refine ⟨hl,r.imp id ?_⟩
 rintro ⟨i,o',t,all,ro,ha,hi,hg,x⟩
 exact ⟨i,o',t,all,ro,ha,hi,by rw [o.2 i (Own.lt hg) fun j hj hn=>by have:=hb j hj hn; omega]; exact hg,x⟩
theorem Zdl.only {α:Type} {ty:TypeId} {enc:α→List Zas} {b:Nat} {h h':Zaa} {a a':Pt} {n m:Nat} {l:List α} (f:Zdl ty enc b h a n l) (o:Yjx a' m h h') (hb:∀ i,a'=some (i,0)→m≠0→∀ j,a=some (j,0)→j≠i):Zdl ty enc b h' a n l:=
 ⟨f.1,f.2.imp id fun ⟨i,ha,hbi,hi⟩=>⟨i,ha,hbi,by rw [o.2 i (Own.lt hi) fun j hj hn=>hb j hj hn i ha]; exact hi⟩⟩
end Go.Sim

set_option linter.unusedVariables false
set_option linter.unusedSimpArgs false
set_option maxRecDepth 20000
namespace Go.Sim
open Go Go.RowKit

structure EI where
 c:List Nat
 t:List Nat
 a:Pt
 n:Nat
 cp:Nat
 e:Bool
 deriving Inhabited
def eN (x:EI):List Zas:=[.str x.c,.str x.t,.slice x.a x.n x.cp x.e]
theorem Znw (x:EI):(eN x).length=3:=rfl
def Ysy (h:Zaa) (x:EI) (i:Ins):Prop:=x.c=i.1.1∧x.t=i.1.2∧Row h.length h x.a (x.n * 2) (Zdq eP i.2)
def Yos (h:Zaa) (xs:List EI) (is:List Ins):Prop:=xs.length=is.length∧∀ (k:Nat) (x:EI) (i:Ins),xs[k]?=some x→is[k]?=some i→Ysy h x i
structure Zpz (h:Zaa) (a0:Pt) (n0 c0:Nat) (a1:Pt) (n1 c1:Nat) (w:Wd):Prop where
 cls:Row h.length h a0 (n0 * 2) (Zdq eP w.cs)
 ins:∃ xs,Row h.length h a1 (n1 * 3) (Zdq eN xs)∧Yos h xs w.is
 le0:n0≤c0
 le1:n1≤c1
theorem Row.same' {h h':Zaa} {a:Pt} {n:Nat} {cs:List Zas} (r:Row h.length h a n cs) (s:Zbe h.length h h'):Row h'.length h' a n cs:=(r.same s).mono s.le
theorem Ysy.same {h h':Zaa} {x:EI} {i:Ins} (r:Ysy h x i) (s:Zbe h.length h h'):Ysy h' x i:=⟨r.1,r.2.1,r.2.2.same' s⟩
theorem Yos.same {h h':Zaa} {xs:List EI} {is:List Ins} (r:Yos h xs is) (s:Zbe h.length h h'):Yos h' xs is:=⟨r.1,fun k x i hx hi=>(r.2 k x i hx hi).same s⟩
theorem Zpz.same {h h':Zaa} {a0 a1:Pt} {n0 c0 n1 c1:Nat} {w:Wd} (r:Zpz h a0 n0 c0 a1 n1 c1 w) (s:Zbe h.length h h'):Zpz h' a0 n0 c0 a1 n1 c1 w:=
 ⟨r.cls.same' s,r.ins.imp fun xs ⟨r1,r2⟩=>⟨r1.same' s,r2.same s⟩,r.le0,r.le1⟩
theorem Ysy.len {h:Zaa} {x:EI} {i:Ins} (r:Ysy h x i):i.2.length=x.n:=by have:=r.2.2.1; rw [Zay Zfp] at this; omega
theorem Zpz.len0 {h:Zaa} {a0 a1:Pt} {n0 c0 n1 c1:Nat} {w:Wd} (r:Zpz h a0 n0 c0 a1 n1 c1 w):w.cs.length=n0:=by have:=r.cls.1; rw [Zay Zfp] at this; omega
theorem Zpz.len1 {h:Zaa} {a0 a1:Pt} {n0 c0 n1 c1:Nat} {w:Wd} (r:Zpz h a0 n0 c0 a1 n1 c1 w):w.is.length=n1:=by
 obtain ⟨xs,r1,r2,_⟩:=r.ins
 have:=r1.1; rw [Zay Znw] at this; omega
theorem Zpz.class {h:Zaa} {a0 a1:Pt} {n0 c0 n1 c1:Nat} {w:Wd} (r:Zpz h a0 n0 c0 a1 n1 c1 w) {k:Nat} (hk:k < n0) :
  ∃ i o,∃ hk':k < w.cs.length,a0=some (i,o)∧i < h.length∧Zan h (.ptr (some (i,o + k * 2))) 2=some [.str w.cs[k].1,.str w.cs[k].2]∧Zai h (.ptr (some (i,o + k * 2)))=some (.str w.cs[k].1)∧Zai h (.ptr (some (i,o + k * 2 + 1)))=some (.str w.cs[k].2):=by
 obtain ⟨i,o,hk',ha,hi,hr,hc⟩:=Row.el Zfp r.cls r.len0 hk (by omega)
 exact ⟨i,o,hk',ha,hi,hr,by simpa [eP] using hc 0 (by omega),by simpa [eP] using hc 1 (by omega)⟩
theorem Zpz.inst {h:Zaa} {a0 a1:Pt} {n0 c0 n1 c1:Nat} {w:Wd} (r:Zpz h a0 n0 c0 a1 n1 c1 w) {k:Nat} (hk:k < n1) :
  ∃ i o,∃ hk':k < w.is.length,∃ a n cp e,a1=some (i,o)∧i < h.length∧Zan h (.ptr (some (i,o + k * 3))) 3=some [.str w.is[k].1.1,.str w.is[k].1.2,.slice a n cp e]∧Zai h (.ptr (some (i,o + k * 3)))=some (.str w.is[k].1.1)∧Zai h (.ptr (some (i,o + k * 3 + 1)))=some (.str w.is[k].1.2)∧Zai h (.ptr (some (i,o + k * 3 + 2)))=some (.slice a n cp e) ∧
   Row h.length h a (n * 2) (Zdq eP w.is[k].2)∧w.is[k].2.length=n:=by
 have hl:=r.len1
 obtain ⟨xs,r1,r2,r3⟩:=r.ins
 obtain ⟨i,o,hk',ha,hi,hr,hc⟩:=Row.el Znw r1 (by omega) hk (by omega)
 have hI:=r3 k xs[k] w.is[k] (List.getElem?_eq_getElem hk') (List.getElem?_eq_getElem (by omega))
 obtain ⟨e1,e2,e3⟩:=id hI
 refine ⟨i,o,by omega,xs[k].a,xs[k].n,xs[k].cp,xs[k].e,ha,hi,?_,?_,?_,?_,e3,hI.len⟩
 ·rw [hr,eN,e1,e2]
 ·have:=hc 0 (by omega); rw [← e1]; simpa [eN] using this
 ·have:=hc 1 (by omega); rw [← e2]; simpa [eN] using this
 ·have:=hc 2 (by omega); simpa [eN] using this
theorem Row.pr {b:Nat} {h:Zaa} {a:Pt} {n:Nat} {l:List Nd} (r:Row b h a (n * 2) (Zdq eP l)) {k:Nat} (hk:k < n) :
  ∃ i o,∃ hk':k < l.length,a=some (i,o)∧i < b∧Zan h (.ptr (some (i,o + k * 2))) 2=some [.str l[k].1,.str l[k].2]∧Zai h (.ptr (some (i,o + k * 2)))=some (.str l[k].1)∧Zai h (.ptr (some (i,o + k * 2 + 1)))=some (.str l[k].2):=by
 have hl:l.length=n:=by have:=r.1; rw [Zay Zfp] at this; omega
 obtain ⟨i,o,hk',ha,hi,hr,hc⟩:=Row.el Zfp r hl hk (by omega)
 exact ⟨i,o,hk',ha,hi,hr,by simpa [eP] using hc 0 (by omega),by simpa [eP] using hc 1 (by omega)⟩

def Mid (lo hi:Nat) (h h':Zaa):Prop:=h.length≤h'.length∧∀ j,j < h.length→(j < lo ∨ hi≤j)→h'[j]?=h[j]?
theorem Mid.refl (lo hi:Nat) (h:Zaa):Mid lo hi h h:=⟨Nat.le_refl _,fun _ _ _=>rfl⟩
theorem Mid.trans {lo hi:Nat} {h h1 h2:Zaa} (a:Mid lo hi h h1) (b:Mid lo hi h1 h2):Mid lo hi h h2:=⟨Nat.le_trans a.1 b.1,fun j hj hn=>by rw [b.2 j (by have:=a.1; omega) hn]; exact a.2 j hj hn⟩
theorem Mid.of_same {lo hi:Nat} {h h':Zaa} (s:Zbe h.length h h'):Mid lo hi h h':=⟨s.le,fun j hj _=>s.eq j hj⟩
theorem Mid.same {lo hi:Nat} {h h1 h2:Zaa} (a:Mid lo hi h h1) (s:Zbe h1.length h1 h2):Mid lo hi h h2:=a.trans (Mid.of_same s)
theorem Mid.set {lo hi i:Nat} {h h1:Zaa} {x:Zcc} (o:Mid lo hi h h1) (h0:lo≤i) (h2:i < hi):Mid lo hi h (h1.set i x):=⟨by simp; exact o.1,fun j hj hne=>by rw [Zbl (by omega)]; exact o.2 j hj hne⟩
theorem Yjx.mid {lo hi:Nat} {a:Pt} {n:Nat} {h h':Zaa} (o:Yjx a n h h') (hb:∀ i,a=some (i,0)→n≠0→lo≤i∧i < hi):Mid lo hi h h':=⟨o.1,fun j hj hn=>o.2 j hj fun i hi h0=>by have:=hb i hi h0; omega⟩
theorem Zdl.in {α:Type} {ty:TypeId} {enc:α→List Zas} {b:Nat} {h:Zaa} {a:Pt} {n:Nat} {l:List α} (f:Zdl ty enc b h a n l):∀ i,a=some (i,0)→n≠0→b≤i∧i < h.length:=by
 intro i hi hn
 rcases f.2 with h0 | ⟨j,ha,hb,hj⟩
 ·exact absurd h0 hn
 ·rw [hi] at ha; cases ha; exact ⟨hb,Own.lt hj⟩
theorem Row.mid {lo hi b:Nat} {h h':Zaa} {a:Pt} {m:Nat} {cs:List Zas} (r:Row b h a m cs) (o:Mid lo hi h h') (hb:b≤lo):Row b h' a m cs:=by
 obtain ⟨hl,r⟩:=r
 refine ⟨hl,r.imp id ?_⟩
 rintro ⟨i,o',t,all,ro,ha,hi,hg,x⟩
 exact ⟨i,o',t,all,ro,ha,hi,by rw [o.2 i (Own.lt hg) (.inl (by omega))]; exact hg,x⟩
theorem Zdl.mid {α:Type} {ty:TypeId} {enc:α→List Zas} {lo hi b:Nat} {h h':Zaa} {a:Pt} {n:Nat} {l:List α} (f:Zdl ty enc b h a n l) (o:Mid lo hi h h') (hb:hi≤b):Zdl ty enc b h' a n l:=
 ⟨f.1,f.2.imp id fun ⟨i,ha,hbi,hi⟩=>⟨i,ha,hbi,by rw [o.2 i (Own.lt hi) (.inr (by omega))]; exact hi⟩⟩

structure Zry (b:Nat) (h:Zaa) (a0:Pt) (n0:Nat) (a1:Pt) (n1:Nat) (xs:List EI) (w:Wd):Prop where
 cls:Zdl Zbh eP b h a0 n0 w.cs
 ins:Zdl Zac eN b h a1 n1 xs
 len:xs.length=w.is.length
 need:∀ (k:Nat) (x:EI) (i:Ins),xs[k]?=some x→w.is[k]?=some i→x.c=i.1.1∧x.t=i.1.2∧Zdl Zae eP b h x.a x.n i.2
 sep:∀ (j k:Nat) (x y:EI),j≠k→xs[j]?=some x→xs[k]?=some y→x.n≠0→y.n≠0→x.a≠y.a
 nn:∀ x∈xs,x.a≠none
 nc:a0≠none
theorem Zry.same {b:Nat} {h h':Zaa} {a0 a1:Pt} {n0 n1:Nat} {xs:List EI} {w:Wd} (f:Zry b h a0 n0 a1 n1 xs w) (s:Zbe h.length h h'):Zry b h' a0 n0 a1 n1 xs w:=
 ⟨f.cls.same s,f.ins.same s,f.len,fun k x i hx hi=>⟨(f.need k x i hx hi).1,(f.need k x i hx hi).2.1,(f.need k x i hx hi).2.2.same s⟩,f.sep,f.nn,f.nc⟩
theorem Zry.mid {lo hi b:Nat} {h h':Zaa} {a0 a1:Pt} {n0 n1:Nat} {xs:List EI} {w:Wd} (f:Zry b h a0 n0 a1 n1 xs w) (s:Mid lo hi h h') (hb:hi≤b):Zry b h' a0 n0 a1 n1 xs w:=
 ⟨f.cls.mid s hb,f.ins.mid s hb,f.len,fun k x i hx hi=>⟨(f.need k x i hx hi).1,(f.need k x i hx hi).2.1,(f.need k x i hx hi).2.2.mid s hb⟩,f.sep,f.nn,f.nc⟩
theorem Zry.rep {b:Nat} {h:Zaa} {a0 a1:Pt} {n0 c0 n1 c1:Nat} {xs:List EI} {w:Wd} (f:Zry b h a0 n0 a1 n1 xs w) (h0:n0≤c0) (h1:n1≤c1):Zpz h a0 n0 c0 a1 n1 c1 w:=
 ⟨f.cls.row Zfp,⟨xs,f.ins.row Znw,f.len,fun k x i hx hi=>⟨(f.need k x i hx hi).1,(f.need k x i hx hi).2.1,(f.need k x i hx hi).2.2.row Zfp⟩⟩,h0,h1⟩
end Go.Sim

set_option linter.unusedVariables false
set_option linter.unusedSimpArgs false
set_option maxRecDepth 20000
namespace Go.Sim
open Go Go.RowKit

def one (c:Nat):List Nat:=[c]
theorem Zyj:pg.underlying Zjh=some (.slice Zbg):=by kernel_rfl
theorem Ydz:pg.cellsOf Zbg=1:=by kernel_rfl
theorem Ydy:pg.okElem Zbg=true:=by kernel_rfl
theorem Yds:pg.bytesOf Zbg≤127:=Nat.le_of_ble_eq_true (by kernel_rfl)
theorem Ymb (s:List Nat) (h:Zaa):Zah pg Zph [.str s] h fun v h'=>Zbe h.length h h'∧∃ a n c e,v=.slice a n c e∧Row h'.length h' a n (strs ((Zjy s).map one)):=by
 apply Zjc.call
 simp only [Zax]
 have hlist:(h ++ [Zcc.cells Zbg [] false] ++ [Zcc.cells Zbg [.str [88],.str [89],.str [90],.str [120],.str [121],.str [122]] false])[h.length + 1]?=some (.cells Zbg [.str [88],.str [89],.str [90],.str [120],.str [121],.str [122]] false):=by simp
 have hlen:List.length (h ++ [Zcc.cells Zbg [] false])=h.length + 1:=by simp
 rw [hlen]
 refine Zjc.L3ind _ _ _ _ _ _ _ (J:=fun (g:Nat) a3 n3 c3 e3 x9 h'=>x9=(g:Int)∧g≤6∧Zbe h.length h h'∧h'[h.length + 1]?=some (.cells Zbg [.str [88],.str [89],.str [90],.str [120],.str [121],.str [122]] false)∧n3=(((Zef.take g).filter fun v=>decide (v∈s)).map one).length∧Vec Zbg h' a3 n3 c3 (strs (((Zef.take g).filter fun v=>decide (v∈s)).map one))∧∀ i,a3=some (i,0)→h.length≤i∧i≠h.length + 1) (fun g=>6 - g) ?_ 0 _ _ _ _ _ _
  ⟨rfl,by omega,(Zbe.app (Nat.le_refl _) _).trans (Zbe.app (by simp) _),hlist,by simp,Vec.mk1 (by simp),fun i hi=>by cases hi; omega⟩
 rintro g a3 n3 c3 e3 x9 h' ⟨rfl,hg,hS,hl,rfl,hv,ha⟩ R hR
 unfold Zjc.L3t
 refine Zav (fun hlt=>?_) (fun hge=>?_)
 ·have hlt':g < 6:=by omega
  have hc:∃ c,Zef[g]?=some c∧Zai h' (.ptr (some (h.length + 1,0 + (g:Int).toNat * 1)))=some (.str [c]):=by
   rw [Zak hl,Int.toNat_natCast]
   match g,hlt' with
   | 0,_ | 1,_ | 2,_ | 3,_ | 4,_ | 5,_=>exact ⟨_,rfl,rfl⟩
  obtain ⟨c,hc1,hc2⟩:=hc
  simp only [Zaw,hc2,Zam]
  refine ⟨by omega,Znd.mono ?_⟩
  rintro v h2 ⟨rfl,rfl⟩
  simp only [Zap]
  have htk:Zef.take (g + 1)=Zef.take g ++ [c]:=by
   rw [List.take_succ,hc1]; rfl
  have hbd:(((Zef.take g).filter fun v=>decide (v∈s)).map one).length≤6:=by
   rw [List.length_map]
   exact Nat.le_trans (List.length_filter_le _ _) (by simp; omega)
  refine Zav (fun hin=>?_) (fun hout=>?_)
  ·simp only [Zax]
   refine hv.push Zyj Ydz Ydy Yds (by simp) rfl (by omega) (fun h4 hl4 hi4 hk4=>?_)
   simp only [Zaf]
   apply Zjc.J7i
   rw [Zbt (by omega)]
   have hle:=hS.le
   refine hR (g + 1) _ _ _ _ _ _ (by omega) ⟨rfl,by omega,⟨by omega,fun j hj=>?_⟩,?_,?_,Vec.mk1 ?_,fun i hi=>by cases hi; have:=Own.lt hl; omega⟩
   ·rw [hk4 j (by omega) fun i hi=>by have:=(ha i hi).1; omega]; exact hS.eq j hj
   ·rw [hk4 _ (Own.lt hl) fun i hi=>(ha i hi).2.symm]; exact hl
   ·rw [htk,List.filter_append]; simp [hin]
   ·rw [hi4,htk,List.filter_append]; simp [hin,strs,one]
  ·apply Zjc.J7i
   rw [Zbt (by omega)]
   have hf:(Zef.take (g + 1)).filter (fun v=>decide (v∈s))=(Zef.take g).filter fun v=>decide (v∈s):=by rw [htk,List.filter_append]; simp [hout]
   refine hR (g + 1) _ _ _ _ _ _ (by omega) ⟨rfl,by omega,hS,hl,by rw [hf],by rw [hf]; exact hv,ha⟩
 ·have:g=6:=by omega
  subst this
  apply Zjc.A3x0i
  refine ⟨hS,_,_,_,_,rfl,hv.row (by simp)⟩
theorem Ydw (l:List Nat):([]:List Nat).intercalate (l.map one)=l:=by
 induction l with
 | nil=>rfl
 | cons a l ih=>
  cases l with
  | nil=>rfl
  | cons b l=>simp only [List.map_cons,List.intercalate,List.intersperse_cons_cons,List.flatten_cons] at ih ⊢; rw [ih]; rfl
theorem Yku (s:List Nat) (h:Zaa):Zah pg Zpl [.str s] h fun v h'=>v=.str (if Zkg s=true then Zjy s else [])∧Zbe h.length h h':=by
 apply Ztk.call
 refine (Zhk s h).mono ?_
 rintro v h1 ⟨rfl,s1⟩
 simp only [Zap]
 refine Zcq (fun hb=>?_) (fun hb=>?_)
 ·simp [hb]; exact s1
 ·refine (Ymb s h1).mono ?_
  rintro v h2 ⟨s2,a,n,c,e,rfl,hr⟩
  simp only [Zaf]
  have hl:(Zjy s).length≤6:=List.length_filter_le _ _
  have hn:n=(Zjy s).length:=by have:=hr.1; simpa using this.symm
  refine (Yhq hr (by omega) (by rw [Ydw]; omega)).mono ?_
  rintro v h3 ⟨rfl,rfl⟩
  simp only [Zam]
  refine ⟨?_,s1.trans (s2.mono s1.le)⟩
  rw [Ydw,if_pos hb]
theorem Yed (s:List Nat) (h:Zaa):Zah pg Zmr [.str s] h fun v h'=>v=.bool (Zkg s && decide (Zjy s=[]))∧Zbe h.length h h':=by
 apply Zqq.call
 refine (Zhk s h).mono ?_
 rintro v h1 ⟨rfl,s1⟩
 simp only [Zap]
 refine Zdb (fun hb=>?_) (fun hb=>?_)
 ·refine (Yku s h1).mono ?_
  rintro v h2 ⟨rfl,s2⟩
  simp only [Zam]
  exact ⟨by simp [hb],s1.trans (s2.mono s1.le)⟩
 ·simp [hb]; exact s1
end Go.Sim

set_option linter.unusedVariables false
set_option linter.unusedSimpArgs false
set_option maxRecDepth 20000
namespace Go.Sim
open Go Go.RowKit

theorem Zeu {h:Zaa} {t:TypeId} {cs:List Zas} {o:Nat}:Zai (h ++ [.cells t cs false]) (.ptr (some (h.length,o)))=cs[o]?:=Zak (t:=t) (cs:=cs) (ro:=false) (by simp)
theorem Ybu {h:Zaa} {t:TypeId} {cs:List Zas} {n:Nat} (hn:cs.length=n):Zan (h ++ [.cells t cs false]) (.ptr (some (h.length,0))) n=some cs:=by
 rw [Zed (show (h ++ [Zcc.cells t cs false])[h.length]?=some (.cells t cs false) by simp) (by omega)]; simp [← hn]
theorem Zao {h:Zaa} {x:Zcc}:Zbe h.length h (h ++ [x]):=Zbe.app (Nat.le_refl _) _
theorem Zup {h:Zaa} {t:TypeId} {cs vs:List Zas} (hl:cs.length=vs.length):Zbb (h ++ [.cells t cs false]) (.ptr (some (h.length,0))) vs=some (h ++ [.cells t vs false]):=by
 rw [Zba (show (h ++ [Zcc.cells t cs false])[h.length]?=some (.cells t cs false) by simp) (by omega)]
 simp [putRow,hl]
theorem Zgk {h:Zaa} {t:TypeId} {x y a b:Zas}:Zbb (h ++ [.cells t [x,y] false]) (.ptr (some (h.length,0))) [a,b]=some (h ++ [.cells t [a,b] false]):=Zup rfl
theorem Ytw {h:Zaa} {t:TypeId} {x y z a b c:Zas}:Zbb (h ++ [.cells t [x,y,z] false]) (.ptr (some (h.length,0))) [a,b,c]=some (h ++ [.cells t [a,b,c] false]):=Zup rfl
theorem Row.sl {b:Nat} {h:Zaa} {a:Pt} {n k:Nat} {l:List Nd} (r:Row b h a (n * 2) (Zdq eP l)) (hk:k≤n) (hl:l.length=n):Row b h a (k * 2) (Zdq eP (l.take k)):=by
 obtain ⟨h1,h2⟩:=r
 have e:(Zdq eP (l.take k)).length=k * 2:=by rw [Zay Zfp,List.length_take,Nat.min_eq_left (by omega)]
 refine ⟨e,?_⟩
 rcases h2 with h0 | ⟨i,o,t,all,ro,ha,hb,hi,hle,hcs⟩
 ·exact .inl (by omega)
 ·refine .inr ⟨i,o,t,all,ro,ha,hb,hi,by omega,?_⟩
  rw [← Yfn Zfp,hcs,List.take_take,Nat.min_eq_left (by omega)]
theorem Yhn {b:Nat} {h:Zaa} {a:Pt} {n c k:Nat} {e:Bool} {l:List Nd} {K:Zas→Prop} (r:Row b h a (n * 2) (Zdq eP l)) (hl:l.length=n) (hk:k≤n) (hc:n≤c) {z:Int} (hz:z=k)
  (hK:∀ a' c' e',Row b h a' (k * 2) (Zdq eP (l.take k))→k≤c'→K (.slice a' k c' e')):Zkm a n c e 2 none (some (.int .i64 z)) none K:=by
 subst hz
 simp only [Zkm,Zjz]
 refine ⟨by omega,?_⟩
 split
 ·have h0:n=0:=by
   obtain ⟨h1,h2⟩:=r
   rcases h2 with h2 | ⟨i,o,t,all,ro,ha,_⟩
   ·omega
   ·cases ha
  have hk0:k=0:=by omega
  subst hk0
  exact ⟨⟨by trivial,by simp,.inl (by trivial)⟩,hK _ _ _ (by simpa using Row.nil) (by omega)⟩
 ·rename_i i o
  refine ⟨fun hlt=>?_,fun hlt=>?_⟩
  ·have e2:((k:Int) - 0).toNat=k:=by omega
   have e3:o + Int.toNat 0 * 2=o:=by simp
   have e4:((c:Int) - 0).toNat=c:=by omega
   rw [e2,e3,e4]
   exact hK _ _ _ (r.sl hk hl) (by omega)
  ·have hk0:k=0:=by omega
   subst hk0
   exact hK _ _ _ (by simpa using Row.nil) (by omega)

theorem Yff {h:Zaa} {x:Nd} {j:Nat} {c:List Nat} (hj:Zai h (.ptr (some (j,0)))=some (.str c)) (hjl:j < h.length) :
  Zah pg Zdj [.agg [.str x.1,.str x.2],.ptr (some (j,0))] h fun v h'=>v=.bool (decide (x.1=c))∧Zbe h.length h h':=by
 apply Zog.call
 simp only [Zax,Zeu,List.getElem?_cons_zero,Zam]
 have:=(Zao (h:=h) (x:=.cells Zbh [.str x.1,.str x.2] false)).cell hjl hj
 rw [this]
 exact ⟨rfl,Zao⟩
theorem Yez {h:Zaa} {a:Pt} {n c:Nat} {e:Bool} {cs:List Nd} {j:Nat} {s:List Nat} (r:Row h.length h a (n * 2) (Zdq eP cs)) (hn:n≤4611686018427387904) (hj:Zai h (.ptr (some (j,0)))=some (.str s)) (hjl:j < h.length) :
  Zah pg Zdr [.slice a n c e,.fn Zdj [.ptr (some (j,0))]] h fun v h'=>(∃ z:Int,v=.int .i64 z∧decide (z ≥ 0)=Zgl cs s)∧Zbe h.length h h':=by
 have hl:cs.length=n:=by have:=r.1; rw [Zay Zfp] at this; omega
 apply Zbw.call
 refine Zbw.L2ind _ _ _ _ _ _ _ (J:=fun (g:Nat) x8 h'=>x8=(g:Int)∧g≤n∧Zbe h.length h h'∧Zgl (cs.take g) s=false) (fun g=>n - g) ?_ 0 _ _ ⟨rfl,by omega,Zbe.refl _ _,rfl⟩
 rintro g x8 h' ⟨rfl,hg,hS,hk⟩ R hR
 unfold Zbw.L2t
 refine Zav (fun hlt=>?_) (fun hge=>?_)
 ·obtain ⟨i,o,hgl,rfl,_,hr,_⟩:=(r.same hS).pr (k:=g) (by omega)
  simp only [Zaw,Int.toNat_natCast,hr,Zau,Zaj,Zar,Zam]
  refine ⟨by omega,(Yff (x:=cs[g]) (hS.cell hjl hj) (by have:=hS.le; omega)).mono ?_⟩
  rintro v h2 ⟨rfl,s2⟩
  simp only [Zap]
  have hS2:=hS.trans (s2.mono hS.le)
  refine Zav (fun he=>?_) (fun he=>?_)
  ·refine ⟨⟨_,rfl,?_⟩,hS2⟩
   have:Zgl cs s=true:=by unfold Zgl; rw [List.any_eq_true]; exact ⟨_,List.getElem_mem hgl,by simpa using he⟩
   rw [this]; simp
  ·rw [Zbt (by omega)]
   exact hR (g + 1) _ _ (by omega) ⟨rfl,by omega,hS2,by rw [Zxd hgl,hk]; simp [he]⟩
 ·apply Zbw.A2x0i
  have:g=n:=by omega
  subst this
  rw [List.take_of_length_le (by omega)] at hk
  exact ⟨⟨_,rfl,by rw [hk]; rfl⟩,hS⟩
theorem Zwd {h:Zaa} {a:Pt} {n c:Nat} {e:Bool} {cs:List Nd} {s:List Nat} (r:Row h.length h a (n * 2) (Zdq eP cs)) (hn:n≤4611686018427387904) :
  Zah pg Zjg [.slice a n c e,.str s] h fun v h'=>v=.bool (Zgl cs s)∧Zbe h.length h h':=by
 apply Zvn.call
 simp only [Zax]
 apply Zdm.call
 have s1:Zbe h.length h (h ++ [.cells Zbg [.str s] false]):=Zao
 refine (Yez (r.same' s1) hn (s:=s) (by rw [Zeu]; rfl) (by simp)).mono ?_
 rintro v h2 ⟨⟨z,rfl,hz⟩,s2⟩
 simp only [Zaq,Zap]
 exact ⟨by rw [hz],s1.trans (s2.mono s1.le)⟩
theorem Zrj {h:Zaa} {a a1:Pt} {n c n1 c1:Nat} {e e1:Bool} {cs:List Nd} {s:List Nat} (r:Row h.length h a (n * 2) (Zdq eP cs)) (hn:n≤4611686018427387904) :
  Zah pg Zhc [.agg [.slice a n c e,.slice a1 n1 c1 e1],.str s] h fun v h'=>v=.int .i64 (Yes cs s)∧Zbe h.length h h':=by
 have hl:cs.length=n:=by have:=r.1; rw [Zay Zfp] at this; omega
 apply Ziq.call
 simp only [Zax,Zeu,Nat.add_zero,List.getElem?_cons_zero,Zaf]
 have s1:Zbe h.length h (h ++ [.cells Zad [.slice a n c e,.slice a1 n1 c1 e1] false]):=Zao
 refine Ziq.L2ind _ _ _ _ _ _ _ (J:=fun (g:Nat) x10 h'=>x10=(g:Int)∧g≤n∧Zbe h.length h h'∧Zgl (cs.take g) s=false) (fun g=>n - g) ?_ 0 _ _ ⟨rfl,by omega,s1,rfl⟩
 rintro g x8 h' ⟨rfl,hg,hS,hk⟩ R hR
 unfold Ziq.L2t
 refine Zav (fun hlt=>?_) (fun hge=>?_)
 ·obtain ⟨i,o,hgl,rfl,_,hr,_⟩:=(r.same hS).pr (k:=g) (by omega)
  simp only [Zaw,Int.toNat_natCast,hr,Zau,Zaj,Zar,Zam,Zax]
  rw [Zgk]
  simp only [Zat,Zeu,Nat.add_zero,List.getElem?_cons_zero,Zam]
  refine ⟨by omega,?_⟩
  have hS2:Zbe h.length h (h' ++ [.cells Zbh [.str cs[g].1,.str cs[g].2] false]):=hS.trans (Zbe.app hS.le _)
  refine Zav (fun he=>?_) (fun he=>?_)
  ·refine ⟨?_,hS2⟩
   have hkn:Zgl cs s=true:=by unfold Zgl; rw [List.any_eq_true]; exact ⟨_,List.getElem_mem hgl,by simpa using he⟩
   unfold Yes
   rw [hkn,if_pos rfl]
   congr 2
   symm
   rw [List.findIdx_eq hgl]
   refine ⟨by simpa using he,fun j hj=>?_⟩
   unfold Zgl at hk
   rw [List.any_eq_false] at hk
   have:=hk cs[j] (List.mem_take_iff_getElem.2 ⟨j,by omega,rfl⟩)
   simpa using this
  ·rw [Zbt (by omega)]
   exact hR (g + 1) _ _ (by omega) ⟨rfl,by omega,hS2,by rw [Zxd hgl,hk]; simp [he]⟩
 ·apply Ziq.A2x0i
  have:g=n:=by omega
  subst this
  rw [List.take_of_length_le (by omega)] at hk
  exact ⟨by unfold Yes; rw [hk]; rfl,hS⟩

theorem Yka {s:List Nat} {g:Nat} {z:Int} (hg:g < s.length) (hz:z=((g + 1:Nat):Int)):sub s (g:Int) z=[s[g]]:=by
 subst hz
 simp only [sub,Int.toNat_natCast]
 rw [List.take_succ_eq_append_getElem hg,List.drop_append_of_le_length (by simp; omega),List.drop_of_length_le (by rw [List.length_take]; exact Nat.min_le_left _ _),List.nil_append]
theorem Ztz {g:Nat} (hg:0 < g) (hn:g≤9223372036854775807):IntKind.wrap .i64 ((g:Int) - 1)=((g - 1:Nat):Int):=by rw [IntWalk.i64_in _ (by omega)]; omega
theorem Ygf {cs:List Nd} {s:List Nat} {g:Nat} (hg:g < s.length):Zza cs s g=(Zgl cs [s[g]] && (g == 0 || decide (s.getD (g - 1) 0 < s[g]))):=by unfold Zza; rw [Zkf hg]
theorem Yhm {cs:List Nd} {g:Nat} (hg:g < cs.length):Zzc cs g=(Ztb cs[g].1 && (g == 0 || Zfj (cs.getD (g - 1) ([],[])).1 cs[g].1) && Ydx (cs.take g) cs[g].2):=by unfold Zzc; rw [Zkf hg]
theorem Zkn {cs:List Nd} {g:Nat} (hg:g < cs.length) (h:Zzc cs g=false):Zja cs=false:=by unfold Zja; rw [Zpm hg h]; rfl
theorem Zvc {h:Zaa} {a a1:Pt} {n c n1 c1:Nat} {e e1:Bool} {cs:List Nd} (r:Row h.length h a (n * 2) (Zdq eP cs)) (hc:n≤c) (hn:n≤1048576) (hs:∀ p∈cs,p.2.length≤1048576) :
  Zah pg Ziw [.agg [.slice a n c e,.slice a1 n1 c1 e1]] h fun v h'=>v=.bool (Zja cs)∧Zbe h.length h h':=by
 have hl:cs.length=n:=by have:=r.1; rw [Zay Zfp] at this; omega
 apply Zdi.call
 simp only [Zax,Zeu,Nat.add_zero,List.getElem?_cons_zero,Zaf]
 have s1:Zbe h.length h (h ++ [.cells Zad [.slice a n c e,.slice a1 n1 c1 e1] false]):=Zao
 have hw:(h ++ [Zcc.cells Zad [.slice a n c e,.slice a1 n1 c1 e1] false])[h.length]?=some (.cells Zad [.slice a n c e,.slice a1 n1 c1 e1] false):=by simp
 refine Zdi.L2ind _ _ _ _ _ _ _ _ (J:=fun (g:Nat) x9 h'=>x9=(g:Int)∧g≤n∧Zbe h.length h h'∧h'[h.length]?=some (.cells Zad [.slice a n c e,.slice a1 n1 c1 e1] false)∧(List.range g).all (Zzc cs)=true) (fun g=>n - g) ?_ 0 _ _ ⟨rfl,by omega,s1,hw,rfl⟩
 rintro g x9 h' ⟨rfl,hg,hS,hW,hk⟩ R hR
 unfold Zdi.L2t
 refine Zav (fun hlt=>?_) (fun hge=>?_)
 ·obtain ⟨i,o,hgl,rfl,hil,hr,_⟩:=(r.same hS).pr (k:=g) (by omega)
  simp only [Zaw,Int.toNat_natCast,hr,Zau,Zaj,Zar,Zam,Zax]
  rw [Zgk]
  simp only [Zat,Zeu,Nat.add_zero,List.getElem?_cons_zero,Zam]
  have hS2:Zbe h.length h (h' ++ [.cells Zbh [.str cs[g].1,.str cs[g].2] false]):=hS.trans (Zbe.app hS.le _)
  refine ⟨by omega,(Yju _).mono ?_⟩
  rintro v h2 ⟨rfl,rfl⟩
  simp only [Zap,true_and]
  have hcl:=Yhm hgl
  have hle:=hS2.le
  have hWl:=Own.lt hW
  have hW2:(h' ++ [.cells Zbh [.str cs[g].1,.str cs[g].2] false])[h.length]?=some (.cells Zad [.slice (some (i,o)) n c e,.slice a1 n1 c1 e1] false):=Zft hW
  have hcell:∀ o',Zai (h' ++ [.cells Zbh [.str cs[g].1,.str cs[g].2] false]) (.ptr (some (h'.length,o')))=([.str cs[g].1,.str cs[g].2]:List Zas)[o']?:=fun o'=>Zeu
  -- the classes above
  have key:(Ztb cs[g].1 && (g == 0 || Zfj (cs.getD (g - 1) ([],[])).1 cs[g].1))=true→Zdi.J6 (fun v h'=>v=.bool (Zja cs)∧Zbe h.length h h') R h'.length 0 h.length 0 (g:Int) (some (i,o)) n c e (n:Int) (g:Int) (h' ++ [.cells Zbh [.str cs[g].1,.str cs[g].2] false]):=by
   intro hpre
   rw [hpre,Bool.true_and] at hcl
   apply Zdi.J6i
   rw [hcell]
   simp only [Nat.zero_add,List.getElem?_cons_succ,List.getElem?_cons_zero,Zam]
   have hsl:=hs cs[g] (List.getElem_mem hgl)
   refine Zdi.L7ind _ _ _ _ _ _ _ _ _ _ _ _ _ _ (J:=fun (q:Nat) x37 h3=>x37=(q:Int)∧q≤cs[g].2.length∧Zbe h.length h h3∧h3[h.length]?=some (.cells Zad [.slice (some (i,o)) n c e,.slice a1 n1 c1 e1] false)∧h3[h'.length]?=some (.cells Zbh [.str cs[g].1,.str cs[g].2] false)∧(List.range q).all (Zza (cs.take g) cs[g].2)=true) (fun q=>cs[g].2.length - q) ?_ 0 _ _ ⟨rfl,by omega,hS2,hW2,by simp,rfl⟩
   rintro q x37 h3 ⟨rfl,hq,hS3,hW3,hI3,hk3⟩ R7 hR7
   unfold Zdi.L7t
   refine Zav (fun hlt3=>?_) (fun hge3=>?_)
   ·have hq':q < cs[g].2.length:=by omega
    simp only [Nat.add_zero,Nat.zero_add,Zak hW3,Zak hI3,List.getElem?_cons_succ,List.getElem?_cons_zero,Zaf,Zam,true_and]
    refine Yhn (r.same hS3) hl (k:=g) (by omega) hc rfl (fun a' c' e' hrow hc'=>?_)
    simp only [Zaf]
    rw [Zbt (by omega),Yka hq' rfl]
    refine ⟨⟨by omega,by omega,by omega⟩,(Zwd (hrow.mono hS3.le) (by omega)).mono ?_⟩
    rintro v h4 ⟨rfl,s4⟩
    have hS4:=hS3.trans (s4.mono hS3.le)
    have hW4:h4[h.length]?=some (.cells Zad [.slice (some (i,o)) n c e,.slice a1 n1 c1 e1] false):=by rw [s4.eq _ (Own.lt hW3)]; exact hW3
    have hI4:h4[h'.length]?=some (.cells Zbh [.str cs[g].1,.str cs[g].2] false):=by rw [s4.eq _ (Own.lt hI3)]; exact hI3
    simp only [Zap,Zak hW3,Zak hW4,Zak hI4,Nat.add_zero,Nat.zero_add,List.getElem?_cons_succ,List.getElem?_cons_zero,Zam,true_and]
    have hsa:=Ygf (cs:=cs.take g) hq'
    have fail:Zza (cs.take g) cs[g].2 q=false→(Zas.bool false=Zas.bool (Zja cs)∧Zbe h.length h h4):=fun hf=>⟨by rw [Zkn hgl (by rw [hcl]; unfold Ydx; exact Zpm hq' hf)],hS4⟩
    have next:Zza (cs.take g) cs[g].2 q=true→R7 h.length 0 (g:Int) h'.length 0 (some (i,o)) n c e (n:Int) (g:Int) (cs[g].2.length:Int) (IntKind.wrap .i64 ((q:Int) + 1)) h4:=fun ht=>by
     rw [Zbt (by omega)]
     exact hR7 (q + 1) _ _ (by omega) ⟨rfl,by omega,hS4,hW4,hI4,Zku hk3 ht⟩
    refine Zcq (fun hb=>fail (by rw [hsa,hb]; rfl)) (fun hb=>?_)
    refine Zav (fun h0=>?_) (fun h0=>?_)
    ·have h0':0 < q:=by omega
     rw [Ztz h0' (by omega)]
     refine ⟨⟨by omega,by omega⟩,⟨by omega,by omega⟩,?_⟩
     simp only [Int.toNat_natCast]
     have hd1:cs[g].2.getD q 0=cs[g].2[q]:=Zkf hq'
     have hq0:(q == 0)=false:=by simp; omega
     refine Zav (fun h1=>fail ?_) (fun h1=>Zdi.J11i _ _ _ _ _ _ _ _ _ _ _ _ _ _ _ _ _ (next ?_))
     ·rw [hsa,hb,hq0,← hd1]; simp only [Bool.true_and,Bool.false_or,decide_eq_false_iff_not]; omega
     ·rw [hsa,hb,hq0,← hd1]; simp only [Bool.true_and,Bool.false_or,decide_eq_true_eq]; omega
    ·have:q=0:=by omega
     subst this
     exact Zdi.J11i _ _ _ _ _ _ _ _ _ _ _ _ _ _ _ _ _ (next (by rw [hsa,hb]; rfl))
   ·apply Zdi.A7x2i
    apply Zdi.J12i
    have:q=cs[g].2.length:=by omega
    subst this
    rw [Zbt (by omega)]
    exact hR (g + 1) _ _ (by omega) ⟨rfl,by omega,hS3,hW3,Zku hk (by rw [hcl]; exact hk3)⟩
  refine Zcq (fun hb=>⟨by rw [Zkn hgl (by rw [hcl,hb]; rfl)],hS2⟩) (fun hb=>?_)
  refine Zav (fun h0=>?_) (fun h0=>?_)
  ·have h0':0 < g:=by omega
   rw [Zak hW2]
   simp only [List.getElem?_cons_zero,Zaf]
   rw [Ztz h0' (by omega)]
   obtain ⟨i',o',hgl',heq,_,_,hc0,_⟩:=(r.same hS2).pr (k:=g - 1) (by omega)
   cases heq
   simp only [Zaw,Int.toNat_natCast,hc0,Zam,Nat.add_zero,Nat.zero_add,hcell,List.getElem?_cons_zero,true_and]
   refine ⟨by omega,?_⟩
   have hg0:(g == 0)=false:=by simp; omega
   have hgd:cs.getD (g - 1) ([],[])=cs[g - 1]:=Zkf hgl'
   refine Zcq (fun hb2=>⟨by rw [Zkn hgl (by rw [hcl,hb,hg0,hgd,hb2]; rfl)],hS2⟩) (fun hb2=>key (by rw [hb,hg0,hgd,hb2]; rfl))
  ·have:g=0:=by omega
   subst this
   exact key (by rw [hb]; rfl)
 ·apply Zdi.A2x0i
  have:g=n:=by omega
  subst this
  have hok:Zja cs=decide (1≤g∧g≤4):=by unfold Zja; rw [hl,hk,Bool.true_and]
  simp only [Nat.add_zero,Zak hW,List.getElem?_cons_zero,Zaf]
  refine Zav (fun h1=>?_) (fun h1=>?_)
  ·refine ⟨?_,hS⟩
   rw [hok]; congr 1; rw [Bool.eq_iff_iff]; simp; omega
  ·refine ⟨?_,hS⟩
   rw [hok]; congr 1; symm; simp; omega
end Go.Sim

set_option linter.unusedVariables false
set_option linter.unusedSimpArgs false
set_option maxRecDepth 20000
namespace Go.Sim
open Go Go.RowKit
theorem Zvl {h:Zaa} {a:Pt} {n c:Nat} {e:Bool} {cs:List Nd} (r:Row h.length h a (n * 2) (Zdq eP cs)) (hc:n≤c) (hn:n≤1048576) (hs:∀ p∈cs,p.2.length≤1048576) (hb256:∀ p∈cs,∀ b∈p.1,b < 256) :
  Zah pg Ziv [.slice a n c e] h fun v h'=>v=.bool (Zja cs)∧Zbe h.length h h':=by
 have hl:cs.length=n:=by have:=r.1; rw [Zay Zfp] at this; omega
 apply Zdh.call
 refine Zdh.L2ind _ _ _ _ _ _ _ _ _ _ (J:=fun (g:Nat) x9 h'=>x9=(g:Int)∧g≤n∧Zbe h.length h h'∧(List.range g).all (Zzc cs)=true) (fun g=>n - g) ?_ 0 _ _ ⟨rfl,by omega,Zbe.refl _ _,rfl⟩
 rintro g x9 h' ⟨rfl,hg,hS,hk⟩ R hR
 unfold Zdh.L2t
 refine Zav (fun hlt=>?_) (fun hge=>?_)
 ·obtain ⟨i,o,hgl,rfl,hil,hr,_⟩:=(r.same hS).pr (k:=g) (by omega)
  simp only [Zaw,Int.toNat_natCast,hr,Zau,Zaj,Zar,Zam,Zax]
  rw [Zgk]
  simp only [Zat,Zeu,Nat.add_zero,List.getElem?_cons_zero,Zam]
  have hS2:Zbe h.length h (h' ++ [.cells Zbh [.str cs[g].1,.str cs[g].2] false]):=hS.trans (Zbe.app hS.le _)
  refine ⟨by omega,(Zvf _ (hb256 _ (List.getElem_mem hgl))).mono ?_⟩
  rintro v h2 ⟨rfl,rfl⟩
  simp only [Zap,true_and]
  have hcl:=Yhm hgl
  have hle:=hS2.le
  have hcell:∀ o',Zai (h' ++ [.cells Zbh [.str cs[g].1,.str cs[g].2] false]) (.ptr (some (h'.length,o')))=([.str cs[g].1,.str cs[g].2]:List Zas)[o']?:=fun o'=>Zeu
  -- the classes above
  have key:(Ztb cs[g].1 && (g == 0 || Zfj (cs.getD (g - 1) ([],[])).1 cs[g].1))=true→Zdh.J6 (fun v h'=>v=.bool (Zja cs)∧Zbe h.length h h') R h'.length 0 (some (i,o)) n c e (g:Int) (some (i,o)) n c e (n:Int) (g:Int) (h' ++ [.cells Zbh [.str cs[g].1,.str cs[g].2] false]):=by
   intro hpre
   rw [hpre,Bool.true_and] at hcl
   apply Zdh.J6i
   rw [hcell]
   simp only [Nat.zero_add,List.getElem?_cons_succ,List.getElem?_cons_zero,Zam]
   have hsl:=hs cs[g] (List.getElem_mem hgl)
   refine Zdh.L7ind _ _ _ _ _ _ _ _ _ _ _ _ _ _ _ _ (J:=fun (q:Nat) x37 h3=>x37=(q:Int)∧q≤cs[g].2.length∧Zbe h.length h h3∧h3[h'.length]?=some (.cells Zbh [.str cs[g].1,.str cs[g].2] false)∧(List.range q).all (Zza (cs.take g) cs[g].2)=true) (fun q=>cs[g].2.length - q) ?_ 0 _ _ ⟨rfl,by omega,hS2,by simp,rfl⟩
   rintro q x37 h3 ⟨rfl,hq,hS3,hI3,hk3⟩ R7 hR7
   unfold Zdh.L7t
   refine Zav (fun hlt3=>?_) (fun hge3=>?_)
   ·have hq':q < cs[g].2.length:=by omega
    simp only [Nat.add_zero,Nat.zero_add,Zak hI3,List.getElem?_cons_succ,List.getElem?_cons_zero,Zaf,Zam,true_and]
    refine Yhn (r.same hS3) hl (k:=g) (by omega) hc rfl (fun a' c' e' hrow hc'=>?_)
    simp only [Zaf]
    rw [Zbt (by omega),Yka hq' rfl]
    refine ⟨⟨by omega,by omega,by omega⟩,(Zrj (hrow.mono hS3.le) (by omega)).mono ?_⟩
    rintro v h4 ⟨rfl,s4⟩
    have hS4:=hS3.trans (s4.mono hS3.le)
    have hI4:h4[h'.length]?=some (.cells Zbh [.str cs[g].1,.str cs[g].2] false):=by rw [s4.eq _ (Own.lt hI3)]; exact hI3
    simp only [Zaq,Zwv,Zak hI4,Nat.add_zero,Nat.zero_add,List.getElem?_cons_succ,List.getElem?_cons_zero,Zam,true_and]
    have hsa:=Ygf (cs:=cs.take g) hq'
    have fail:Zza (cs.take g) cs[g].2 q=false→(Zas.bool false=Zas.bool (Zja cs)∧Zbe h.length h h4):=fun hf=>⟨by rw [Zkn hgl (by rw [hcl]; unfold Ydx; exact Zpm hq' hf)],hS4⟩
    have next:Zza (cs.take g) cs[g].2 q=true→R7 (some (i,o)) n c e (g:Int) h'.length 0 (some (i,o)) n c e (n:Int) (g:Int) (cs[g].2.length:Int) (IntKind.wrap .i64 ((q:Int) + 1)) h4:=fun ht=>by
     rw [Zbt (by omega)]
     exact hR7 (q + 1) _ _ (by omega) ⟨rfl,by omega,hS4,hI4,Zku hk3 ht⟩
    refine Zcq (fun hb=>fail (by rw [hsa,hb]; rfl)) (fun hb=>?_)
    refine Zav (fun h0=>?_) (fun h0=>?_)
    ·have h0':0 < q:=by omega
     rw [Ztz h0' (by omega)]
     refine ⟨⟨by omega,by omega⟩,⟨by omega,by omega⟩,?_⟩
     simp only [Int.toNat_natCast]
     have hd1:cs[g].2.getD q 0=cs[g].2[q]:=Zkf hq'
     have hq0:(q == 0)=false:=by simp; omega
     refine Zav (fun h1=>fail ?_) (fun h1=>Zdh.J11i _ _ _ _ _ _ _ _ _ _ _ _ _ _ _ _ _ _ _ (next ?_))
     ·rw [hsa,hb,hq0,← hd1]; simp only [Bool.true_and,Bool.false_or,decide_eq_false_iff_not]; omega
     ·rw [hsa,hb,hq0,← hd1]; simp only [Bool.true_and,Bool.false_or,decide_eq_true_eq]; omega
    ·have:q=0:=by omega
     subst this
     exact Zdh.J11i _ _ _ _ _ _ _ _ _ _ _ _ _ _ _ _ _ _ _ (next (by rw [hsa,hb]; rfl))
   ·apply Zdh.A7x2i
    apply Zdh.J12i
    have:q=cs[g].2.length:=by omega
    subst this
    rw [Zbt (by omega)]
    exact hR (g + 1) _ _ (by omega) ⟨rfl,by omega,hS3,Zku hk (by rw [hcl]; exact hk3)⟩
  refine Zcq (fun hb=>⟨by rw [Zkn hgl (by rw [hcl,hb]; rfl)],hS2⟩) (fun hb=>?_)
  refine Zav (fun h0=>?_) (fun h0=>?_)
  ·have h0':0 < g:=by omega
   rw [Ztz h0' (by omega)]
   obtain ⟨i',o',hgl',heq,_,_,hc0,_⟩:=(r.same hS2).pr (k:=g - 1) (by omega)
   cases heq
   simp only [Zaw,Int.toNat_natCast,hc0,Zam,Nat.add_zero,Nat.zero_add,hcell,List.getElem?_cons_zero,true_and]
   refine ⟨by omega,?_⟩
   have hg0:(g == 0)=false:=by simp; omega
   have hgd:cs.getD (g - 1) ([],[])=cs[g - 1]:=Zkf hgl'
   refine Zcq (fun hb2=>⟨by rw [Zkn hgl (by rw [hcl,hb,hg0,hgd,hb2]; rfl)],hS2⟩) (fun hb2=>key (by rw [hb,hg0,hgd,hb2]; rfl))
  ·have:g=0:=by omega
   subst this
   exact key (by rw [hb]; rfl)
 ·apply Zdh.A2x0i
  have:g=n:=by omega
  subst this
  have hok:Zja cs=decide (1≤g∧g≤4):=by unfold Zja; rw [hl,hk,Bool.true_and]
  refine Ynb.mono ?_
  rintro v h2 ⟨rfl,rfl⟩
  simp only [Zap]
  refine ⟨?_,hS⟩
  rw [hok]; congr 1; rw [Bool.eq_iff_iff]; simp; omega
end Go.Sim

set_option linter.unusedVariables false
set_option linter.unusedSimpArgs false
set_option maxRecDepth 20000
namespace Go.Sim
open Go Go.RowKit

theorem Ysj (c:Nat):decide (c∈[120,121,122,88,89,90])=Zbd c:=by rw [Bool.eq_iff_iff]; simp [Zbd,or_assoc]
theorem Ztr {h:Zaa} (s:List Nat):Zah pg Zea [.str s] h fun v h'=>v=.bool (Zrx s)∧h'=h:=by
 apply Zvk.call
 match s with
 | []=>exact Zcs (fun h1=>by simp at h1) (fun h1=>⟨rfl,rfl⟩)
 | [c]=>
  refine Zcs (fun h1=>?_) (fun h1=>by simp at h1)
  refine Znd.mono ?_
  rintro v h' ⟨rfl,rfl⟩
  simp only [Zap]
  exact ⟨by rw [Ysj]; rfl,by trivial⟩
 | c :: d :: r=>exact Zcs (fun h1=>by simp at h1; omega) (fun h1=>⟨rfl,rfl⟩)
theorem Zsw {h:Zaa} (c:Nat):Zah pg Zih [.int .u8 (c:Int)] h fun v h'=>v=.bool (Zbd c)∧h'=h:=by
 apply Znx.call
 refine (Yan _ c (by simp)).mono ?_
 rintro v h' ⟨rfl,rfl⟩
 simp only [Zaq]
 exact ⟨by rw [Yrv],by trivial⟩
noncomputable def Yqr (s v:List Nat):Int:=if Zkg s && Zrx v then (s.count (v.headD 0):Nat) else -1
theorem Ycs {h:Zaa} (s v:List Nat) (hs:s.length≤1048576):Zah pg Zme [.str s,.str v] h fun x h'=>x=.int .i64 (Yqr s v)∧Zbe h.length h h':=by
 apply Zff.call
 refine (Zjj s (by omega) h).mono ?_
 rintro x h1 ⟨rfl,s1⟩
 simp only [Zap]
 refine Zcq (fun hb=>⟨by unfold Yqr; rw [hb]; rfl,s1⟩) (fun hb=>?_)
 match v with
 | []=>exact Zgi (fun _=>⟨by unfold Yqr; rw [hb]; rfl,s1⟩) (fun h1=>by simp at h1)
 | c :: d :: r=>exact Zgi (fun _=>⟨by unfold Yqr; rw [hb]; rfl,s1⟩) (fun h1=>by simp at h1; omega)
 | [c]=>
  refine Zgi (fun h1=>by simp at h1) (fun _=>?_)
  refine ⟨⟨by omega,by simp⟩,?_⟩
  simp only [Int.toNat_zero,List.getD_cons_zero]
  refine (Zsw c).mono ?_
  rintro x h2 ⟨rfl,rfl⟩
  simp only [Zap]
  refine Zcq (fun hv=>⟨by unfold Yqr; rw [hb,show Zrx [c]=Zbd c from rfl,hv]; rfl,s1⟩) (fun hv=>?_)
  apply Zff.J3i
  refine Zff.L5ind _ _ _ _ (J:=fun (g:Nat) x5 x23 h'=>x23=(g:Int)∧g≤s.length∧x5=((s.take g).count c:Nat)∧h'=h2) (fun g=>s.length - g) ?_ 0 _ _ _ ⟨rfl,by omega,by simp,rfl⟩
  rintro g x5 x23 h' ⟨rfl,hg,rfl,rfl⟩ R hR
  unfold Zff.L5t
  refine Zav (fun hlt=>?_) (fun hge=>?_)
  ·have hg':g < s.length:=by omega
   refine ⟨⟨by omega,by omega⟩,⟨by omega,by simp⟩,?_⟩
   simp only [Int.toNat_zero,List.getD_cons_zero,Int.toNat_natCast,Zkf hg']
   have hc:=List.count_le_length (a:=c) (l:=s.take g)
   rw [List.length_take] at hc
   have htk:(s.take (g + 1)).count c=(s.take g).count c + if s[g]=c then 1 else 0:=by
    rw [List.take_succ_eq_append_getElem hg',List.count_append]; simp [List.count_cons]
   refine Zcs (fun he=>?_) (fun he=>?_)
   ·apply Zff.J9i
    rw [Zbt (by omega),Zbt (by omega)]
    exact hR (g + 1) _ _ _ (by omega) ⟨rfl,by omega,by rw [htk,if_pos (by omega)],rfl⟩
   ·apply Zff.J9i
    rw [Zbt (by omega)]
    exact hR (g + 1) _ _ _ (by omega) ⟨rfl,by omega,by rw [htk,if_neg (by omega)]; rfl,rfl⟩
  ·apply Zff.A5x0i
   have:g=s.length:=by omega
   subst this
   rw [List.take_length]
   refine ⟨?_,s1⟩
   unfold Yqr
   rw [hb,show Zrx [c]=Zbd c from rfl,hv]; rfl
theorem Zrp {h:Zaa} (s:List Nat) (hs:s.length≤1048576):Zah pg Zfw [.str s] h fun v h'=>v=.str (if Zkg s=true then Zjy s else [])∧Zbe h.length h h':=by
 apply Zgt.call
 simp only [Zax]
 have hlist:(h ++ [Zcc.cells Zbg [.str [88],.str [89],.str [90],.str [120],.str [121],.str [122]] false])[h.length]?=some (.cells Zbg [.str [88],.str [89],.str [90],.str [120],.str [121],.str [122]] false):=by simp
 refine Zgt.L3ind _ _ _ _ _ _ _ (J:=fun (g:Nat) x3 x8 h'=>x8=(g:Int)∧g≤6∧Zbe h.length h h'∧h'[h.length]?=some (.cells Zbg [.str [88],.str [89],.str [90],.str [120],.str [121],.str [122]] false)∧x3=if Zkg s=true then (Zef.take g).filter fun v=>decide (v∈s) else []) (fun g=>6 - g) ?_ 0 _ _ _
  ⟨rfl,by omega,Zao,hlist,by simp⟩
 rintro g x3 x8 h' ⟨rfl,hg,hS,hl,rfl⟩ R hR
 unfold Zgt.L3t
 refine Zav (fun hlt=>?_) (fun hge=>?_)
 ·have hlt':g < 6:=by omega
  have hc:∃ c,Zef[g]?=some c∧Zbd c=true∧Zai h' (.ptr (some (h.length,0 + (g:Int).toNat * 1)))=some (.str [c]):=by
   rw [Zak hl,Int.toNat_natCast]
   match g,hlt' with
   | 0,_ | 1,_ | 2,_ | 3,_ | 4,_ | 5,_=>exact ⟨_,rfl,rfl,rfl⟩
  obtain ⟨c,hc1,hcv,hc2⟩:=hc
  simp only [Zaw,hc2,Zam]
  refine ⟨by omega,(Ycs s [c] hs).mono ?_⟩
  rintro v h2 ⟨rfl,s2⟩
  simp only [Zaq]
  have htk:Zef.take (g + 1)=Zef.take g ++ [c]:=by rw [List.take_succ,hc1]; rfl
  have hS2:=hS.trans (s2.mono hS.le)
  have hl2:h2[h.length]?=some (.cells Zbg [.str [88],.str [89],.str [90],.str [120],.str [121],.str [122]] false):=by rw [s2.eq _ (Own.lt hl)]; exact hl
  have hcn:decide (Yqr s [c] > 0)=(Zkg s && decide (c∈s)):=by
   unfold Yqr
   rw [show Zrx [c]=Zbd c from rfl,hcv]
   cases hb:Zkg s with
   | false=>rfl
   | true=>
    simp only [Bool.and_self,if_true,Bool.true_and,List.headD_cons]
    rw [Bool.eq_iff_iff]; simp [List.count_pos_iff]
  have hbd:(if Zkg s=true then (Zef.take g).filter fun v=>decide (v∈s) else []).length≤6:=by
   split
   ·exact Nat.le_trans (List.length_filter_le _ _) (by simp; omega)
   ·simp
  rw [hcn]
  refine Zdb (fun hb=>?_) (fun hb=>?_)
  ·simp only [Bool.and_eq_true] at hb
   refine ⟨by simp only [List.length_cons,List.length_nil]; omega,?_⟩
   apply Zgt.J7i
   rw [Zbt (by omega)]
   refine hR (g + 1) _ _ _ (by omega) ⟨rfl,by omega,hS2,hl2,?_⟩
   rw [if_pos hb.1,if_pos hb.1,htk,List.filter_append]; simp [hb.2]
  ·apply Zgt.J7i
   rw [Zbt (by omega)]
   refine hR (g + 1) _ _ _ (by omega) ⟨rfl,by omega,hS2,hl2,?_⟩
   cases ht:Zkg s with
   | false=>simp
   | true=>rw [ht,Bool.true_and] at hb; rw [htk,List.filter_append]; simp; simpa using hb
 ·apply Zgt.A3x0i
  have:g=6:=by omega
  subst this
  exact ⟨rfl,hS⟩
theorem Ynn {h:Zaa} (x y:List Nat) (hx:x.length≤1048576) (hy:y.length≤1048576):Zah pg Zmh [.str x,.str y] h fun v h'=>v=.bool (x.all fun c=>decide (c∈y))∧h'=h:=by
 apply Zhg.call
 refine Zhg.L2ind _ _ _ _ (J:=fun (g:Nat) x8 h'=>x8=(g:Int)∧g≤x.length∧h'=h∧(x.take g).all (fun c=>decide (c∈y))=true) (fun g=>x.length - g) ?_ 0 _ _ ⟨rfl,by omega,rfl,by simp⟩
 rintro g x8 h' ⟨rfl,hg,rfl,hk⟩ R hR
 unfold Zhg.L2t
 refine Zav (fun hlt=>?_) (fun hge=>?_)
 ·have hg':g < x.length:=by omega
  refine ⟨⟨by omega,by omega⟩,?_⟩
  simp only [Int.toNat_natCast,Zkf hg']
  refine (Yan y x[g] (by omega)).mono ?_
  rintro v h2 ⟨rfl,rfl⟩
  simp only [Zaq]
  have hix:decide (Zqx y x[g] < 0)=!decide (x[g]∈y):=by
   by_cases hm:x[g]∈y
   ·have:=(Yas y x[g]).2 hm
    simp [hm]; omega
   ·rw [Zuu hm]; simp [hm]
  rw [hix]
  refine Zcq (fun hb=>⟨by rw [Zuj hg' hb],by trivial⟩) (fun hb=>?_)
  rw [Zbt (by omega)]
  exact hR (g + 1) _ _ (by omega) ⟨rfl,by omega,rfl,Zhz hg' hk hb⟩
 ·apply Zhg.A2x0i
  have:g=x.length:=by omega
  subst this
  rw [List.take_length] at hk
  exact ⟨by rw [hk],by trivial⟩

theorem Yhr {cs:List Nd} {ct tt:List Nat} {ns:List Nd} (h1:Zja cs=true) (h2:Zgl cs ct=true) (h3:Zkg tt=true) (h4:tt.length≤20) (h5:Zrx tt=false) (h6:ns.length≤3):Zlw cs ((ct,tt),ns)=ns.all (Zin cs tt):=by
 unfold Zlw; simp [h1,h2,h3,h4,h5,h6]
theorem Zvv {h:Zaa} {a a1 a2:Pt} {n c n1 c1 n2 c2:Nat} {e e1 e2:Bool} {cs ns:List Nd} {ct tt:List Nat} (r:Row h.length h a (n * 2) (Zdq eP cs)) (hc:n≤c) (hn:n≤1048576) (hs:∀ p∈cs,p.2.length≤1048576)
  (r2:Row h.length h a2 (n2 * 2) (Zdq eP ns)) (hn2:n2≤1048576) (hns:∀ p∈ns,p.2.length≤1048576) (htt:tt.length≤1048576) :
  Zah pg Zij [.agg [.slice a n c e,.slice a1 n1 c1 e1],.agg [.str ct,.str tt,.slice a2 n2 c2 e2]] h fun v h'=>v=.bool (Zlw cs ((ct,tt),ns))∧Zbe h.length h h':=by
 have hl:cs.length=n:=by have:=r.1; rw [Zay Zfp] at this; omega
 have hl2:ns.length=n2:=by have:=r2.1; rw [Zay Zfp] at this; omega
 apply Zcx.call
 simp only [Zax]
 generalize hh0:h ++ [Zcc.cells Zad [.slice a n c e,.slice a1 n1 c1 e1] false]=h0
 generalize hh1:h0 ++ [Zcc.cells Zac [.str ct,.str tt,.slice a2 n2 c2 e2] false]=h1
 have s0:Zbe h.length h h0:=by rw [← hh0]; exact Zao
 have s01:Zbe h0.length h0 h1:=by rw [← hh1]; exact Zao
 have s1:Zbe h.length h h1:=s0.trans (s01.mono s0.le)
 have hl0:h0.length=h.length + 1:=by rw [← hh0]; simp
 have hl1:h1.length=h.length + 2:=by rw [← hh1]; simp [hl0]
 have w1:h1[h.length]?=some (.cells Zad [.slice a n c e,.slice a1 n1 c1 e1] false):=by rw [← hh1,Ycn (by omega),← hh0]; simp
 have i1:h1[h0.length]?=some (.cells Zac [.str ct,.str tt,.slice a2 n2 c2 e2] false):=by rw [← hh1]; simp
 rw [Zed w1 (by simp)]
 simp only [List.drop_zero,List.take_succ_cons,List.take_zero,Zau,Zaj,Zaf,Zar]
 refine (Zvc (r.same' s1) hc hn hs).mono ?_
 rintro v h2 ⟨rfl,s2⟩
 have S2:Zbe h.length h h2:=s1.trans (s2.mono (by omega))
 have w2:h2[h.length]?=some (.cells Zad [.slice a n c e,.slice a1 n1 c1 e1] false):=by rw [s2.eq _ (by omega)]; exact w1
 have i2:h2[h0.length]?=some (.cells Zac [.str ct,.str tt,.slice a2 n2 c2 e2] false):=by rw [s2.eq _ (by omega)]; exact i1
 simp only [Zap]
 refine Zcq (fun hb=>⟨by unfold Zlw; rw [hb]; rfl,S2⟩) (fun b1=>?_)
 simp only [Nat.add_zero,Nat.zero_add,Zak w2,Zak i2,List.getElem?_cons_succ,List.getElem?_cons_zero,Zaf,Zam]
 refine (Zwd (r.same' S2) (by omega)).mono ?_
 rintro v h3 ⟨rfl,s3⟩
 have hle2:=s2.le
 have S3:Zbe h.length h h3:=S2.trans (s3.mono S2.le)
 have i3:h3[h0.length]?=some (.cells Zac [.str ct,.str tt,.slice a2 n2 c2 e2] false):=by rw [s3.eq _ (by omega)]; exact i2
 have w3:h3[h.length]?=some (.cells Zad [.slice a n c e,.slice a1 n1 c1 e1] false):=by rw [s3.eq _ (by omega)]; exact w2
 simp only [Zap]
 refine Zcq (fun hb=>⟨by unfold Zlw; rw [b1,hb]; rfl,S3⟩) (fun b2=>?_)
 simp only [Zak i3,List.getElem?_cons_succ,List.getElem?_cons_zero,Zam]
 refine (Zhk tt h3).mono ?_
 rintro v h4 ⟨rfl,s4⟩
 have hle3:=s3.le
 have S4:Zbe h.length h h4:=S3.trans (s4.mono S3.le)
 have i4:h4[h0.length]?=some (.cells Zac [.str ct,.str tt,.slice a2 n2 c2 e2] false):=by rw [s4.eq _ (by omega)]; exact i3
 have w4:h4[h.length]?=some (.cells Zad [.slice a n c e,.slice a1 n1 c1 e1] false):=by rw [s4.eq _ (by omega)]; exact w3
 simp only [Zap]
 refine Zcq (fun hb=>⟨by unfold Zlw; rw [b1,b2,hb]; rfl,S4⟩) (fun b3=>?_)
 simp only [Zak i4,List.getElem?_cons_succ,List.getElem?_cons_zero,Zam]
 refine Zav (fun hb=>⟨by unfold Zlw; rw [b1,b2,b3]; simp [show ¬ tt.length≤20 by omega],S4⟩) (fun b4=>?_)
 refine (Ztr tt).mono ?_
 rintro v h5 ⟨rfl,rfl⟩
 simp only [Zap]
 refine Zdb (fun hb=>⟨by unfold Zlw; rw [hb]; simp,S4⟩) (fun b5=>?_)
 simp only [Zak i4,List.getElem?_cons_succ,List.getElem?_cons_zero,Zaf]
 refine Zav (fun hb=>⟨by unfold Zlw; simp [show ¬ ns.length≤3 by omega],S4⟩) (fun b6=>?_)
 rw [Yhr b1 b2 b3 (by omega) b5 (by omega)]
 apply Zcx.J3i
 simp only [Nat.zero_add,Zak i4,List.getElem?_cons_succ,List.getElem?_cons_zero,Zaf]
 have hle4:=s4.le
 refine Zcx.L4ind _ _ _ _ _ _ _ _ _ _ (J:=fun (g:Nat) x50 h'=>x50=(g:Int)∧g≤n2∧Zbe h5.length h5 h'∧(ns.take g).all (Zin cs tt)=true) (fun g=>n2 - g) ?_ 0 _ _ ⟨rfl,by omega,Zbe.refl _ _,rfl⟩
 rintro g x50 h' ⟨rfl,hg,hS,hk⟩ R hR
 have SS:Zbe h.length h h':=S4.trans (hS.mono S4.le)
 unfold Zcx.L4t
 refine Zav (fun hlt=>?_) (fun hge=>?_)
 ·obtain ⟨i,o,hgl,rfl,hil,hr,_⟩:=(r2.same SS).pr (k:=g) (by omega)
  simp only [Zaw,Int.toNat_natCast,hr,Zau,Zaj,Zar,Zam,Zax]
  rw [Zgk]
  have hlh:=hS.le
  generalize hq:h' ++ [Zcc.cells Zae [.str ns[g].1,.str ns[g].2] false]=hq'
  have sq:Zbe h'.length h' hq':=by rw [← hq]; exact Zao
  have hql:hq'.length=h'.length + 1:=by rw [← hq]; simp
  have nq:hq'[h'.length]?=some (.cells Zae [.str ns[g].1,.str ns[g].2] false):=by rw [← hq]; simp
  have wq:hq'[h.length]?=some (.cells Zad [.slice a n c e,.slice a1 n1 c1 e1] false):=by rw [sq.eq _ (by omega),hS.eq _ (by omega)]; exact w4
  have iq:hq'[h0.length]?=some (.cells Zac [.str ct,.str tt,.slice (some (i,o)) n2 c2 e2] false):=by rw [sq.eq _ (by omega),hS.eq _ (by omega)]; exact i4
  simp only [Zat,Nat.add_zero,Nat.zero_add,Zak wq,Zak nq,List.getElem?_cons_succ,List.getElem?_cons_zero,Zaf,Zam]
  have Sq:Zbe h.length h hq':=SS.trans (sq.mono SS.le)
  refine ⟨by omega,(Zwd (r.same' Sq) (by omega)).mono ?_⟩
  rintro v k3 ⟨rfl,t3⟩
  have T3:=Sq.trans (t3.mono Sq.le)
  have n3:k3[h'.length]?=some (.cells Zae [.str ns[g].1,.str ns[g].2] false):=by rw [t3.eq _ (by omega)]; exact nq
  simp only [Zap]
  have fail:∀ hx,Zbe h.length h hx→Zin cs tt ns[g]=false→(Zas.bool false=Zas.bool (ns.all (Zin cs tt))∧Zbe h.length h hx):=fun hx hs hf=>⟨by rw [Zuj hgl hf],hs⟩
  refine Zcq (fun hb=>fail _ T3 (by unfold Zin; rw [hb]; rfl)) (fun m1=>?_)
  simp only [Zak n3,List.getElem?_cons_succ,List.getElem?_cons_zero,Zam]
  refine (Zhk _ k3).mono ?_
  rintro v k4 ⟨rfl,t4⟩
  have ht3:=t3.le
  have T4:=T3.trans (t4.mono T3.le)
  have n4:k4[h'.length]?=some (.cells Zae [.str ns[g].1,.str ns[g].2] false):=by rw [t4.eq _ (by omega)]; exact n3
  simp only [Zap]
  refine Zcq (fun hb=>fail _ T4 (by unfold Zin; rw [m1,hb]; rfl)) (fun m2=>?_)
  simp only [Zak n4,List.getElem?_cons_succ,List.getElem?_cons_zero,Zam]
  refine Zav (fun hb=>fail _ T4 (by unfold Zin; simp [show ¬ ns[g].2.length≤20 by omega])) (fun m3=>?_)
  apply Zcx.J8i
  simp only [Nat.zero_add,Zak n4,List.getElem?_cons_succ,List.getElem?_cons_zero,Zam]
  refine (Ymb _ k4).mono ?_
  rintro v k5 ⟨t5,av,nv,cv,ev,rfl,hrow⟩
  simp only [Zaf]
  have ht4:=t4.le
  have ht5:=t5.le
  have T5:=T4.trans (t5.mono T4.le)
  have hvl:(Zjy ns[g].2).length=nv:=by have:=hrow.1; simpa using this
  have hv6:(Zjy ns[g].2).length≤6:=List.length_filter_le _ _
  have hni:Zin cs tt ns[g]=(Zjy ns[g].2).all fun v=>decide (v∈tt):=by unfold Zin; rw [m1,m2]; simp [show ns[g].2.length≤20 by omega]
  have i5:k5[h0.length]?=some (.cells Zac [.str ct,.str tt,.slice (some (i,o)) n2 c2 e2] false):=by rw [t5.eq _ (by omega),t4.eq _ (by omega),t3.eq _ (by omega)]; exact iq
  refine Zcx.L9ind _ _ _ _ _ _ _ _ _ _ _ _ _ _ _ _ _ (J:=fun (q:Nat) x76 h6=>x76=(q:Int)∧q≤nv∧h6=k5∧((Zjy ns[g].2).take q).all (fun v=>decide (v∈tt))=true) (fun q=>nv - q) ?_ 0 _ _ ⟨rfl,by omega,rfl,rfl⟩
  rintro q x76 h6 ⟨rfl,hq6,rfl,hk6⟩ R9 hR9
  unfold Zcx.L9t
  refine Zav (fun hlt6=>?_) (fun hge6=>?_)
  ·obtain ⟨iv,ov,rfl,_,hcv⟩:=hrow.at (k:=q) (by omega)
   rw [Yhd,List.getElem?_map,List.getElem?_eq_getElem (show q < (Zjy ns[g].2).length by omega)] at hcv
   simp only [Option.map_some] at hcv
   simp only [Zaw,Int.toNat_natCast,Nat.mul_one,hcv,Zam,Nat.add_zero,Nat.zero_add,Zak i5,List.getElem?_cons_succ,List.getElem?_cons_zero,one]
   refine ⟨by omega,Znd.mono ?_⟩
   rintro v k7 ⟨rfl,rfl⟩
   simp only [Zap]
   refine Zcq (fun hb=>fail _ T5 (by rw [hni]; exact Zuj (by omega) hb)) (fun d1=>?_)
   rw [Zbt (by omega)]
   exact hR9 (q + 1) _ _ (by omega) ⟨rfl,by omega,rfl,Zhz (by omega) hk6 d1⟩
  ·apply Zcx.A9x2i
   apply Zcx.J14i
   have:q=nv:=by omega
   subst this
   rw [List.take_of_length_le (by omega)] at hk6
   rw [Zbt (by omega)]
   refine hR (g + 1) _ _ (by omega) ⟨rfl,by omega,?_,Zhz hgl hk (by rw [hni]; exact hk6)⟩
   exact hS.trans ((sq.mono hS.le).trans ((t3.mono (by omega)).trans ((t4.mono (by omega)).trans (t5.mono (by omega)))))
 ·apply Zcx.A4x0i
  have:g=n2:=by omega
  subst this
  rw [List.take_of_length_le (by omega)] at hk
  exact ⟨by rw [hk],SS⟩
end Go.Sim

set_option linter.unusedVariables false
set_option linter.unusedSimpArgs false
set_option maxRecDepth 20000
namespace Go.Sim
open Go Go.RowKit

theorem Yfu (x t:List Nat):((Zjy x).all fun c=>decide (c∈Zjy t))=(Zjy x).all fun c=>decide (c∈t):=by
 rw [Bool.eq_iff_iff,List.all_eq_true,List.all_eq_true]
 constructor
 ·intro h c hc
  have:=h c hc
  simp only [Zjy,decide_eq_true_eq,List.mem_filter] at this ⊢
  exact this.2
 ·intro h c hc
  have h1:=h c hc
  have hv:c∈Zef:=(List.mem_filter.1 hc).1
  simp only [Zjy,decide_eq_true_eq,List.mem_filter] at h1 ⊢
  exact ⟨hv,h1⟩
theorem Zur {h:Zaa} {a a1 a2:Pt} {n c n1 c1 n2 c2:Nat} {e e1 e2:Bool} {cs ns:List Nd} {ct tt:List Nat} (r:Row h.length h a (n * 2) (Zdq eP cs)) (hc:n≤c) (hn:n≤1048576) (hs:∀ p∈cs,p.2.length≤1048576) (hb256:∀ p∈cs,∀ b∈p.1,b < 256)
  (r2:Row h.length h a2 (n2 * 2) (Zdq eP ns)) (hn2:n2≤1048576) (hns:∀ p∈ns,p.2.length≤1048576) (htt:tt.length≤1048576) :
  Zah pg Zii [.agg [.slice a n c e,.slice a1 n1 c1 e1],.agg [.str ct,.str tt,.slice a2 n2 c2 e2]] h fun v h'=>v=.bool (Zlw cs ((ct,tt),ns))∧Zbe h.length h h':=by
 have hl:cs.length=n:=by have:=r.1; rw [Zay Zfp] at this; omega
 have hl2:ns.length=n2:=by have:=r2.1; rw [Zay Zfp] at this; omega
 apply Zee.call
 simp only [Zax]
 generalize hh0:h ++ [Zcc.cells Zad [.slice a n c e,.slice a1 n1 c1 e1] false]=h0
 generalize hh1:h0 ++ [Zcc.cells Zac [.str ct,.str tt,.slice a2 n2 c2 e2] false]=h1
 have s0:Zbe h.length h h0:=by rw [← hh0]; exact Zao
 have s01:Zbe h0.length h0 h1:=by rw [← hh1]; exact Zao
 have s1:Zbe h.length h h1:=s0.trans (s01.mono s0.le)
 have hl0:h0.length=h.length + 1:=by rw [← hh0]; simp
 have hl1:h1.length=h.length + 2:=by rw [← hh1]; simp [hl0]
 have w1:h1[h.length]?=some (.cells Zad [.slice a n c e,.slice a1 n1 c1 e1] false):=by rw [← hh1,Ycn (by omega),← hh0]; simp
 have i1:h1[h0.length]?=some (.cells Zac [.str ct,.str tt,.slice a2 n2 c2 e2] false):=by rw [← hh1]; simp
 simp only [Nat.add_zero,Zak w1,List.getElem?_cons_zero,Zaf]
 refine (Zvl (r.same' s1) hc hn hs hb256).mono ?_
 rintro v h2 ⟨rfl,s2⟩
 have S2:Zbe h.length h h2:=s1.trans (s2.mono (by omega))
 have w2:h2[h.length]?=some (.cells Zad [.slice a n c e,.slice a1 n1 c1 e1] false):=by rw [s2.eq _ (by omega)]; exact w1
 have i2:h2[h0.length]?=some (.cells Zac [.str ct,.str tt,.slice a2 n2 c2 e2] false):=by rw [s2.eq _ (by omega)]; exact i1
 simp only [Zap]
 refine Zcq (fun hb=>⟨by unfold Zlw; rw [hb]; rfl,S2⟩) (fun b1=>?_)
 rw [Zed w2 (by simp)]
 simp only [List.drop_zero,List.take_succ_cons,List.take_zero,Zau,Zaj,Zar,Nat.zero_add,Zak i2,List.getElem?_cons_succ,List.getElem?_cons_zero,Zaf,Zam]
 refine (Zrj (r.same' S2) (by omega)).mono ?_
 rintro v h3 ⟨rfl,s3⟩
 have hle2:=s2.le
 have S3:Zbe h.length h h3:=S2.trans (s3.mono S2.le)
 have i3:h3[h0.length]?=some (.cells Zac [.str ct,.str tt,.slice a2 n2 c2 e2] false):=by rw [s3.eq _ (by omega)]; exact i2
 have w3:h3[h.length]?=some (.cells Zad [.slice a n c e,.slice a1 n1 c1 e1] false):=by rw [s3.eq _ (by omega)]; exact w2
 simp only [Zaq,Zwv]
 refine Zcq (fun hb=>⟨by unfold Zlw; rw [b1,hb]; rfl,S3⟩) (fun b2=>?_)
 simp only [Zak i3,List.getElem?_cons_succ,List.getElem?_cons_zero,Zam]
 refine (Zjj tt (by omega) h3).mono ?_
 rintro v h4 ⟨rfl,s4⟩
 have hle3:=s3.le
 have S4:Zbe h.length h h4:=S3.trans (s4.mono S3.le)
 have i4:h4[h0.length]?=some (.cells Zac [.str ct,.str tt,.slice a2 n2 c2 e2] false):=by rw [s4.eq _ (by omega)]; exact i3
 have w4:h4[h.length]?=some (.cells Zad [.slice a n c e,.slice a1 n1 c1 e1] false):=by rw [s4.eq _ (by omega)]; exact w3
 simp only [Zap]
 refine Zcq (fun hb=>⟨by unfold Zlw; rw [b1,b2,hb]; rfl,S4⟩) (fun b3=>?_)
 simp only [Zak i4,List.getElem?_cons_succ,List.getElem?_cons_zero,Zam]
 refine Zav (fun hb=>⟨by unfold Zlw; rw [b1,b2,b3]; simp [show ¬ tt.length≤20 by omega],S4⟩) (fun b4=>?_)
 have hvh:=Ytg b3
 have hne:=Ykn b3
 have htl:0 < tt.length:=by cases tt with | nil=>exact absurd rfl hne | cons=>simp
 refine ⟨⟨by omega,by omega⟩,?_⟩
 have hgd:tt.getD (Int.toNat 0) 0=tt.headD 0:=by cases tt <;> rfl
 rw [hgd]
 refine (Zsw _).mono ?_
 rintro v h5 ⟨rfl,rfl⟩
 simp only [Zap,← hvh]
 refine Zdb (fun hb=>⟨by unfold Zlw; rw [hb]; simp,S4⟩) (fun b5=>?_)
 simp only [Zak i4,List.getElem?_cons_succ,List.getElem?_cons_zero,Zaf]
 refine Zav (fun hb=>⟨by unfold Zlw; simp [show ¬ ns.length≤3 by omega],S4⟩) (fun b6=>?_)
 rw [Yhr b1 b2 b3 (by omega) b5 (by omega)]
 apply Zee.J3i
 simp only [Nat.zero_add,Zak i4,List.getElem?_cons_succ,List.getElem?_cons_zero,Zaf]
 have hle4:=s4.le
 refine Zee.L4ind _ _ _ _ _ _ _ _ _ _ (J:=fun (g:Nat) x50 h'=>x50=(g:Int)∧g≤n2∧Zbe h5.length h5 h'∧(ns.take g).all (Zin cs tt)=true) (fun g=>n2 - g) ?_ 0 _ _ ⟨rfl,by omega,Zbe.refl _ _,rfl⟩
 rintro g x50 h' ⟨rfl,hg,hS,hk⟩ R hR
 have SS:Zbe h.length h h':=S4.trans (hS.mono S4.le)
 unfold Zee.L4t
 refine Zav (fun hlt=>?_) (fun hge=>?_)
 ·obtain ⟨i,o,hgl,rfl,hil,hr,_⟩:=(r2.same SS).pr (k:=g) (by omega)
  simp only [Zaw,Int.toNat_natCast,hr,Zau,Zaj,Zar,Zam,Zax]
  rw [Zgk]
  have hlh:=hS.le
  generalize hq:h' ++ [Zcc.cells Zae [.str ns[g].1,.str ns[g].2] false]=hq'
  have sq:Zbe h'.length h' hq':=by rw [← hq]; exact Zao
  have hql:hq'.length=h'.length + 1:=by rw [← hq]; simp
  have nq:hq'[h'.length]?=some (.cells Zae [.str ns[g].1,.str ns[g].2] false):=by rw [← hq]; simp
  have wq:hq'[h.length]?=some (.cells Zad [.slice a n c e,.slice a1 n1 c1 e1] false):=by rw [sq.eq _ (by omega),hS.eq _ (by omega)]; exact w4
  have iq:hq'[h0.length]?=some (.cells Zac [.str ct,.str tt,.slice (some (i,o)) n2 c2 e2] false):=by rw [sq.eq _ (by omega),hS.eq _ (by omega)]; exact i4
  have row:∀ {hx:Zaa},hx[h.length]?=some (.cells Zad [.slice a n c e,.slice a1 n1 c1 e1] false)→Zan hx (.ptr (some (h.length,0))) 2=some [.slice a n c e,.slice a1 n1 c1 e1]:=fun w=>by rw [Zed w (by simp)]; rfl
  simp only [Zat,Nat.add_zero,Nat.zero_add,row wq,Zak nq,List.getElem?_cons_succ,List.getElem?_cons_zero,Zau,Zaj,Zar,Zaf,Zam,true_and]
  have Sq:Zbe h.length h hq':=SS.trans (sq.mono SS.le)
  refine ⟨by omega,(Zrj (r.same' Sq) (by omega)).mono ?_⟩
  rintro v k3 ⟨rfl,t3⟩
  have T3:=Sq.trans (t3.mono Sq.le)
  have n3:k3[h'.length]?=some (.cells Zae [.str ns[g].1,.str ns[g].2] false):=by rw [t3.eq _ (by omega)]; exact nq
  have w3':k3[h.length]?=some (.cells Zad [.slice a n c e,.slice a1 n1 c1 e1] false):=by rw [t3.eq _ (by omega)]; exact wq
  have i3':k3[h0.length]?=some (.cells Zac [.str ct,.str tt,.slice (some (i,o)) n2 c2 e2] false):=by rw [t3.eq _ (by omega)]; exact iq
  have ht3:=t3.le
  simp only [Zaq,Zwv,row w3',Zak n3,List.getElem?_cons_succ,List.getElem?_cons_zero,Zam,true_and]
  have fail:∀ hx,Zbe h.length h hx→Zin cs tt ns[g]=false→(Zas.bool false=Zas.bool (ns.all (Zin cs tt))∧Zbe h.length h hx):=fun hx hs hf=>⟨by rw [Zuj hgl hf],hs⟩
  refine Zcq (fun hb=>fail _ T3 (by unfold Zin; rw [hb]; rfl)) (fun m1=>?_)
  have hnl:=hns ns[g] (List.getElem_mem hgl)
  refine (Zjj _ (by omega) k3).mono ?_
  rintro v k4 ⟨rfl,t4⟩
  have T4:=T3.trans (t4.mono T3.le)
  have ht4:=t4.le
  have n4:k4[h'.length]?=some (.cells Zae [.str ns[g].1,.str ns[g].2] false):=by rw [t4.eq _ (by omega)]; exact n3
  have w4':k4[h.length]?=some (.cells Zad [.slice a n c e,.slice a1 n1 c1 e1] false):=by rw [t4.eq _ (by omega)]; exact w3'
  have i4':k4[h0.length]?=some (.cells Zac [.str ct,.str tt,.slice (some (i,o)) n2 c2 e2] false):=by rw [t4.eq _ (by omega)]; exact i3'
  simp only [Zap,row w4',Zak n4,Zak i4',List.getElem?_cons_succ,List.getElem?_cons_zero,Zam,true_and]
  refine Zcq (fun hb=>fail _ T4 (by unfold Zin; rw [m1,hb]; rfl)) (fun m2=>?_)
  refine Zav (fun hb=>fail _ T4 (by unfold Zin; simp [show ¬ ns[g].2.length≤20 by omega])) (fun m3=>?_)
  refine (Zrp _ hnl).mono ?_
  rintro v k5 ⟨rfl,t5⟩
  have T5:=T4.trans (t5.mono T4.le)
  have ht5:=t5.le
  have n5:k5[h'.length]?=some (.cells Zae [.str ns[g].1,.str ns[g].2] false):=by rw [t5.eq _ (by omega)]; exact n4
  have w5':k5[h.length]?=some (.cells Zad [.slice a n c e,.slice a1 n1 c1 e1] false):=by rw [t5.eq _ (by omega)]; exact w4'
  have i5':k5[h0.length]?=some (.cells Zac [.str ct,.str tt,.slice (some (i,o)) n2 c2 e2] false):=by rw [t5.eq _ (by omega)]; exact i4'
  simp only [row w5',Zak n5,Zak i5',List.getElem?_cons_succ,List.getElem?_cons_zero,Zam,true_and]
  refine (Zrp _ htt).mono ?_
  rintro v k6 ⟨rfl,t6⟩
  have T6:=T5.trans (t6.mono T5.le)
  have ht6:=t6.le
  have n6:k6[h'.length]?=some (.cells Zae [.str ns[g].1,.str ns[g].2] false):=by rw [t6.eq _ (by omega)]; exact n5
  have w6':k6[h.length]?=some (.cells Zad [.slice a n c e,.slice a1 n1 c1 e1] false):=by rw [t6.eq _ (by omega)]; exact w5'
  have i6':k6[h0.length]?=some (.cells Zac [.str ct,.str tt,.slice (some (i,o)) n2 c2 e2] false):=by rw [t6.eq _ (by omega)]; exact i5'
  simp only [row w6',Zak n6,Zak i6',List.getElem?_cons_succ,List.getElem?_cons_zero,Zam,true_and]
  rw [if_pos m2,if_pos b3]
  have hvb:∀ s,(Zjy s).length≤6:=fun s=>List.length_filter_le _ _
  have hv1:=hvb ns[g].2
  have hv2:=hvb tt
  refine (Ynn _ _ (by omega) (by omega)).mono ?_
  rintro v k7 ⟨rfl,rfl⟩
  have hni:Zin cs tt ns[g]=(Zjy ns[g].2).all fun v=>decide (v∈tt):=by unfold Zin; rw [m1,m2]; simp [show ns[g].2.length≤20 by omega]
  simp only [Zap,row w6',Zak n6,Zak i6',List.getElem?_cons_succ,List.getElem?_cons_zero,Zam,true_and,Yfu,← hni]
  refine Zcq (fun hb=>fail _ T6 hb) (fun m4=>?_)
  apply Zee.J8i
  rw [Zbt (by omega)]
  refine hR (g + 1) _ _ (by omega) ⟨rfl,by omega,?_,Zhz hgl hk m4⟩
  exact hS.trans ((sq.mono hS.le).trans ((t3.mono (by omega)).trans ((t4.mono (by omega)).trans ((t5.mono (by omega)).trans (t6.mono (by omega))))))
 ·apply Zee.A4x0i
  have:g=n2:=by omega
  subst this
  rw [List.take_of_length_le (by omega)] at hk
  exact ⟨by rw [hk],SS⟩
end Go.Sim
