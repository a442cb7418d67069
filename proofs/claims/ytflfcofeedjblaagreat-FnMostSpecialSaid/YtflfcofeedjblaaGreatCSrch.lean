/- A part of the proof of a statement of this seat: see the text that holds the theorem. No condition. -/
import Derived.Test.YtflfcofeedjblaaGreatPTCDrawB
import Derived.Test.YtflfcofeedjblaaGreatPSpec
import Derived.Test.YtflfcofeedjblaaGreatNm
import Derived.Test.YtflfcofeedjblaaGreatCIter
import Derived.Test.YtflfcofeedjblaaGreatCVars
import Derived.Test.YtflfcofeedjblaaGreatPTCApply
import Derived.Test.YtflfcofeedjblaaGreatPTCMatch
import Derived.Test.YtflfcofeedjblaaGreatCTy
set_option linter.unusedVariables false
set_option linter.unusedSimpArgs false
set_option linter.all false
set_option linter.unusedVariables false
set_option linter.unusedSimpArgs false
set_option maxRecDepth 20000
namespace Go.Sim
open Go Go.RowKit

noncomputable def Zzw (w:Wd) (x:Int):Bool:=decide (x ≥ 0) && decide (x < (w.is.length:Nat))
noncomputable def Zna (w:Wd) (x y:Int):Bool:=Zeg w && Zzw w x && Zzw w y && Znb (w.is.getD x.toNat (([],[]),[])) (w.is.getD y.toNat (([],[]),[]))
theorem Zmq {w:Wd} {k:Nat} (h:k < w.is.length):Zzw w (k:Int)=true:=by unfold Zzw; simp; omega
theorem Zqy {w:Wd} {x:Int} (h:Zzw w x=true):∃ k:Nat,x=k∧k < w.is.length:=by
 unfold Zzw at h; simp at h; exact ⟨x.toNat,by omega,by omega⟩
theorem Yag {h:Zaa} {a a':Pt} {n c n' c':Nat} {e e':Bool} {i k:Ins} :
  Zah pg Zlx [.agg [.str i.1.1,.str i.1.2,.slice a n c e],.agg [.str k.1.1,.str k.1.2,.slice a' n' c' e']] h fun v h'=>v=.bool (Znb i k)∧Zbc h.length h h':=by
 apply Ztk.call
 simp only [Zaw]
 generalize hh0:h ++ [Zcd.cells Zac [.str i.1.1,.str i.1.2,.slice a n c e] false]=h0
 generalize hh1:h0 ++ [Zcd.cells Zac [.str k.1.1,.str k.1.2,.slice a' n' c' e'] false]=h1
 have s0:Zbc h.length h h0:=by rw [← hh0]; exact Zam
 have s1:Zbc h0.length h0 h1:=by rw [← hh1]; exact Zam
 have o0:h0[h.length]?=some (.cells Zac [.str i.1.1,.str i.1.2,.slice a n c e] false):=by rw [← hh0]; simp
 have o1:=s1.get o0 (Own.lt o0)
 have k1:h1[h0.length]?=some (.cells Zac [.str k.1.1,.str k.1.2,.slice a' n' c' e'] false):=by rw [← hh1]; simp
 have S1:=s0.cat s1
 simp only [Zao o1,Zao k1,Nat.zero_add,List.getElem?_cons_succ,List.getElem?_cons_zero,Zal]
 refine Zat (fun he=>?_) (fun he=>⟨by unfold Znb; simp [he],S1⟩)
 refine (Zue k.1.2 i.1.2 h1).mono ?_
 rintro v h2 ⟨rfl,s2⟩
 simp only [Zap]
 exact ⟨by unfold Znb; simp [he],S1.cat s2⟩
theorem Zhm {h:Zaa} {a0 a1:Pt} {n0 c0 n1 c1:Nat} {w:Wd} (r:Zmc h a0 n0 c0 a1 n1 c1 w) {k:Nat} (hk:k < w.is.length) :
  ∃ i o a n cp e,a1=some (i,o)∧i < h.length∧Zbj h (.ptr (some (i,o + k * 3))) 3=some [.str w.is[k].1.1,.str w.is[k].1.2,.slice a n cp e]∧Zag h (.ptr (some (i,o + k * 3)))=some (.str w.is[k].1.1)∧Zag h (.ptr (some (i,o + k * 3 + 1)))=some (.str w.is[k].1.2)∧Row h.length h a (n * 2) (Zdn eP w.is[k].2)∧w.is[k].2.length=n:=by
 have hl:=r.len1
 obtain ⟨i,o,hk',a,n,cp,e,h1,h2,h3,h4,h5,h6,h7,h8⟩:=r.inst (k:=k) (by omega)
 exact ⟨i,o,a,n,cp,e,h1,h2,h3,h4,h5,h7,h8⟩
theorem Zmb {h:Zaa} {a0 a1:Pt} {n0 c0 n1 c1:Nat} {e0 e1:Bool} {w:Wd} {x y:Int} (r:Zmc h a0 n0 c0 a1 n1 c1 w) (b:WB w) :
  Zah pg Zfp [.agg [.slice a0 n0 c0 e0,.slice a1 n1 c1 e1],.int .i64 x,.int .i64 y] h fun v h'=>v=.bool (Zna w x y)∧Zbc h.length h h':=by
 have hl1:=r.len1
 apply Zro.call
 simp only [Zaw]
 generalize hh0:h ++ [Zcd.cells Zab [.slice a0 n0 c0 e0,.slice a1 n1 c1 e1] false]=h0
 have s0:Zbc h.length h h0:=by rw [← hh0]; exact Zam
 have w0:h0[h.length]?=some (Znk a0 n0 c0 e0 a1 n1 c1 e1):=by rw [← hh0]; simp [Znk]
 rw [Zwe w0]
 simp only [Zoi w0,Nat.zero_add,List.getElem?_cons_succ,List.getElem?_cons_zero,Zaq,Zaf,Zan,Zae]
 refine (Zki (r.same s0) b).mono ?_
 rintro v h2 ⟨rfl,s2⟩
 have S2:=s0.cat s2
 have w2:=s2.get w0 (Own.lt w0)
 simp only [Zap,true_and]
 refine Zcv (fun b1=>?_) (fun b1=>⟨by unfold Zna; rw [b1]; rfl,S2⟩)
 refine Zat (fun b2=>?_) (fun b2=>⟨by unfold Zna Zzw; simp [b2],S2⟩)
 refine Zat (fun b3=>?_) (fun b3=>⟨by unfold Zna Zzw; simp [show ¬ x < (w.is.length:Int) by omega],S2⟩)
 refine Zat (fun b4=>?_) (fun b4=>⟨by unfold Zna Zzw; simp [b4],S2⟩)
 refine Zat (fun b5=>?_) (fun b5=>⟨by unfold Zna Zzw; simp [show ¬ y < (w.is.length:Int) by omega],S2⟩)
 obtain ⟨k,rfl⟩:∃ k:Nat,x=k:=⟨x.toNat,by omega⟩
 obtain ⟨l,rfl⟩:∃ k:Nat,y=k:=⟨y.toNat,by omega⟩
 have hk:k < w.is.length:=by omega
 have hl:l < w.is.length:=by omega
 obtain ⟨i,o,ka,kn,kc,ke,rfl,hi,hr1,_⟩:=Zhm (r.same S2) hk
 obtain ⟨i',o',la,ln,lc,le,he,hi',hr2,_⟩:=Zhm (r.same S2) hl
 cases he
 simp only [Zoi w2,Nat.zero_add,List.getElem?_cons_succ,List.getElem?_cons_zero,Zae,Zav,Int.toNat_natCast,hr1,hr2,Zaq,Zaf,Zan,Zal,true_and]
 refine ⟨by omega,by omega,Yag.mono ?_⟩
 rintro v h3 ⟨rfl,s3⟩
 simp only [Zap]
 refine ⟨by rw [Zoi (s3.get w2 (Own.lt w2))]; rfl,?_,S2.cat s3⟩
 unfold Zna
 rw [b1,Zmq hk,Zmq hl,Int.toNat_natCast,Int.toNat_natCast,Zfd hk,Zfd hl]; rfl
theorem Ztx {h:Zaa} {a0 a1:Pt} {n0 c0 n1 c1:Nat} {e0 e1:Bool} {w:Wd} {x y:Int} (r:Zmc h a0 n0 c0 a1 n1 c1 w) (b:WB w) :
  Zah pg Zjq [.agg [.slice a0 n0 c0 e0,.slice a1 n1 c1 e1],.int .i64 x,.int .i64 y] h fun v h'=>v=.bool (Zna w x y)∧Zbc h.length h h':=by
 have hl1:=r.len1
 have hli:=b.li
 apply Zmr.call
 simp only [Zaw]
 generalize hh0:h ++ [Zcd.cells Zab [.slice a0 n0 c0 e0,.slice a1 n1 c1 e1] false]=h0
 have s0:Zbc h.length h h0:=by rw [← hh0]; exact Zam
 have w0:h0[h.length]?=some (Znk a0 n0 c0 e0 a1 n1 c1 e1):=by rw [← hh0]; simp [Znk]
 rw [Zwe w0]
 simp only [Zaq,Zaf,Zan,Zae]
 refine (Zjg (r.same s0) b).mono ?_
 rintro v h2 ⟨rfl,s2⟩
 have S2:=s0.cat s2
 have w2:=s2.get w0 (Own.lt w0)
 simp only [Zap]
 refine Zbq (fun b1=>⟨by unfold Zna; rw [b1]; rfl,S2⟩) (fun b1=>?_)
 simp only [Zoi w2,Nat.zero_add,List.getElem?_cons_succ,List.getElem?_cons_zero,Zae]
 rw [IntWalk.i64_in _ (by omega)]
 have hin:∀ z:Int,decide (0≤z∧z≤((n1:Nat):Int) - 1)=Zzw w z:=fun z=>by
  unfold Zzw; rw [hl1,Bool.eq_iff_iff]; simp; omega
 refine Zvr.mono ?_
 rintro v h3 ⟨rfl,rfl⟩
 simp only [Zap,hin]
 refine Zbq (fun b2=>⟨by unfold Zna; rw [b2]; simp,S2⟩) (fun b2=>?_)
 simp only [Zoi w2,List.getElem?_cons_succ,List.getElem?_cons_zero,Zae]
 rw [IntWalk.i64_in _ (by omega)]
 refine Zvr.mono ?_
 rintro v h3 ⟨rfl,rfl⟩
 simp only [Zap,hin]
 refine Zbq (fun b3=>⟨by unfold Zna; rw [b3]; simp,S2⟩) (fun b3=>?_)
 obtain ⟨k,rfl,hk⟩:=Zqy b2
 obtain ⟨l,rfl,hl⟩:=Zqy b3
 apply Zmr.J3i
 obtain ⟨i,o,ka,kn,kc,ke,rfl,hi,_,hc1,hd1,_⟩:=Zhm (r.same S2) hk
 obtain ⟨i',o',la,ln,lc,le,he,hi',_,hc2,hd2,_⟩:=Zhm (r.same S2) hl
 cases he
 simp only [Zoi w2,Nat.zero_add,Nat.add_zero,List.getElem?_cons_succ,List.getElem?_cons_zero,Zae,Zav,Int.toNat_natCast,hc1,hc2,hd1,hd2,Zal,true_and]
 have hval:Zna w (k:Int) (l:Int)=Znb w.is[k] w.is[l]:=by
  unfold Zna
  rw [b1,Zmq hk,Zmq hl,Int.toNat_natCast,Int.toNat_natCast,Zfd hk,Zfd hl]; rfl
 refine ⟨by omega,by omega,Zat (fun he=>?_) (fun he=>⟨by rw [hval]; unfold Znb; simp [he],S2⟩)⟩
 have hbk:=b.is _ (List.getElem_mem hk)
 have hbl:=b.is _ (List.getElem_mem hl)
 refine ⟨by omega,by omega,(Ztg _ _ hbl.2.1 hbk.2.1 _).mono ?_⟩
 rintro v h4 ⟨rfl,s4⟩
 have hce:∀ z,Zag h4 (.ptr (some (i,z)))=Zag h3 (.ptr (some (i,z))):=fun z=>by simp only [Zag,s4.eq i hi]
 simp only [Zap,Zoi (s4.get w2 (Own.lt w2)),hce,hc1,List.getElem?_cons_succ,List.getElem?_cons_zero,true_and]
 exact ⟨by rw [hval]; unfold Znb; simp [he],S2.cat s4⟩
end Go.Sim

set_option linter.unusedVariables false
set_option linter.unusedSimpArgs false
set_option maxRecDepth 20000
namespace Go.Sim
open Go Go.RowKit

theorem Yaz:pg.underlying Zxl=some (.slice Zfw):=by kernel_rfl
theorem Yqi:pg.cellsOf Zfw=1:=by kernel_rfl
theorem Yqg:pg.okElem Zfw=true:=by kernel_rfl
theorem Ypk:pg.bytesOf Zfw≤127:=Nat.le_of_ble_eq_true (by kernel_rfl)
def ixs {α:Type} (f:α→Bool) (l:List α):List Int:=(l.zipIdx.filter fun p=>f p.1).map fun p=>(p.2:Int)
theorem Zwy {α:Type} (f:α→Bool) {l:List α} {g:Nat} (h:g < l.length):ixs f (l.take (g + 1))=ixs f (l.take g) ++ if f l[g] then [(g:Int)] else []:=by
 unfold ixs
 rw [List.take_succ_eq_append_getElem h,List.zipIdx_append,List.filter_append,List.map_append]
 congr 1
 simp only [List.length_take,Nat.min_eq_left (by omega:g≤l.length),Nat.zero_add,List.zipIdx_singleton,List.filter_cons,List.filter_nil]
 split <;> simp
theorem Zqm {α:Type} (f:α→Bool) (l:List α):(ixs f l).length≤l.length:=by
 unfold ixs; rw [List.length_map]; exact Nat.le_trans (List.length_filter_le _ _) (by simp)
theorem fa1 {j o:Nat} {K:Zau→Prop}:Zhf pg Zad (.ptr (some (j,o))) 1 K=K (.ptr (some (j,o + 1))):=by kernel_rfl
end Go.Sim

set_option linter.unusedVariables false
set_option linter.unusedSimpArgs false
set_option maxRecDepth 20000
namespace Go.Sim
open Go Go.RowKit

noncomputable def Zlo (n:Nd) (i:Ins):Bool:=decide (i.1.1=n.1) && Zlg i.1.2 n.2
noncomputable def Zwv (w:Wd) (n:Nd):List Int:=ixs (Zlo n) w.is
noncomputable def Zhq (w:Wd) (n:Nd):List Int:=if Zeg w && Zhz w n then Zwv w n else []
theorem Yrl {α:Type} {f:α→Bool} {l:List α} {x:Int} (h:x∈ixs f l):∃ k:Nat,∃ hk:k < l.length,x=k∧f l[k]=true:=by
 unfold ixs at h
 obtain ⟨p,hp,rfl⟩:=List.mem_map.1 h
 obtain ⟨h1,h2⟩:=List.mem_filter.1 hp
 obtain ⟨a,k⟩:=p
 have h3:=List.mem_zipIdx h1
 simp only [Nat.zero_add,Nat.zero_le,Nat.sub_zero,true_and] at h3
 exact ⟨k,h3.1,rfl,by simp only at h2; rw [← h3.2]; exact h2⟩
theorem Zul {h:Zaa} {a0 a1:Pt} {n0 c0 n1 c1:Nat} {e0 e1:Bool} {w:Wd} {ct tt:List Nat} (r:Zmc h a0 n0 c0 a1 n1 c1 w) (b:WB w) :
  Zah pg Zjs [.agg [.slice a0 n0 c0 e0,.slice a1 n1 c1 e1],.agg [.str ct,.str tt]] h fun v h'=>v=.bool (Zeg w && Zhz w (ct,tt))∧Zbc h.length h h':=by
 apply Zrl.call
 simp only [Zaw]
 generalize hh0:h ++ [Zcd.cells Zab [.slice a0 n0 c0 e0,.slice a1 n1 c1 e1] false]=h0
 generalize hh1:h0 ++ [Zcd.cells Zad [.str ct,.str tt] false]=h1
 have s0:Zbc h.length h h0:=by rw [← hh0]; exact Zam
 have s1:Zbc h0.length h0 h1:=by rw [← hh1]; exact Zam
 have w0:h0[h.length]?=some (Znk a0 n0 c0 e0 a1 n1 c1 e1):=by rw [← hh0]; simp [Znk]
 have w1:=s1.get w0 (Own.lt w0)
 have i1:h1[h0.length]?=some (.cells Zad [.str ct,.str tt] false):=by rw [← hh1]; simp
 rw [Zwe w1]
 simp only [Zaq,Zaf,Zan,Zae]
 refine (Zki (r.same (s0.cat s1)) b).mono ?_
 rintro v h2 ⟨rfl,s2⟩
 simp only [Zap]
 have i2:=s2.get i1 (Own.lt i1)
 have w2:=s2.get w1 (Own.lt w1)
 refine Zcv (fun b1=>?_) (fun b1=>⟨by rw [b1]; rfl,(s0.cat s1).cat s2⟩)
 rw [Zwe w2,Zef i2 (by simp)]
 simp only [List.drop_zero,List.take_succ_cons,List.take_zero,Zaq,Zaf,Zan,Zae,Zal]
 refine (Yno (r.same ((s0.cat s1).cat s2)) b).mono ?_
 rintro v h3 ⟨rfl,s3⟩
 simp only [Zap]
 exact ⟨by rw [b1]; rfl,((s0.cat s1).cat s2).cat s3⟩
theorem Yiz {h:Zaa} {a:Pt} {n c j:Nat} {e:Bool} {ct tt nc nt:List Nat} (hj:h[j]?=some (.cells Zad [.str nc,.str nt] false)) :
  Zah pg Zcq [.agg [.str ct,.str tt,.slice a n c e],.ptr (some (j,0))] h fun v h'=>v=.bool (Zlg tt nt)∧Zbc h.length h h':=by
 apply Zli.call
 have s1:Zbc h.length h (h ++ [.cells Zac [.str ct,.str tt,.slice a n c e] false]):=Zam
 simp only [Zaw,Zey,Nat.zero_add,List.getElem?_cons_succ,List.getElem?_cons_zero,Zal,fa1,Zao (s1.get hj (Own.lt hj))]
 refine (Zue tt nt _).mono ?_
 rintro v h2 ⟨rfl,s2⟩
 simp only [Zap]
 exact ⟨by trivial,s1.cat s2⟩
theorem Ybr {h:Zaa} {t:TypeId} {x y z a b c:Zau}:Zbb (h ++ [.cells t [x,y,z] false]) (.ptr (some (h.length,0))) [a,b,c]=some (h ++ [.cells t [a,b,c] false]):=Zsn rfl
theorem Ykh {h:Zaa} {a0 a1:Pt} {n0 c0 n1 c1 j:Nat} {e0 e1:Bool} {w:Wd} {nd:Nd} (r:Zmc h a0 n0 c0 a1 n1 c1 w) (b:WB w) (hj:h[j]?=some (.cells Zad [.str nd.1,.str nd.2] false)) :
  Zah pg Zkc [.agg [.slice a0 n0 c0 e0,.slice a1 n1 c1 e1],.str nd.1,.fn Zcq [.ptr (some (j,0))]] h fun v h'=>Zbc h.length h h'∧∃ a n c e,v=.slice a n c e∧Zdh Zfw eI h.length h' a n (Zwv w nd):=by
 have hl1:=r.len1
 have hli:=b.li
 apply Zce.call
 simp only [Zaw]
 generalize hh0:h ++ [Zcd.cells Zab [.slice a0 n0 c0 e0,.slice a1 n1 c1 e1] false]=h0
 generalize hh1:h0 ++ [Zcd.cells Zfw [] false]=h1
 have s0:Zbc h.length h h0:=by rw [← hh0]; exact Zam
 have s1:Zbc h0.length h0 h1:=by rw [← hh1]; exact Zam
 have w0:h0[h.length]?=some (Znk a0 n0 c0 e0 a1 n1 c1 e1):=by rw [← hh0]; simp [Znk]
 have w1:=s1.get w0 (Own.lt w0)
 have o1:h1[h0.length]?=some (.cells Zfw [] false):=by rw [← hh1]; simp
 have l0:h0.length=h.length + 1:=by rw [← hh0]; simp
 have S1:=s0.cat s1
 simp only [Zoi w1,Nat.zero_add,List.getElem?_cons_succ,List.getElem?_cons_zero,Zae]
 refine Zce.L3ind _ _ _ _ _ _ _ _ (J:=fun (g:Nat) a4 n4 c4 e4 x14 h'=>x14=(g:Int)∧g≤n1∧Zbc h.length h h'∧n4=(ixs (Zlo nd) (w.is.take g)).length∧Vec Zfw h' a4 n4 c4 (Zdn eI (ixs (Zlo nd) (w.is.take g)))∧(∀ i,a4=some (i,0)→h.length≤i)) (fun g=>n1 - g) ?_ 0 _ _ _ _ _ _
  ⟨rfl,by omega,S1,rfl,Vec.mk1 (by simpa [ixs] using o1),fun i hi=>by cases hi; omega⟩
 rintro g a4 n4 c4 e4 x14 h' ⟨rfl,hg,hS,rfl,hv,ha⟩ R hR
 unfold Zce.L3t
 refine Zat (fun hlt=>?_) (fun hge=>?_)
 ·have hgl:g < w.is.length:=by omega
  obtain ⟨i,o,a2,n2,c2,e2,rfl,_,hr,_,_,hrow,hn⟩:=Zhm (r.same hS) hgl
  simp only [Zav,Int.toNat_natCast,hr,Zaq,Zaf,Zan,Zal,Zae,Zaw]
  rw [Ybr]
  simp only [Zas,Zey,Nat.zero_add,List.getElem?_cons_succ,List.getElem?_cons_zero,Zal]
  have hil:=Zqm (Zlo nd) (w.is.take g)
  rw [List.length_take] at hil
  have htk:=Zwy (Zlo nd) hgl
  generalize hq:h' ++ [Zcd.cells Zac [.str w.is[g].1.1,.str w.is[g].1.2,.slice a2 n2 c2 e2] false]=hq'
  have sq:Zbc h'.length h' hq':=by rw [← hq]; exact Zam
  have skip:∀ hz,Zbc hq'.length hq' hz→Zlo nd w.is[g]=false→Zce.J7 (fun v h'=>Zbc h.length h h'∧∃ a n c e,v=.slice a n c e∧Zdh Zfw eI h.length h' a n (Zwv w nd)) R (g:Int) (((n1:Nat):Int)) (some (i,o)) n1 c1 e1 nd.1 (.ptr (some (j,0))) a4 (ixs (Zlo nd) (w.is.take g)).length c4 e4 hz:=by
   intro hz sz hno
   apply Zce.J7i
   rw [hno] at htk
   simp only [Bool.false_eq_true,if_false,List.append_nil] at htk
   rw [Zbl (by omega)]
   exact hR (g + 1) _ _ _ _ _ _ (by omega) ⟨rfl,by omega,(hS.cat sq).cat sz,by rw [htk],by rw [htk]; exact (hv.same sq).same sz,ha⟩
  refine ⟨by omega,Zat (fun hc=>?_) (fun hc=>skip _ (Zbc.refl _ _) (by unfold Zlo; simp [hc]))⟩
  rw [← hq,Yqf,hq]
  simp only [Zaq,Zaf,Zan,Zal,Zae]
  refine (Yiz (sq.get (hS.get hj (Own.lt hj)) (by have:=Own.lt hj; have:=hS.le; omega))).mono ?_
  rintro v h3 ⟨rfl,s3⟩
  simp only [Zap]
  refine Zcv (fun hi=>?_) (fun hi=>skip _ s3 (by unfold Zlo; simp [hi]))
  have hyes:Zlo nd w.is[g]=true:=by unfold Zlo; simp [hc,hi]
  rw [hyes,if_pos rfl] at htk
  have S3:=(hS.cat sq).cat s3
  refine ((hv.same sq).same s3).push Yaz Yqi Yqg Ypk (by rw [Zay Zjc]; omega) rfl (by omega) (fun h6 hl6 hi6 hk6=>?_)
  simp only [Zae]
  apply Zce.J7i
  rw [Zbl (by omega)]
  have hle:=S3.le
  refine hR (g + 1) _ _ _ _ _ _ (by omega) ⟨rfl,by omega,⟨by omega,fun j hj=>?_⟩,by rw [htk]; simp,Vec.mk1 ?_,fun i hi=>by cases hi; omega⟩
  ·rw [hk6 j (by omega) fun i hi=>by have:=ha i hi; omega]; exact S3.eq j hj
  ·rw [hi6,htk,Zia]; rfl
 ·apply Zce.A3x0i
  have:g=n1:=by omega
  subst this
  rw [List.take_of_length_le (by omega)] at hv ⊢
  exact ⟨hS,_,_,_,_,rfl,hv.fresh (b:=h.length) rfl fun i hi=>ha i hi⟩
def Yrr (w:Wd) (n:Nd) (h:Zaa) (v:Zau) (h':Zaa):Prop:=Zbc h.length h h'∧∃ a m c e,v=.slice a m c e∧Zdh Zfw eI h.length h' a m (Zwv w n)
theorem Zdh.low {α:Type} {ty:TypeId} {enc:α→List Zau} {b b':Nat} {h:Zaa} {a:Pt} {n:Nat} {l:List α} (f:Zdh ty enc b h a n l) (hb:b'≤b):Zdh ty enc b' h a n l:=
 ⟨f.1,f.2.imp id fun ⟨i,ha,hbi,hi⟩=>⟨i,ha,by omega,hi⟩⟩
theorem Zuc {h:Zaa} {a0 a1:Pt} {n0 c0 n1 c1:Nat} {e0 e1:Bool} {w:Wd} {nd:Nd} (r:Zmc h a0 n0 c0 a1 n1 c1 w) (b:WB w) :
  Zah pg Zij [.agg [.slice a0 n0 c0 e0,.slice a1 n1 c1 e1],.agg [.str nd.1,.str nd.2]] h (Yrr w nd h):=by
 apply Zpj.call
 simp only [Zaw]
 generalize hh0:h ++ [Zcd.cells Zab [.slice a0 n0 c0 e0,.slice a1 n1 c1 e1] false]=h0
 generalize hh1:h0 ++ [Zcd.cells Zad [.str nd.1,.str nd.2] false]=h1
 have s0:Zbc h.length h h0:=by rw [← hh0]; exact Zam
 have s1:Zbc h0.length h0 h1:=by rw [← hh1]; exact Zam
 have w0:h0[h.length]?=some (Znk a0 n0 c0 e0 a1 n1 c1 e1):=by rw [← hh0]; simp [Znk]
 have w1:=s1.get w0 (Own.lt w0)
 have i1:h1[h0.length]?=some (.cells Zad [.str nd.1,.str nd.2] false):=by rw [← hh1]; simp
 have S1:=s0.cat s1
 rw [Zwe w1]
 simp only [Zaq,Zaf,Zan,Zae,Zao i1,Nat.zero_add,List.getElem?_cons_zero,Zal]
 refine (Ykh (r.same S1) b i1).mono ?_
 rintro v h2 ⟨s2,a,n,c,e,rfl,f⟩
 simp only [Zae]
 exact ⟨S1.cat s2,a,n,c,e,rfl,f.low S1.le⟩
def Ytu (w:Wd) (n:Nd) (h:Zaa) (v:Zau) (h':Zaa):Prop:=Zbc h.length h h'∧∃ a m c e,v=.tup [.slice a m c e,.bool (Zeg w && Zhz w n)]∧Zdh Zfw eI h.length h' a m (Zhq w n)
theorem Zsg {h:Zaa} {a0 a1:Pt} {n0 c0 n1 c1:Nat} {e0 e1:Bool} {w:Wd} {nd:Nd} (r:Zmc h a0 n0 c0 a1 n1 c1 w) (b:WB w) :
  Zah pg Zgt [.agg [.slice a0 n0 c0 e0,.slice a1 n1 c1 e1],.agg [.str nd.1,.str nd.2]] h (Ytu w nd h):=by
 apply Zod.call
 simp only [Zaw]
 generalize hh0:h ++ [Zcd.cells Zab [.slice a0 n0 c0 e0,.slice a1 n1 c1 e1] false]=h0
 generalize hh1:h0 ++ [Zcd.cells Zad [.str nd.1,.str nd.2] false]=h1
 have s0:Zbc h.length h h0:=by rw [← hh0]; exact Zam
 have s1:Zbc h0.length h0 h1:=by rw [← hh1]; exact Zam
 have w0:h0[h.length]?=some (Znk a0 n0 c0 e0 a1 n1 c1 e1):=by rw [← hh0]; simp [Znk]
 have w1:=s1.get w0 (Own.lt w0)
 have i1:h1[h0.length]?=some (.cells Zad [.str nd.1,.str nd.2] false):=by rw [← hh1]; simp
 have S1:=s0.cat s1
 rw [Zwe w1,Zef i1 (by simp)]
 simp only [List.drop_zero,List.take_succ_cons,List.take_zero,Zaq,Zaf,Zan,Zae,Zal]
 refine (Zul (r.same S1) b).mono ?_
 rintro v h2 ⟨rfl,s2⟩
 have i2:=s2.get i1 (Own.lt i1)
 have w2:=s2.get w1 (Own.lt w1)
 have S2:=S1.cat s2
 simp only [Zap]
 refine Zbq (fun b1=>⟨S2,none,0,0,true,by rw [b1],by unfold Zhq; rw [b1]; exact ⟨rfl,.inl rfl⟩⟩) (fun b1=>?_)
 rw [Zwe w2,Zef i2 (by simp)]
 simp only [List.drop_zero,List.take_succ_cons,List.take_zero,Zaq,Zaf,Zan,Zae,Zal]
 refine (Zuc (r.same S2) b).mono ?_
 rintro v h3 ⟨s3,a,n,c,e,rfl,f⟩
 simp only [Zae]
 exact ⟨S2.cat s3,a,n,c,e,by rw [b1],by unfold Zhq; rw [if_pos b1]; exact f.low S2.le⟩
theorem Zzn {h:Zaa} {a0 a1:Pt} {n0 c0 n1 c1:Nat} {e0 e1:Bool} {w:Wd} {nd:Nd} (r:Zmc h a0 n0 c0 a1 n1 c1 w) (b:WB w) (hnt:nd.2.length≤1048576) :
  Zah pg Zju [.agg [.slice a0 n0 c0 e0,.slice a1 n1 c1 e1],.agg [.str nd.1,.str nd.2]] h (Yrr w nd h):=by
 have hl1:=r.len1
 have hli:=b.li
 apply Zdz.call
 simp only [Zaw]
 generalize hh0:h ++ [Zcd.cells Zab [.slice a0 n0 c0 e0,.slice a1 n1 c1 e1] false]=h0
 generalize hh1:h0 ++ [Zcd.cells Zad [.str nd.1,.str nd.2] false]=h1
 generalize hh2:h1 ++ [Zcd.cells Zfw [] false]=h2
 have s0:Zbc h.length h h0:=by rw [← hh0]; exact Zam
 have s1:Zbc h0.length h0 h1:=by rw [← hh1]; exact Zam
 have s2:Zbc h1.length h1 h2:=by rw [← hh2]; exact Zam
 have w0:h0[h.length]?=some (Znk a0 n0 c0 e0 a1 n1 c1 e1):=by rw [← hh0]; simp [Znk]
 have w2:=s2.get (s1.get w0 (Own.lt w0)) (by have:=Own.lt w0; have:=s1.le; omega)
 have i1:h1[h0.length]?=some (.cells Zad [.str nd.1,.str nd.2] false):=by rw [← hh1]; simp
 have i2:=s2.get i1 (Own.lt i1)
 have o2:h2[h1.length]?=some (.cells Zfw [] false):=by rw [← hh2]; simp
 have S2:=(s0.cat s1).cat s2
 have hle1:=(s0.cat s1).le
 have l1':h1.length=h0.length + 1:=by rw [← hh1]; simp
 simp only [Zoi w2,Nat.zero_add,List.getElem?_cons_succ,List.getElem?_cons_zero,Zae]
 refine Zdz.L3ind _ _ _ _ _ _ _ _ (J:=fun (g:Nat) a4 n4 c4 e4 x12 h'=>x12=(g:Int)∧g≤n1∧Zbc h.length h h'∧h'[h0.length]?=some (.cells Zad [.str nd.1,.str nd.2] false)∧n4=(ixs (Zlo nd) (w.is.take g)).length∧Vec Zfw h' a4 n4 c4 (Zdn eI (ixs (Zlo nd) (w.is.take g)))∧(∀ i,a4=some (i,0)→h1.length≤i)) (fun g=>n1 - g) ?_ 0 _ _ _ _ _ _
  ⟨rfl,by omega,S2,i2,rfl,Vec.mk1 (by simpa [ixs] using o2),fun i hi=>by cases hi; omega⟩
 rintro g a4 n4 c4 e4 x12 h' ⟨rfl,hg,hS,hi0,rfl,hv,ha⟩ R hR
 have hlt1:=Own.lt i1
 unfold Zdz.L3t
 refine Zat (fun hlt=>?_) (fun hge=>?_)
 ·have hgl:g < w.is.length:=by omega
  obtain ⟨i,o,a2,n2,c2,e2,rfl,_,hr,_,_,hrow,hn⟩:=Zhm (r.same hS) hgl
  simp only [Zav,Int.toNat_natCast,hr,Zaq,Zaf,Zan,Zal,Zae,Zaw]
  rw [Ybr]
  have hil:=Zqm (Zlo nd) (w.is.take g)
  rw [List.length_take] at hil
  have htk:=Zwy (Zlo nd) hgl
  have hb:=b.is _ (List.getElem_mem hgl)
  generalize hq:h' ++ [Zcd.cells Zac [.str w.is[g].1.1,.str w.is[g].1.2,.slice a2 n2 c2 e2] false]=hq'
  have sq:Zbc h'.length h' hq':=by rw [← hq]; exact Zam
  have oq:hq'[h'.length]?=some (.cells Zac [.str w.is[g].1.1,.str w.is[g].1.2,.slice a2 n2 c2 e2] false):=by rw [← hq]; simp
  have iq:=sq.get hi0 (Own.lt hi0)
  simp only [Zas,Zao oq,Zao iq,Nat.zero_add,List.getElem?_cons_succ,List.getElem?_cons_zero,Zal]
  have skip:∀ hz,Zbc hq'.length hq' hz→Zlo nd w.is[g]=false→Zdz.J7 (Yrr w nd h) R (g:Int) (((n1:Nat):Int)) (some (i,o)) n1 c1 e1 h0.length 0 a4 (ixs (Zlo nd) (w.is.take g)).length c4 e4 hz:=by
   intro hz sz hno
   apply Zdz.J7i
   rw [hno] at htk
   simp only [Bool.false_eq_true,if_false,List.append_nil] at htk
   rw [Zbl (by omega)]
   exact hR (g + 1) _ _ _ _ _ _ (by omega) ⟨rfl,by omega,(hS.cat sq).cat sz,sz.get iq (Own.lt iq),by rw [htk],by rw [htk]; exact (hv.same sq).same sz,ha⟩
  refine ⟨by omega,Zat (fun hc=>?_) (fun hc=>skip _ (Zbc.refl _ _) (by unfold Zlo; simp [hc]))⟩
  refine (Ztg _ _ hb.2.1 hnt _).mono ?_
  rintro v h3 ⟨rfl,s3⟩
  simp only [Zap]
  refine Zcv (fun hi=>?_) (fun hi=>skip _ s3 (by unfold Zlo; simp [hi]))
  have hyes:Zlo nd w.is[g]=true:=by unfold Zlo; simp [hc,hi]
  rw [hyes,if_pos rfl] at htk
  have S3:=(hS.cat sq).cat s3
  have i3:=s3.get iq (Own.lt iq)
  refine ((hv.same sq).same s3).push Yaz Yqi Yqg Ypk (by rw [Zay Zjc]; omega) rfl (by omega) (fun h6 hl6 hi6 hk6=>?_)
  simp only [Zae]
  apply Zdz.J7i
  rw [Zbl (by omega)]
  have hle:=S3.le
  have hle3:=Own.lt i3
  refine hR (g + 1) _ _ _ _ _ _ (by omega) ⟨rfl,by omega,⟨by omega,fun j hj=>?_⟩,?_,by rw [htk]; simp,Vec.mk1 ?_,fun i hi=>by cases hi; have:=s3.le; have:=sq.le; have:=Own.lt hi0; omega⟩
  ·rw [hk6 j (by omega) fun i hi=>by have:=ha i hi; omega]; exact S3.eq j hj
  ·rw [hk6 _ hle3 fun i hi=>by have:=ha i hi; omega]; exact i3
  ·rw [hi6,htk,Zia]; rfl
 ·apply Zdz.A3x0i
  have:g=n1:=by omega
  subst this
  rw [List.take_of_length_le (by omega)] at hv ⊢
  exact ⟨hS,_,_,_,_,rfl,hv.fresh (b:=h.length) rfl fun i hi=>by have:=ha i hi; omega⟩
theorem Zww {h:Zaa} {a0 a1:Pt} {n0 c0 n1 c1:Nat} {e0 e1:Bool} {w:Wd} {nd:Nd} (r:Zmc h a0 n0 c0 a1 n1 c1 w) (b:WB w) (hnt:nd.2.length≤1048576) :
  Zah pg Zjy [.agg [.slice a0 n0 c0 e0,.slice a1 n1 c1 e1],.agg [.str nd.1,.str nd.2]] h (Ytu w nd h):=by
 apply Znr.call
 simp only [Zaw]
 generalize hh0:h ++ [Zcd.cells Zab [.slice a0 n0 c0 e0,.slice a1 n1 c1 e1] false]=h0
 generalize hh1:h0 ++ [Zcd.cells Zad [.str nd.1,.str nd.2] false]=h1
 have s0:Zbc h.length h h0:=by rw [← hh0]; exact Zam
 have s1:Zbc h0.length h0 h1:=by rw [← hh1]; exact Zam
 have w0:h0[h.length]?=some (Znk a0 n0 c0 e0 a1 n1 c1 e1):=by rw [← hh0]; simp [Znk]
 have w1:=s1.get w0 (Own.lt w0)
 have i1:h1[h0.length]?=some (.cells Zad [.str nd.1,.str nd.2] false):=by rw [← hh1]; simp
 have S1:=s0.cat s1
 rw [Zwe w1,Zef i1 (by simp)]
 simp only [List.drop_zero,List.take_succ_cons,List.take_zero,Zaq,Zaf,Zan,Zae,Zal]
 refine (Yeh (r.same S1) b hnt).mono ?_
 rintro v h2 ⟨rfl,s2⟩
 have i2:=s2.get i1 (Own.lt i1)
 have w2:=s2.get w1 (Own.lt w1)
 have S2:=S1.cat s2
 simp only [Zap]
 refine Zbq (fun b1=>⟨S2.cat Zam,_,0,0,true,by rw [b1],by unfold Zhq; rw [b1]; exact ⟨rfl,.inl rfl⟩⟩) (fun b1=>?_)
 rw [Zwe w2,Zef i2 (by simp)]
 simp only [List.drop_zero,List.take_succ_cons,List.take_zero,Zaq,Zaf,Zan,Zae,Zal]
 refine (Zzn (r.same S2) b hnt).mono ?_
 rintro v h3 ⟨s3,a,n,c,e,rfl,f⟩
 simp only [Zae]
 exact ⟨S2.cat s3,a,n,c,e,by rw [b1],by unfold Zhq; rw [if_pos b1]; exact f.low S2.le⟩
theorem Yof {w:Wd} (b:WB w) (n:Nd):(Zhq w n).length≤1048576:=by
 unfold Zhq Zwv
 have:=Zqm (Zlo n) w.is; have:=b.li
 split
 ·omega
 ·simp
end Go.Sim

set_option linter.unusedVariables false
set_option linter.unusedSimpArgs false
set_option maxRecDepth 20000
namespace Go.Sim
open Go Go.RowKit

def Znd (w:Wd) (x:Int):Ins:=w.is.getD x.toNat (([],[]),[])
theorem Zlt {w:Wd} {k:Nat} (h:k < w.is.length):Znd w (k:Int)=w.is[k]:=by unfold Znd; rw [Int.toNat_natCast,Zfd h]
noncomputable def Ydy (w:Wd) (l:List Int) (x:Int):Bool:=l.all fun k=>Znb (Znd w x) (Znd w k)
noncomputable def Ycz (w:Wd) (l:List Int):Int:=match l.find? (Ydy w l) with | some x=>x | none=>-1
noncomputable def Zsz (w:Wd) (n:Nd):Int:=Ycz w (Zhq w n)
theorem Yep {α:Type} {f:α→Bool} {l:List α} {g:Nat} (hg:g < l.length) (h:(l.take g).find? f=none) (k:f l[g]=true):l.find? f=some l[g]:=by
 have h1:l=l.take g ++ l[g] :: l.drop (g + 1):=by rw [← List.drop_eq_getElem_cons hg,List.take_append_drop]
 conv=>lhs; rw [h1]
 rw [List.find?_append,h,List.find?_cons,k]; rfl
theorem Zti {α:Type} {f:α→Bool} {l:List α} {g:Nat} (hg:g < l.length) (h:(l.take g).find? f=none) (k:f l[g]=false):(l.take (g + 1)).find? f=none:=by
 rw [List.take_succ_eq_append_getElem hg,List.find?_append,h]; simp [k]
def InW (w:Wd) (l:List Int):Prop:=∀ x∈l,∃ k:Nat,x=k∧k < w.is.length
theorem Yhz (w:Wd) (n:Nd):InW w (Zwv w n):=fun x hx=>by obtain ⟨k,hk,e,_⟩:=Yrl hx; exact ⟨k,e,hk⟩
theorem Zxc (w:Wd) (n:Nd):InW w (Zhq w n):=fun x hx=>by
 unfold Zhq at hx
 split at hx
 ·exact Yhz w n x hx
 ·cases hx
theorem Yvc {j o:Nat} {K:Zau→Prop}:Zhf pg Zab (.ptr (some (j,o))) 1 K=K (.ptr (some (j,o + 1))):=by kernel_rfl
theorem Row.i64 {b:Nat} {h:Zaa} {a:Pt} {n:Nat} {l:List Int} (r:Row b h a n (Zdn eI l)) {k:Nat} (hk:k < n):∃ i o,∃ hk':k < l.length,a=some (i,o)∧i < b∧Zag h (.ptr (some (i,o + k * 1)))=some (.int .i64 l[k]):=by
 obtain ⟨i,o,hk',ha,hi,hc⟩:=Row.el1 Zjc r hk
 exact ⟨i,o,hk',ha,hi,hc⟩
theorem Yiu {h:Zaa} {a0 a1:Pt} {n0 c0 n1 c1 j j2:Nat} {e0 e1:Bool} {w:Wd} {x y:Int} (r:Zmc h a0 n0 c0 a1 n1 c1 w) (hj:h[j]?=some (Znk a0 n0 c0 e0 a1 n1 c1 e1)) (hj2:h[j2]?=some (.cells Zfw [.int .i64 x] false))
  (hx:∃ k:Nat,x=k∧k < w.is.length) (hy:∃ k:Nat,y=k∧k < w.is.length) :
  Zah pg Zch [.int .i64 y,.ptr (some (j,0)),.ptr (some (j2,0))] h fun v h'=>v=.bool (!Znb (Znd w x) (Znd w y))∧Zbc h.length h h':=by
 obtain ⟨k,rfl,hk⟩:=hx
 obtain ⟨l,rfl,hl⟩:=hy
 have hl1:=r.len1
 apply Zlf.call
 obtain ⟨i,o,ka,kn,kc,ke,rfl,hi,hr1,_⟩:=Zhm r hk
 obtain ⟨i',o',la,ln,lc,le,he,hi',hr2,_⟩:=Zhm r hl
 cases he
 simp only [Yvc,Zoi hj,Zao hj2,Nat.zero_add,List.getElem?_cons_succ,List.getElem?_cons_zero,Zae,Zav,Int.toNat_natCast,hr1,hr2,Zaq,Zaf,Zan,Zal,Zar,true_and]
 refine ⟨by omega,by omega,Yag.mono ?_⟩
 rintro v h3 ⟨rfl,s3⟩
 simp only [Zap]
 refine ⟨by rw [Zao (s3.get hj2 (Own.lt hj2))]; rfl,by rw [Zoi (s3.get hj (Own.lt hj))]; rfl,?_,s3⟩
 rw [Zlt hk,Zlt hl]
theorem Yjj {h:Zaa} {a0 a1:Pt} {n0 c0 n1 c1 j j2:Nat} {e0 e1:Bool} {w:Wd} {x:Int} {a:Pt} {n c:Nat} {e:Bool} {l:List Int} (r:Zmc h a0 n0 c0 a1 n1 c1 w) (hj:h[j]?=some (Znk a0 n0 c0 e0 a1 n1 c1 e1)) (hj2:h[j2]?=some (.cells Zfw [.int .i64 x] false))
  (rl:Row h.length h a n (Zdn eI l)) (hn:n≤1048576) (hx:∃ k:Nat,x=k∧k < w.is.length) (hin:InW w l) :
  Zah pg Zfx [.slice a n c e,.fn Zch [.ptr (some (j,0)),.ptr (some (j2,0))]] h fun v h'=>(∃ z:Int,v=.int .i64 z∧decide (z ≥ 0)=!Ydy w l x)∧Zbc h.length h h':=by
 have hll:l.length=n:=by have:=rl.1; rw [Zay Zjc] at this; omega
 apply Zcb.call
 refine Zcb.L2ind _ _ _ _ _ _ _ _ (J:=fun (g:Nat) x8 h'=>x8=(g:Int)∧g≤n∧Zbc h.length h h'∧(l.take g).all (fun k=>Znb (Znd w x) (Znd w k))=true) (fun g=>n - g) ?_ 0 _ _ ⟨rfl,by omega,Zbc.refl _ _,rfl⟩
 rintro g x8 h' ⟨rfl,hg,hS,hk⟩ R hR
 unfold Zcb.L2t
 refine Zat (fun hlt=>?_) (fun hge=>?_)
 ·obtain ⟨i,o,hgl,rfl,_,hr⟩:=(rl.same hS).i64 (k:=g) (by omega)
  simp only [Zav,Int.toNat_natCast,hr,Zar]
  refine ⟨by omega,(Yiu (r.same hS) (hS.get hj (Own.lt hj)) (hS.get hj2 (Own.lt hj2)) hx (hin _ (List.getElem_mem hgl))).mono ?_⟩
  rintro v h2 ⟨rfl,s2⟩
  simp only [Zap]
  have hS2:=hS.cat s2
  refine Zbq (fun he=>?_) (fun he=>?_)
  ·exact ⟨⟨_,rfl,by unfold Ydy; rw [Zqx hgl he]; simp⟩,hS2⟩
  ·rw [Zbl (by omega)]
   exact hR (g + 1) _ _ (by omega) ⟨rfl,by omega,hS2,Zfr hgl hk he⟩
 ·apply Zcb.A2x0i
  have:g=n:=by omega
  subst this
  rw [List.take_of_length_le (by omega)] at hk
  exact ⟨⟨_,rfl,by unfold Ydy; rw [hk]; rfl⟩,hS⟩
theorem Ytm {h:Zaa} {t:TypeId} {x a:Zau}:Zbb (h ++ [.cells t [x] false]) (.ptr (some (h.length,0))) [a]=some (h ++ [.cells t [a] false]):=Zsn rfl
theorem Ypj {h:Zaa} {a0 a1:Pt} {n0 c0 n1 c1:Nat} {e0 e1:Bool} {w:Wd} {a:Pt} {n c:Nat} {e:Bool} {l:List Int} (r:Zmc h a0 n0 c0 a1 n1 c1 w) (rl:Row h.length h a n (Zdn eI l)) (hn:n≤1048576) (hin:InW w l) :
  Zah pg Zkw [.agg [.slice a0 n0 c0 e0,.slice a1 n1 c1 e1],.slice a n c e] h fun v h'=>v=.int .i64 (Ycz w l)∧Zbc h.length h h':=by
 have hll:l.length=n:=by have:=rl.1; rw [Zay Zjc] at this; omega
 apply Zgd.call
 simp only [Zaw]
 generalize hh0:h ++ [Zcd.cells Zab [.slice a0 n0 c0 e0,.slice a1 n1 c1 e1] false]=h0
 have s0:Zbc h.length h h0:=by rw [← hh0]; exact Zam
 have w0:h0[h.length]?=some (Znk a0 n0 c0 e0 a1 n1 c1 e1):=by rw [← hh0]; simp [Znk]
 have l0:h0.length=h.length + 1:=by rw [← hh0]; simp
 refine Zgd.L2ind _ _ _ _ _ _ _ _ _ _ _ _ (J:=fun (g:Nat) x9 h'=>x9=(g:Int)∧g≤n∧Zbc h0.length h0 h'∧(l.take g).find? (Ydy w l)=none) (fun g=>n - g) ?_ 0 _ _ ⟨rfl,by omega,Zbc.refl _ _,rfl⟩
 rintro g x9 h' ⟨rfl,hg,hS,hk⟩ R hR
 have SS:=s0.cat hS
 unfold Zgd.L2t
 refine Zat (fun hlt=>?_) (fun hge=>?_)
 ·obtain ⟨i,o,hgl,rfl,_,hr⟩:=(rl.same SS).i64 (k:=g) (by omega)
  simp only [Zav,Int.toNat_natCast,hr,Zar,Zaw]
  rw [Ytm]
  generalize hq:h' ++ [Zcd.cells Zfw [.int .i64 l[g]] false]=hq'
  have sq:Zbc h'.length h' hq':=by rw [← hq]; exact Zam
  have oq:hq'[h'.length]?=some (.cells Zfw [.int .i64 l[g]] false):=by rw [← hq]; simp
  have Sq:=SS.cat sq
  have wq:=sq.get (hS.get w0 (Own.lt w0)) (by have:=Own.lt w0; have:=hS.le; omega)
  simp only [Zas]
  refine ⟨by omega,?_⟩
  apply Zdy.call
  refine (Yjj (r.same Sq) wq oq (rl.same' Sq) hn (hin _ (List.getElem_mem hgl)) hin).mono ?_
  rintro v h5 ⟨⟨z,rfl,hz⟩,s5⟩
  simp only [Zar,Zap,hz,Bool.not_not]
  refine Zcv (fun ht=>?_) (fun ht=>?_)
  ·simp only [Zao (s5.get oq (Own.lt oq)),List.getElem?_cons_zero,Zar]
   refine ⟨?_,Sq.cat s5⟩
   unfold Ycz
   rw [Yep hgl hk ht]
  ·rw [Zbl (by omega)]
   exact hR (g + 1) _ _ (by omega) ⟨rfl,by omega,(hS.cat sq).cat s5,Zti hgl hk ht⟩
 ·apply Zgd.A2x0i
  have:g=n:=by omega
  subst this
  rw [List.take_of_length_le (by omega)] at hk
  exact ⟨by unfold Ycz; rw [hk],SS⟩
theorem Zzq {h:Zaa} {a0 a1:Pt} {n0 c0 n1 c1:Nat} {e0 e1:Bool} {w:Wd} {nd:Nd} (r:Zmc h a0 n0 c0 a1 n1 c1 w) (b:WB w) :
  Zah pg Zks [.agg [.slice a0 n0 c0 e0,.slice a1 n1 c1 e1],.agg [.str nd.1,.str nd.2]] h fun v h'=>v=.int .i64 (Zsz w nd)∧Zbc h.length h h':=by
 have hl1:=r.len1
 have hli:=b.li
 apply Zop.call
 simp only [Zaw]
 generalize hh0:h ++ [Zcd.cells Zab [.slice a0 n0 c0 e0,.slice a1 n1 c1 e1] false]=h0
 generalize hh1:h0 ++ [Zcd.cells Zad [.str nd.1,.str nd.2] false]=h1
 have s0:Zbc h.length h h0:=by rw [← hh0]; exact Zam
 have s1:Zbc h0.length h0 h1:=by rw [← hh1]; exact Zam
 have w0:h0[h.length]?=some (Znk a0 n0 c0 e0 a1 n1 c1 e1):=by rw [← hh0]; simp [Znk]
 have w1:=s1.get w0 (Own.lt w0)
 have i1:h1[h0.length]?=some (.cells Zad [.str nd.1,.str nd.2] false):=by rw [← hh1]; simp
 have S1:=s0.cat s1
 rw [Zwe w1,Zef i1 (by simp)]
 simp only [List.drop_zero,List.take_succ_cons,List.take_zero,Zaq,Zaf,Zan,Zae,Zal]
 refine (Zul (r.same S1) b).mono ?_
 rintro v h2 ⟨rfl,s2⟩
 have i2:=s2.get i1 (Own.lt i1)
 have w2:=s2.get w1 (Own.lt w1)
 have S2:=S1.cat s2
 simp only [Zap]
 refine Zbq (fun b1=>⟨by unfold Zsz Zhq; rw [b1]; rfl,S2⟩) (fun b1=>?_)
 rw [Zwe w2,Zef i2 (by simp)]
 simp only [List.drop_zero,List.take_succ_cons,List.take_zero,Zaq,Zaf,Zan,Zae,Zal,true_and]
 refine (Zuc (r.same S2) b).mono ?_
 rintro v h3 ⟨s3,a,n,c,e,rfl,f⟩
 have w3:=s3.get w2 (Own.lt w2)
 have hcl:=Zqm (Zlo nd) w.is
 have hfl:=f.1
 simp only [Zae,Zwe w3,true_and]
 have S3:=S2.cat s3
 refine (Ypj (r.same S3) (by simpa using f.row Zjc) (by unfold Zwv at hfl; omega) (Yhz w nd)).mono ?_
 rintro v h4 ⟨rfl,s4⟩
 simp only [Zar]
 refine ⟨by rw [Zwe (s4.get w3 (Own.lt w3))],?_,S3.cat s4⟩
 unfold Zsz Zhq
 rw [if_pos b1]
theorem Yqo {w:Wd} {x y:Int} (hw:Zeg w=true) (hx:∃ k:Nat,x=k∧k < w.is.length) (hy:∃ k:Nat,y=k∧k < w.is.length):Zna w x y=Znb (Znd w x) (Znd w y):=by
 obtain ⟨k,rfl,hk⟩:=hx
 obtain ⟨l,rfl,hl⟩:=hy
 unfold Zna
 rw [hw,Zmq hk,Zmq hl]; rfl
theorem Zyj {h:Zaa} {a0 a1:Pt} {n0 c0 n1 c1:Nat} {e0 e1:Bool} {w:Wd} {nd:Nd} (r:Zmc h a0 n0 c0 a1 n1 c1 w) (b:WB w) (hnt:nd.2.length≤1048576) :
  Zah pg Zko [.agg [.slice a0 n0 c0 e0,.slice a1 n1 c1 e1],.agg [.str nd.1,.str nd.2]] h fun v h'=>v=.int .i64 (Zsz w nd)∧Zbc h.length h h':=by
 have hl1:=r.len1
 have hli:=b.li
 apply Zdr.call
 simp only [Zaw]
 generalize hh0:h ++ [Zcd.cells Zab [.slice a0 n0 c0 e0,.slice a1 n1 c1 e1] false]=h0
 generalize hh1:h0 ++ [Zcd.cells Zad [.str nd.1,.str nd.2] false]=h1
 have s0:Zbc h.length h h0:=by rw [← hh0]; exact Zam
 have s1:Zbc h0.length h0 h1:=by rw [← hh1]; exact Zam
 have w0:h0[h.length]?=some (Znk a0 n0 c0 e0 a1 n1 c1 e1):=by rw [← hh0]; simp [Znk]
 have w1:=s1.get w0 (Own.lt w0)
 have i1:h1[h0.length]?=some (.cells Zad [.str nd.1,.str nd.2] false):=by rw [← hh1]; simp
 have S1:=s0.cat s1
 rw [Zwe w1,Zef i1 (by simp)]
 simp only [List.drop_zero,List.take_succ_cons,List.take_zero,Zaq,Zaf,Zan,Zae,Zal]
 refine (Zww (r.same S1) b hnt).mono ?_
 rintro v h2 ⟨s2,a,n,c,e,rfl,f⟩
 have w2:=s2.get w1 (Own.lt w1)
 have S2:=S1.cat s2
 simp only [Zct,Zaf,Zae,Zap,Zan]
 have hcl:=Zqm (Zlo nd) w.is
 have hnl:n≤1048576:=by
  have:=f.1
  unfold Zhq at this
  split at this
  ·unfold Zwv at this; omega
  ·simp at this; omega
 have rl:Row h2.length h2 a n (Zdn eI (Zhq w nd)):=by simpa using f.row Zjc
 have hll:(Zhq w nd).length=n:=f.1
 have hin:=Zxc w nd
 have hwv:∀ x∈Zhq w nd,Zeg w=true:=fun x hx=>by
  unfold Zhq at hx
  split at hx
  ·rename_i h; simp only [Bool.and_eq_true] at h; exact h.1
  ·cases hx
 generalize hlg:Zhq w nd=l at *
 refine Zdr.L3ind _ _ _ _ _ _ _ _ _ _ _ _ (J:=fun (g:Nat) x20 h'=>x20=(g:Int)∧g≤n∧Zbc h2.length h2 h'∧(l.take g).find? (Ydy w l)=none) (fun g=>n - g) ?_ 0 _ _ ⟨rfl,by omega,Zbc.refl _ _,rfl⟩
 rintro g x20 h' ⟨rfl,hg,hS,hk⟩ R hR
 unfold Zdr.L3t
 refine Zat (fun hlt=>?_) (fun hge=>?_)
 ·obtain ⟨i,o,hgl,rfl,_,hr⟩:=(rl.same hS).i64 (k:=g) (by omega)
  simp only [Zav,Int.toNat_natCast,hr,Zar]
  refine ⟨by omega,?_⟩
  refine Zdr.L7ind _ _ _ _ _ _ _ _ _ _ _ _ _ _ _ _ _ _ _ _ (J:=fun (q:Nat) x9 x26 h3=>x26=(q:Int)∧q≤n∧Zbc h'.length h' h3∧x9=(l.take q).all fun k=>Znb (Znd w l[g]) (Znd w k)) (fun q=>n - q) ?_ 0 _ _ _ ⟨rfl,by omega,Zbc.refl _ _,rfl⟩
  rintro q x9 x26 h3 ⟨rfl,hq,hS3,rfl⟩ R7 hR7
  unfold Zdr.L7t
  have SS:=hS.cat hS3
  refine Zat (fun hlt3=>?_) (fun hge3=>?_)
  ·obtain ⟨i',o',hql,he,_,hr3⟩:=(rl.same SS).i64 (k:=q) (by omega)
   cases he
   simp only [Zav,Int.toNat_natCast,hr3,Zar]
   have htk:(l.take (q + 1)).all (fun k=>Znb (Znd w l[g]) (Znd w k))=((l.take q).all (fun k=>Znb (Znd w l[g]) (Znd w k)) && Znb (Znd w l[g]) (Znd w l[q])):=by
    rw [List.take_succ_eq_append_getElem hql,List.all_append]; simp
   have go:∀ (h4:Zaa) (b9:Bool),Zbc h3.length h3 h4→b9=(l.take (q + 1)).all (fun k=>Znb (Znd w l[g]) (Znd w k))→Zdr.J10 (fun v h'=>v=Zau.int .i64 (Zsz w nd)∧Zbc h.length h h') R R7 (q:Int) (((n:Nat):Int)) (some (i,o)) n c e b9 h.length 0 l[g] (g:Int) (((n:Nat):Int)) (some (i,o)) n c e (some (i,o)) n c e h4:=by
    intro h4 b9 s4 hb9
    apply Zdr.J10i
    rw [Zbl (by omega)]
    exact hR7 (q + 1) _ _ _ (by omega) ⟨rfl,by omega,hS3.cat s4,hb9⟩
   refine ⟨by omega,Zcv (fun hx=>?_) (fun hx=>go _ _ (Zbc.refl _ _) (by rw [htk,hx]; rfl))⟩
   have w3:=SS.get w2 (Own.lt w2)
   rw [Zwe w3]
   simp only [Zaq,Zaf,Zan,Zae]
   refine (Ztx (r.same (S2.cat SS)) b).mono ?_
   rintro v h4 ⟨rfl,s4⟩
   simp only [Zap]
   refine go _ _ s4 ?_
   rw [htk,hx,Yqo (hwv _ (List.getElem_mem hgl)) (hin _ (List.getElem_mem hgl)) (hin _ (List.getElem_mem hql))]; rfl
  ·apply Zdr.A7x2i
   have:q=n:=by omega
   subst this
   rw [List.take_of_length_le (by omega)]
   refine Zcv (fun ht=>?_) (fun ht=>?_)
   ·refine ⟨?_,S2.cat SS⟩
    unfold Zsz Ycz
    rw [hlg,Yep hgl hk ht]
   ·rw [Zbl (by omega)]
    exact hR (g + 1) _ _ (by omega) ⟨rfl,by omega,SS,Zti hgl hk ht⟩
 ·apply Zdr.A3x0i
  have:g=n:=by omega
  subst this
  rw [List.take_of_length_le (by omega)] at hk
  exact ⟨by unfold Zsz Ycz; rw [hlg,hk],S2.cat hS⟩
end Go.Sim

set_option linter.unusedSimpArgs false
set_option linter.unusedVariables false
namespace Go.Sim

end Go.Sim

set_option linter.unusedVariables false
set_option linter.unusedSimpArgs false
set_option maxRecDepth 20000
namespace Go.Sim
open Go Go.RowKit

theorem Ztt.mono {S S':Nat→Prop} {h:Zaa} {i:Nat} {m:Bd} (r:Ztt S h i m) (hs:∀ j,S j→S' j):Ztt S' h i m:=by
 obtain ⟨rows,h1,h2,h3⟩:=r
 refine ⟨rows,h1,h2,fun k x hx=>?_⟩
 have:=h3 k x hx
 split at this
 ·exact this.mono hs
 ·exact this
theorem Ztt.below {S:Nat→Prop} {h:Zaa} {i:Nat} {m:Bd} (r:Ztt S h i m):Ztt (fun j=>S j∧j < h.length) h i m:=by
 obtain ⟨rows,h1,h2,h3⟩:=r
 refine ⟨rows,h1,h2,fun k x hx=>?_⟩
 have:=h3 k x hx
 split at this
 ·exact Zhp.below this
 ·exact this
end Go.Sim

set_option linter.unusedVariables false
set_option linter.unusedSimpArgs false
set_option maxRecDepth 20000
namespace Go.Sim
open Go Go.RowKit

theorem Yht {h:Zaa} {i p:Nat} (r:Rdr h i p) (hp:p≤1000000000000) (g:Bool) (Q:QT) (hQ:∀ c h',Zkl c=true→Zdu i h h'→Rdr h' i (p + 1)→Q (.str [c]) h') :
  bcase g (Zck (h ++ [.cells Zbe [.str [105],.str [98],.str [105],.str [117]] false]) fun h_0=>Zah pg Zcf [.ptr (some (i,0)),.slice (some (List.length h,0)) 4 4 true] h_0 fun v_1 h_2=>
 Zbg (some v_1) fun s_3=>Q (.str s_3) h_2) (Zck (h ++ [.cells Zbe [.str [120],.str [105],.str [121],.str [98],.str [120],.str [122],.str [117]] false]) fun h_4=>Zah pg Zcf [.ptr (some (i,0)),.slice (some (List.length h,0)) 7 7 true] h_4 fun v_5 h_6=>
 Zbg (some v_5) fun s_7=>Q (.str s_7) h_6):=by
 have hil:=r.lt
 have go:∀ (l:List (List Nat)) (n:Nat),l.length=n→1≤n→(∀ x∈l,∃ c,x=[c]∧Zkl c=true)→Zck (h ++ [.cells Zbe (Zdn eS l) false]) fun h_0=>Zah pg Zcf [.ptr (some (i,0)),.slice (some (List.length h,0)) n n true] h_0 fun v_1 h_2=>Zbg (some v_1) fun s_3=>Q (.str s_3) h_2:=by
  intro l n hn h1 hl
  simp only [Zaw]
  refine (Zmm (r.app _) hp (j:=h.length) (t:=Zbe) (l:=l) (by simp) (by omega) hn h1).mono ?_
  rintro v h2 ⟨x,hx,rfl,hK,hR,_⟩
  obtain ⟨c,rfl,hc⟩:=hl x hx
  simp only [Zal]
  exact hQ c h2 hc ((Zdu.app i h _).trans hK) hR
 cases g with
 | true=>exact go [[105],[98],[105],[117]] 4 rfl (by omega) (by intro x hx; simp at hx; rcases hx with rfl | rfl | rfl | rfl <;> exact ⟨_,rfl,rfl⟩)
 | false=>exact go [[120],[105],[121],[98],[120],[122],[117]] 7 rfl (by omega) (by intro x hx; simp at hx; rcases hx with rfl | rfl | rfl | rfl | rfl | rfl | rfl <;> exact ⟨_,rfl,rfl⟩)
def DrQ (i p d:Nat) (h:Zaa) (v:Zau) (h':Zaa):Prop:=∃ t:Ty,v=.str t.txt∧t.ok=true∧t.txt.length≤4 ^ (d + 1)∧Zdu i h h'∧∃ p',p≤p'∧p'≤p + 4 ^ (d + 1)∧Rdr h' i p'
theorem Zut:∀ (d:Nat),d≤8→∀ {h:Zaa} {i p:Nat},Rdr h i p→p + 4 ^ (d + 1)≤1000000000000→∀ (g:Bool),Zah pg Zeu [.ptr (some (i,0)),.int .i64 (d:Int),.bool g] h (DrQ i p d h):=by
 intro d
 induction d with
 | zero=>
  intro _ h i p r hp g
  apply Zne.call
  refine Zcx (fun _=>?_) (fun hne=>absurd rfl hne)
  exact Yht r (by omega) g (DrQ i p 0 h) fun c h' hc hK hR=>⟨.k c,rfl,by simpa [Ty.ok] using hc,by simp [Ty.txt],hK,p + 1,by omega,by omega,hR⟩
 | succ d ih=>
  intro hd h i p r hp g
  have hB:4 ^ (d + 1 + 1)=4 * 4 ^ (d + 1):=by rw [Nat.pow_succ]; omega
  have hB1:4≤4 ^ (d + 1):=by rw [Nat.pow_succ]; have:=Nat.one_le_two_pow (n:=0); have:1≤4 ^ d:=Nat.one_le_pow _ _ (by omega); omega
  have hB2:4 ^ (d + 1)≤1000000000000:=by omega
  generalize hBB:4 ^ (d + 1)=B at *
  apply Zne.call
  refine Zcx (fun he=>by omega) (fun _=>?_)
  refine (Zcu r (by omega) 3).mono ?_
  rintro v h1 ⟨x,rfl,hx0,hx1,_,K1,R1,_⟩
  simp only [Zar]
  refine Zcx (fun _=>?_) (fun _=>?_)
  ·exact Yht R1 (by omega) g (DrQ i p (d + 1) h) fun c h' hc hK hR=>⟨.k c,rfl,by simpa [Ty.ok] using hc,by rw [hB]; simp [Ty.txt]; omega,K1.trans hK,p + 1 + 1,by omega,by omega,hR⟩
  ·apply Zne.J5i
   refine (Zcu R1 (by omega) 4).mono ?_
   rintro v h2 ⟨x,rfl,hx0,hx1,_,K2,R2,_⟩
   have hw:IntKind.wrap .i64 (((d + 1:Nat):Int) - 1)=(d:Int):=by rw [IntWalk.i64_in _ (by omega)]; omega
   have K12:=K1.trans K2
   simp only [Zar]
   rw [hw]
   have one:∀ (c:Nat),(c=109 ∨ c=108)→Zah pg Zeu [.ptr (some (i,0)),.int .i64 (d:Int),.bool g] h2 fun v_28 h_29=>
     Zbg (some v_28) fun s_30=>List.length ([c,40]) + List.length s_30≤9223372036854775807∧(List.length (([c,40]) ++ s_30) + List.length [41]≤9223372036854775807∧(DrQ i p (d + 1) h (.str ((([c,40]) ++ s_30) ++ [41])) h_29)):=by
    intro c hc
    refine (ih (by omega) R2 (by omega) g).mono ?_
    rintro v h3 ⟨t,rfl,hok,hlen,K3,p3,hp1,hp2,R3⟩
    rw [hBB] at hlen hp2
    simp only [Zal]
    refine ⟨by simp; omega,by simp; omega,.u c t,by simp [Ty.txt],?_,?_,K12.trans K3,p3,by omega,by omega,R3⟩
    ·simp only [Ty.ok,hok,Bool.and_true]; rcases hc with rfl | rfl <;> rfl
    ·rw [hB]; simp [Ty.txt]; omega
   refine Zcx (fun _=>?_) (fun _=>Zcx (fun _=>one 109 (.inl rfl)) (fun _=>one 108 (.inr rfl)))
   refine (ih (by omega) R2 (by omega) g).mono ?_
   rintro v h3 ⟨t,rfl,hok,hlen,K3,p3,hp1,hp2,R3⟩
   rw [hBB] at hlen hp2
   simp only [Zal]
   refine ⟨by simp; omega,by simp; omega,?_⟩
   refine (ih (by omega) R3 (by omega) g).mono ?_
   rintro v h4 ⟨t2,rfl,hok2,hlen2,K4,p4,hp3,hp4,R4⟩
   rw [hBB] at hlen2 hp4
   simp only [Zal]
   refine ⟨by simp; omega,by simp; omega,.w 112 t t2,by simp [Ty.txt],by simp [Ty.ok,hok,hok2],?_,(K12.trans K3).trans K4,p4,by omega,by omega,R4⟩
   rw [hB]; simp [Ty.txt]; omega
def TxQ (i p:Nat) (h:Zaa) (v:Zau) (h':Zaa):Prop:=∃ s:List Nat,v=.str s∧s.length≤1000∧Zdu i h h'∧∃ p',p≤p'∧p'≤p + 1000∧Rdr h' i p'
theorem Yfe (s:List Nat) (a b:Int):(sub s a b).length≤s.length:=by unfold sub; simp; omega
theorem Ygx {h:Zaa} {i p:Nat} (r:Rdr h i p) (hp:p≤900000000000):Zah pg Zok [.ptr (some (i,0))] h (TxQ i p h):=by
 apply Zwb.call
 refine (Zcu r (by omega) 4).mono ?_
 rintro v h1 ⟨x,rfl,hx0,hx1,_,K1,R1,_⟩
 have hx1:=hx1 (by omega)
 simp only [Zar]
 refine (Zcu R1 (by omega) 2).mono ?_
 rintro v h2 ⟨y,rfl,hy0,hy1,_,K2,R2,_⟩
 simp only [Zar]
 obtain ⟨d,rfl⟩:∃ d:Nat,x=d:=⟨x.toNat,by omega⟩
 have hd:d≤3:=by omega
 have hB:4 ^ (d + 1)≤256:=by
  have:d=0 ∨ d=1 ∨ d=2 ∨ d=3:=by omega
  rcases this with rfl | rfl | rfl | rfl <;> decide
 refine (Zut d (by omega) R2 (by omega) _).mono ?_
 rintro v h3 ⟨t,rfl,hok,hlen,K3,p3,hp1,hp2,R3⟩
 generalize ht:t.txt=s at hlen
 have K13:=(K1.trans K2).trans K3
 simp only [Zal]
 refine (Zcu R3 (by omega) 16).mono ?_
 rintro v h4 ⟨z,rfl,hz0,hz1,_,K4,R4,_⟩
 have K14:=K13.trans K4
 simp only [Zar]
 refine Zat (fun _=>⟨s,rfl,by omega,K14,p3 + 1,by omega,by omega,R4⟩) (fun _=>?_)
 have hs1:1≤s.length:=by rw [← ht]; obtain ⟨y,hy⟩:=t.txt_cons; rw [hy]; simp
 refine (Zcu R4 (by omega) (s.length:Nat)).mono ?_
 rintro v h5 ⟨k,rfl,hk0,hk1,_,K5,R5,_⟩
 have hk1:=hk1 (by omega)
 simp only [Zar]
 refine ⟨by omega,?_⟩
 simp only [Zaw]
 have hil:=R5.lt
 refine (Zmm (R5.app _) (by omega) (j:=h5.length) (t:=Zbe) (n:=7) (l:=[[],[40],[41],[44],[105],[113],[88]]) (by simp [Zdn,eS]) (by omega) rfl (by omega)).mono ?_
 rintro v h6 ⟨w,hw,rfl,K6,R6,_⟩
 have K16:=((K14.trans K5).trans (Zdu.app i h5 _)).trans K6
 have hwl:w.length≤1:=by simp at hw; rcases hw with rfl | rfl | rfl | rfl | rfl | rfl | rfl <;> simp
 simp only [Zal]
 have hs1:=Yfe s 0 k
 refine ⟨by omega,?_⟩
 refine (Zcu R6 (by omega) 2).mono ?_
 rintro v h7 ⟨u,rfl,hu0,hu1,_,K7,R7,_⟩
 have hu1:=hu1 (by omega)
 simp only [Zar]
 rw [IntWalk.i64_in (k + u) (by omega)]
 have hs2:=Yfe s (k + u) s.length
 refine ⟨by omega,by simp; omega,_,rfl,by simp; omega,K16.trans K7,_,?_,?_,R7⟩ <;> omega
theorem Ygz:∀ (vs:List Nat) (ts:List Ty),vs.Nodup→∀ k (hk:k < vs.length),k < ts.length→Zff (vs.zip ts) vs[k]=ts[k]?
 | [],_,_,k,hk,_=>by simp at hk
 | v :: vs,[],_,k,_,h=>by simp at h
 | v :: vs,t :: ts,hn,0,_,_=>by simp [Zff]
 | v :: vs,t :: ts,hn,k + 1,hk,h=>by
  have h1:=List.nodup_cons.1 hn
  have hk':k < vs.length:=by simpa using hk
  have hne:v≠vs[k]:=fun e=>h1.1 (e ▸ List.getElem_mem hk')
  simp only [List.zip_cons_cons,Zff,List.getElem_cons_succ,if_neg hne,List.getElem?_cons_succ]
  exact Ygz vs ts h1.2 k hk' (by simpa using h)
theorem Ylm:∀ {m:Bd} {v:Nat} {u:Ty},Zff m v=some u→(v,u)∈m
 | [],_,_,h=>by cases h
 | (a,b) :: m,v,u,h=>by
  simp only [Zff] at h
  split at h
  ·rename_i e; cases h; subst e; exact List.mem_cons_self ..
  ·exact List.mem_cons_of_mem _ (Ylm h)
theorem Zva {f:Nat→Option Ty} (hf:∀ c u,f c=some u→u.txt.length≤16):∀ t:Ty,(subst f t).txt.length≤16 * t.txt.length
 | .k c=>by
  simp only [subst]
  cases h:f c with
  | none=>simp [Ty.txt]
  | some u=>have:=hf c u h; simp [Ty.txt]; omega
 | .u c a=>by have:=Zva hf a; simp [subst,Ty.txt]; omega
 | .w c a b=>by have:=Zva hf a; have:=Zva hf b; simp [subst,Ty.txt]; omega
theorem Ydp {h:Zaa} {i p:Nat} {s:List Nat} (r:Rdr h i p) (hp:p≤900000000000) (hs:s.length≤1048576):Zah pg Zip [.ptr (some (i,0)),.str s] h (TxQ i p h):=by
 apply Zkv.call
 refine (Znx s (by omega) h).mono ?_
 rintro v h1 ⟨s1,vs,rfl,hm⟩
 have hil:=r.lt
 have leaf:∀ h',Zdu i h h'→∀ p',p≤p'→p'≤p + 1000→Rdr h' i p'→TxQ i p h (.str [105]) h':=fun h' K p' h1 h2 R=>⟨[105],rfl,by simp,K,p',h1,h2,R⟩
 have hvs:∃ (d:Nat) (a:Pt) (n c:Nat) (e:Bool),vs=[.int .u8 (d:Int),.slice a n c e]:=by
  split at hm
  ·obtain ⟨a,c,e,rfl⟩:=hm.shape; exact ⟨_,_,_,_,_,rfl⟩
  ·exact ⟨0,_,_,_,_,hm⟩
 obtain ⟨d,a,n,c,e,rfl⟩:=hvs
 simp only [Zct,Zaf,Zdc,Zar,Zae,Zan,Zap,Zaw]
 rw [Zfk]
 simp only [Zas]
 generalize hh2:h1 ++ [Zcd.cells Zai [.int .u8 (d:Int),.slice a n c e] false]=h2
 have s2:Zbc h1.length h1 h2:=by rw [← hh2]; exact Zam
 have l2:h2.length=h1.length + 1:=by rw [← hh2]; simp
 have n2:h2[h1.length]?=some (.cells Zai [.int .u8 (d:Int),.slice a n c e] false):=by rw [← hh2]; simp
 have S2:=s1.cat s2
 refine Zbq (fun hno=>leaf _ (Zdu.of_same S2) p (by omega) (by omega) (r.same S2)) (fun hyes=>?_)
 have hof:∃ t,Zhk s=some t:=by
  unfold Zml at hyes
  cases hx:Zhk s with
  | none=>rw [hx] at hyes; cases hyes
  | some t=>exact ⟨t,rfl⟩
 obtain ⟨t,ht⟩:=hof
 obtain ⟨hok,hst,hsl⟩:=Zdt.1 ht
 rw [ht] at hm
 simp only at hm
 generalize hh3:h2 ++ [Zcd.cells Zdf [.int .u8 0,.slice none 0 0 true,.int .u8 0,.slice none 0 0 true,.int .u8 0,.slice none 0 0 true,.int .u8 0,.slice none 0 0 true,.int .u8 0,.slice none 0 0 true,.int .u8 0,.slice none 0 0 true,.int .u8 0,.slice none 0 0 true,.int .u8 0,.slice none 0 0 true,.int .u8 0,.slice none 0 0 true,.int .u8 0,.slice none 0 0 true,.int .u8 0,.slice none 0 0 true,.int .u8 0,.slice none 0 0 true] false]=h3
 have s3:Zbc h2.length h2 h3:=by rw [← hh3]; exact Zam
 have l3:h3.length=h2.length + 1:=by rw [← hh3]; simp
 have m3:h3[h2.length]?=some (.cells Zdf (Zdn eR (List.replicate 12 (.int .u8 0,.slice none 0 0 true))) false):=by rw [← hh3]; simp; rfl
 have S3:=S2.cat s3
 have n3:=s3.get n2 (Own.lt n2)
 have r3:=r.same S3
 refine Zkv.L6ind (J:=fun (g:Nat) x19 h'=>x19=(g:Int)∧g≤12∧Zdu i h h'∧(∃ p',p≤p'∧p'≤p + g * 80∧Rdr h' i p')∧h3.length≤h'.length∧h'[h1.length]?=some (.cells Zai [.int .u8 (d:Int),.slice a n c e] false) ∧
   Zhp (fun j=>j≠h2.length∧j≠i∧j < h'.length) h' t [.int .u8 (d:Int),.slice a n c e] ∧
   ∃ (rows:List (Zau × Zau)) (ts:List Ty),rows.length=12∧ts.length=g∧(∀ u∈ts,u.ok=true∧u.txt.length≤16)∧h'[h2.length]?=some (.cells Zdf (Zdn eR rows) false) ∧
    ∀ (k:Nat) (x:Zau × Zau) (u:Ty),rows[k]?=some x→ts[k]?=some u→Zhp (fun j=>j≠h2.length∧j≠i∧j < h'.length) h' u (eR x))
  (m:=fun g=>12 - g) (hr:=?_) (g:=0) (hj:=⟨rfl,by omega,Zdu.of_same S3,⟨p,by omega,by omega,r3⟩,Nat.le_refl _,n3,?_,_,[],by simp,rfl,by simp,m3,by simp⟩) ..
 ·rintro g x19 h4 ⟨rfl,hg,K4,⟨p4,hp1,hp2,R4⟩,l4,n4,rt,rows,ts,hrl,htl,hts,m4,hrep⟩ R hR
  unfold Zkv.L6t
  refine Zat (fun hlt=>?_) (fun hge=>?_)
  ·refine (Zcu R4 (by omega) 2).mono ?_
   rintro v h5 ⟨x,rfl,hx0,hx1,_,K5,R5,_⟩
   have hx1:=hx1 (by omega)
   simp only [Zar]
   refine (Zcu R5 (by omega) 2).mono ?_
   rintro v h6 ⟨y,rfl,hy0,hy1,_,K6,R6,_⟩
   simp only [Zar]
   obtain ⟨q,rfl⟩:∃ q:Nat,x=q:=⟨x.toNat,by omega⟩
   have hB:4 ^ (q + 1)≤16:=by
    have:q=0 ∨ q=1:=by omega
    rcases this with rfl | rfl <;> decide
   refine (Zut q (by omega) R6 (by omega) _).mono ?_
   rintro v h7 ⟨u,rfl,huok,hulen,K7,p7,hp3,hp4,R7⟩
   have K47:=(K5.trans K6).trans K7
   simp only [Zal]
   refine (Znx u.txt (by omega) h7).mono ?_
   rintro v h8 ⟨s8,vu,rfl,hmu⟩
   rw [Zdt.2 ⟨huok,rfl,by omega⟩] at hmu
   simp only at hmu
   obtain ⟨au,cu,eu,hsh⟩:=hmu.shape
   subst hsh
   have K48:=K47.trans (Zdu.of_same s8)
   simp only [Zct,Zaf,Zdc,Zar,Zae,Zan,Zap]
   have l8:=K48.le
   have hm2i:h2.length≠i:=by have:=S2.le; omega
   have m8:h8[h2.length]?=some (.cells Zdf (Zdn eR rows) false):=by rw [K48.eq _ (Own.lt m4) hm2i]; exact m4
   have hfl:(Zdn eR rows).length=24:=by rw [Zay Zrn,hrl]
   rw [Nat.zero_add,Int.toNat_natCast,Zbd m8 (by rw [hfl]; simp; omega)]
   simp only [Zas]
   rw [show ([Zau.int .u8 (u.hd:Int),Zau.slice au u.ps.length cu eu]:List Zau)=eR (Zau.int .u8 (u.hd:Int),Zau.slice au u.ps.length cu eu) from rfl,Ybv Zrn (by omega),Zbl (by omega)]
   have hset:∀ j,j≠h2.length→(h8.set h2.length (Zcd.cells Zdf (Zdn eR (rows.set g (Zau.int .u8 (u.hd:Int),Zau.slice au u.ps.length cu eu))) false))[j]?=h8[j]?:=fun j hj=>Zbs (fun e=>hj e.symm)
   have old:∀ j,(j≠h2.length∧j≠i∧j < h4.length)→(h8.set h2.length (Zcd.cells Zdf (Zdn eR (rows.set g (Zau.int .u8 (u.hd:Int),Zau.slice au u.ps.length cu eu))) false))[j]?=h4[j]?:=fun j hj=>by rw [hset j hj.1,K48.eq j hj.2.2 hj.2.1]
   have hup:∀ j,(j≠h2.length∧j≠i∧j < h4.length)→(j≠h2.length∧j≠i∧j < (h8.set h2.length (Zcd.cells Zdf (Zdn eR (rows.set g (Zau.int .u8 (u.hd:Int),Zau.slice au u.ps.length cu eu))) false)).length):=fun j hj=>⟨hj.1,hj.2.1,by simp; omega⟩
   have i8:Rdr h8 i p7:=R7.same s8
   refine ⟨⟨by omega,by omega⟩,hR (g + 1) _ _ (by omega) ⟨by omega,by omega,(K4.trans K48).trans' (fun j hj=>Zbs (by have:=S2.le; omega)),⟨p7,by omega,by omega,?_⟩,by simp; omega,?_,(rt.agree old).mono hup,_,ts ++ [u],by simp [hrl],by simp [htl],?_,Zbz m8,?_⟩⟩
   ·refine i8.agree (fun j hj=>hset j (by have:=S2.le; omega)) (by simp)
   ·rw [hset _ (by omega),K48.eq _ (Own.lt n4) (by have:=s1.le; omega)]; exact n4
   ·intro w hw
    rcases List.mem_append.1 hw with hw | hw
    ·exact hts w hw
    ·simp at hw; subst hw; exact ⟨huok,by omega⟩
   ·intro k x w hx hw
    by_cases hk:k=g
    ·subst hk
     rw [List.getElem?_set_self (by omega)] at hx
     rw [List.getElem?_append_right (by omega)] at hw
     simp [htl] at hw
     cases hx; subst hw
     refine (hmu.agree (h':=h8.set h2.length (Zcd.cells Zdf (Zdn eR (rows.set k (Zau.int .u8 (u.hd:Int),Zau.slice au u.ps.length cu eu))) false)) fun j hj=>hset j (by have:=hj.1; have:=K47.le; omega)).mono fun j hj=>⟨by have:=hj.1; have:=K47.le; omega,by have:=hj.1; have:=K47.le; have:=S2.le; omega,by simp; exact hj.2⟩
    ·rw [List.getElem?_set_ne (fun e=>hk e.symm)] at hx
     have hkg:k < g:=by
      have:=(List.getElem?_eq_some_iff.1 hw).1
      simp [htl] at this; omega
     rw [List.getElem?_append_left (by omega)] at hw
     exact ((hrep k x w hx hw).agree old).mono hup
  ·have hg12:g=12:=by omega
   subst hg12
   apply Zkv.A6x0i
   rw [Zbk n4]
   simp only [Zaq,Zaf,Zan,Zar,Zae]
   have hget:∀ k,k < 6→(Zed[k]?).bind (Zff (Zed.zip ts))=ts[k]?:=fun k hk=>by
    have hk6:k < Zed.length:=hk
    rw [List.getElem?_eq_getElem hk6,Option.bind_some]
    exact Ygz Zed ts Zof k hk6 (by omega)
   have hin:∀ v u,Zff (Zed.zip ts) v=some u→v∈Zed∧u∈ts:=fun v u hu=>by
    have:=Ylm hu
    exact ⟨(List.of_mem_zip this).1,(List.of_mem_zip this).2⟩
   have hW:Yoj (fun j=>j≠h2.length∧j≠i∧j < h4.length) h4 h2.length (Zed.zip ts):=by
    refine ⟨rows,hrl,m4,fun k x hk hx=>?_⟩
    rw [hget k hk]
    have hkt:k < ts.length:=by omega
    rw [List.getElem?_eq_getElem hkt]
    exact hrep k x _ hx (List.getElem?_eq_getElem hkt)
   have hnv:∀ v,Zcr v=false→Zff (Zed.zip ts) v=none:=fun v hv=>by
    cases hb:Zff (Zed.zip ts) v with
    | none=>rfl
    | some u=>
     have h1:=(hin v u hb).1
     have:∀ x∈Zed,Zcr x=true:=by decide
     rw [this v h1] at hv; cases hv
   refine (Ybd _ (Nat.le_refl _) hok (fun j hj=>⟨hj.2.2,hj.1⟩) rt hW (fun v u hu=>(hts u (hin v u hu).2).1) hnv).mono ?_
   rintro x h5 ⟨s5,vs5,rfl,rt5⟩
   have hl5:(subst (Zff (Zed.zip ts)) t).txt.length≤1048576:=by
    have:=Zva (f:=Zff (Zed.zip ts)) (fun c u hu=>(hts u (hin c u hu).2).2) t
    rw [← hst] at this; omega
   have hok5:(subst (Zff (Zed.zip ts)) t).ok=true:=Zvb ⟨hnv,fun v u hu=>(hts u (hin v u hu).2).1⟩ hok
   obtain ⟨a5,c5,e5,hsh5⟩:=rt5.shape
   subst hsh5
   simp only [Zdc,Zaf,Zar,Zae,Zan,Zaw]
   rw [Zfk]
   simp only [Zas]
   generalize hh6:h5 ++ [Zcd.cells Zai [.int .u8 ((subst (Zff (Zed.zip ts)) t).hd:Int),.slice a5 (subst (Zff (Zed.zip ts)) t).ps.length c5 e5] false]=h6
   have s6:Zbc h5.length h5 h6:=by rw [← hh6]; exact Zam
   have n6:h6[h5.length]?=some (.cells Zai [.int .u8 ((subst (Zff (Zed.zip ts)) t).hd:Int),.slice a5 (subst (Zff (Zed.zip ts)) t).ps.length c5 e5] false):=by rw [← hh6]; simp
   rw [Zbk n6]
   simp only [Zaq,Zaf,Zan,Zar,Zae]
   have rt6:=rt5.same s6
   refine (Zqz _ (Nat.le_refl _) hl5 rt6).mono ?_
   rintro v h7 ⟨rfl,s7⟩
   simp only [Zar]
   have K7:=((K4.trans (Zdu.of_same s5)).trans (Zdu.of_same s6)).trans (Zdu.of_same s7)
   have R7:=((R4.same s5).same s6).same s7
   refine Zat (fun _=>leaf _ K7 p4 hp1 (by omega) R7) (fun hsm=>?_)
   rw [Zbk (s7.get n6 (Own.lt n6))]
   simp only [Zaq,Zaf,Zan,Zar,Zae]
   refine (Zpm _ (Nat.le_refl _) hl5 hok5 (rt6.same s7)).mono ?_
   rintro v h8 ⟨rfl,s8⟩
   simp only [Zal]
   exact ⟨_,rfl,by omega,K7.trans (Zdu.of_same s8),p4,hp1,by omega,R7.same s8⟩
 ·exact (hm.agree (h':=h3) fun j hj=>by rw [s3.eq j (by have:=hj.2; omega),s2.eq j hj.2]).mono fun j hj=>⟨by have:=hj.2; omega,by have:=hj.1; omega,by have:=hj.2; omega⟩
end Go.Sim

set_option linter.unusedVariables false
set_option linter.unusedSimpArgs false
set_option maxRecDepth 20000
namespace Go.Sim
open Go Go.RowKit

end Go.Sim

set_option linter.unusedSimpArgs false
set_option linter.unusedVariables false
namespace Go.Sim

def Up (cs:List Nd) (a b:Nat):Prop:=∃ i,∃ h:i < cs.length,cs[i].1=[a]∧b∈cs[i].2
inductive Rch (cs:List Nd) (a:Nat):Nat→Prop
 | one {b:Nat}:Up cs a b→Rch cs a b
 | more {b c:Nat}:Rch cs a b→Up cs b c→Rch cs a c
theorem Ybx {cs:List Nd} (h:Zkg cs=true) {i:Nat} (hi:i < cs.length):Zzr cs i=true:=by
 unfold Zkg at h
 simp only [Bool.and_eq_true,List.all_eq_true] at h
 exact h.1 i (List.mem_range.2 hi)
theorem Yqn {cs:List Nd} (h:Zkg cs=true) {i:Nat} (hi:i < cs.length):∃ d,cs[i].1=[d]∧65≤d∧d≤84:=by
 have:=Ybx h hi
 unfold Zzr at this
 rw [Zfd hi] at this
 simp only [Bool.and_eq_true] at this
 have h1:=this.1.1
 unfold Ztz at h1
 split at h1
 ·rename_i d hd; exact ⟨d,hd,by simpa using h1⟩
 ·cases h1
theorem Ycs {cs:List Nd} (h:Zkg cs=true) {i:Nat} (hi:i + 1 < cs.length) {a b:Nat} (ha:cs[i].1=[a]) (hb:cs[i + 1].1=[b]):a < b:=by
 have:=Ybx h hi
 unfold Zzr at this
 rw [Zfd hi,Nat.add_sub_cancel,Zfd (by omega),ha,hb] at this
 simp only [Bool.and_eq_true] at this
 have h1:=this.1.2
 simpa [Zeo] using h1
theorem Ybb {cs:List Nd} (h:Zkg cs=true):∀ (k i:Nat) (hi:i + k + 1 < cs.length) {a b:Nat},cs[i].1=[a]→cs[i + k + 1].1=[b]→a < b
 | 0,i,hi,a,b,ha,hb=>Ycs h hi ha hb
 | k + 1,i,hi,a,b,ha,hb=>by
  obtain ⟨d,hd,_⟩:=Yqn h (show i + k + 1 < cs.length by omega)
  have h1:=Ybb h k i (by omega) ha hd
  have h2:=Ycs h (i:=i + k + 1) (by omega) hd hb
  omega
theorem Yex {cs:List Nd} (h:Zkg cs=true) {i j:Nat} (hi:i < cs.length) (hj:j < cs.length) {a:Nat} (ha:cs[i].1=[a]) (hb:cs[j].1=[a]):i=j:=by
 rcases Nat.lt_trichotomy i j with hl | he | hl
 ·obtain ⟨k,rfl⟩:∃ k,j=i + k + 1:=⟨j - i - 1,by omega⟩
  have:=Ybb h k i hj ha hb; omega
 ·exact he
 ·obtain ⟨k,rfl⟩:∃ k,i=j + k + 1:=⟨i - j - 1,by omega⟩
  have:=Ybb h k j hi hb ha; omega
theorem Ztv {cs:List Nd} (h:Zkg cs=true) {i:Nat} (hi:i < cs.length) {b:Nat} (hb:b∈cs[i].2):∃ j,∃ hj:j < i,cs[j].1=[b]:=by
 have:=Ybx h hi
 unfold Zzr at this
 rw [Zfd hi] at this
 simp only [Bool.and_eq_true] at this
 have h1:=this.2
 unfold Yds at h1
 rw [List.all_eq_true] at h1
 obtain ⟨k,hk,rfl⟩:=List.mem_iff_getElem.1 hb
 have h2:=h1 k (List.mem_range.2 hk)
 unfold Zzu at h2
 rw [Zfd hk] at h2
 simp only [Bool.and_eq_true] at h2
 have h3:=h2.1
 unfold Zfz at h3
 rw [List.any_eq_true] at h3
 obtain ⟨x,hx,he⟩:=h3
 obtain ⟨j,hj,rfl⟩:=List.mem_iff_getElem.1 hx
 rw [List.length_take] at hj
 exact ⟨j,by omega,by simpa using he⟩
theorem Up.ix {cs:List Nd} (h:Zkg cs=true) {a b i:Nat} (u:Up cs a b) (hi:i < cs.length) (ha:cs[i].1=[a]):b∈cs[i].2:=by
 obtain ⟨j,hj,hja,hb⟩:=u
 have:=Yex h hi hj ha hja
 subst this; exact hb
theorem Rch.ix {cs:List Nd} (h:Zkg cs=true) {a b i:Nat} (r:Rch cs a b) (hi:i < cs.length) (ha:cs[i].1=[a]):∃ j,∃ hj:j < i,cs[j].1=[b]:=by
 induction r with
 | one u=>exact Ztv h hi (u.ix h hi ha)
 | more _ u ih=>
  obtain ⟨j,hj,hb⟩:=ih
  obtain ⟨k,hk,hc⟩:=Ztv h (show j < cs.length by omega) (u.ix h (by omega) hb)
  exact ⟨k,by omega,hc⟩
structure Ycf (cs:List Nd) (a:Nat) (i:Nat) (ab:List Nat):Prop where
 sound:∀ d∈ab,Rch cs a d
 done:∀ j,i≤j→∀ hj:j < cs.length,(cs[j].1=[a] ∨ ∃ d,cs[j].1=[d]∧d∈ab)→∀ b∈cs[j].2,b∈ab
theorem Ycf.step {cs:List Nd} (h:Zkg cs=true) {a i:Nat} {ab:List Nat} (D:Ycf cs a (i + 1) ab) (hi:i < cs.length) (hc:cs[i].1=[a] ∨ ∃ d,cs[i].1=[d]∧d∈ab):Ycf cs a i (ab ++ cs[i].2):=by
 refine ⟨fun d hd=>?_,fun j hj hjl hcj b hb=>?_⟩
 ·rcases List.mem_append.1 hd with hd | hd
  ·exact D.sound d hd
  ·rcases hc with hc | ⟨e,he,hm⟩
   ·exact .one ⟨i,hi,hc,hd⟩
   ·exact .more (D.sound e hm) ⟨i,hi,he,hd⟩
 ·by_cases hji:j=i
  ·subst hji; exact List.mem_append_right _ hb
  ·refine List.mem_append_left _ (D.done j (by omega) hjl ?_ b hb)
   rcases hcj with hcj | ⟨e,he,hm⟩
   ·exact .inl hcj
   ·rcases List.mem_append.1 hm with hm | hm
    ·exact .inr ⟨e,he,hm⟩
    ·exfalso
     obtain ⟨k,hk,hke⟩:=Ztv h hi hm
     have:=Yex h hjl (show k < cs.length by omega) he hke
     omega
theorem Ycf.skip {cs:List Nd} {a i:Nat} {ab:List Nat} (D:Ycf cs a (i + 1) ab) (hc:∀ hi:i < cs.length,¬ (cs[i].1=[a] ∨ ∃ d,cs[i].1=[d]∧d∈ab)):Ycf cs a i ab:=
 ⟨D.sound,fun j hj hjl hcj b hb=>by
  by_cases hji:j=i
  ·subst hji; exact absurd hcj (hc hjl)
  ·exact D.done j (by omega) hjl hcj b hb⟩
theorem Ycf.all {cs:List Nd} (h:Zkg cs=true) {a i:Nat} {ab:List Nat} (D:Ycf cs a 0 ab) (hi:i < cs.length) (ha:cs[i].1=[a]) (d:Nat):d∈ab ↔ Rch cs a d:=by
 refine ⟨D.sound d,fun r=>?_⟩
 induction r with
 | one u=>exact D.done i (by omega) hi (.inl ha) _ (u.ix h hi ha)
 | more r u ih=>
  obtain ⟨j,hj,hb⟩:=r.ix h hi ha
  exact D.done j (by omega) (by omega) (.inr ⟨_,hb,ih⟩) _ (u.ix h (by omega) hb)
structure Ysy (cs:List Nd) (a i:Nat) (r:Nat) (ab:List Nat):Prop where
 sound:∀ d∈ab,Rch cs a d
 first:∀ d,Up cs a d→d∈ab
 near:∀ j,j < i→i≤j + 1 + r→∀ hj:j < cs.length,∀ d,cs[j].1=[d]→Rch cs a d→d∈ab
theorem Ysy.next {cs:List Nd} (h:Zkg cs=true) {a i r:Nat} {ab ab':List Nat} (R:Ysy cs a i r ab) (hi:i < cs.length) (ha:cs[i].1=[a])
  (hs:∀ d∈ab',d∈ab ∨ ∃ e∈ab,Up cs e d) (hc:∀ d,(d∈ab ∨ ∃ e∈ab,Up cs e d)→d∈ab'):Ysy cs a i (r + 1) ab':=by
 refine ⟨fun d hd=>?_,fun d u=>hc d (.inl (R.first d u)),fun j hj hn hjl d hd rc=>?_⟩
 ·rcases hs d hd with hd | ⟨e,he,u⟩
  ·exact R.sound d hd
  ·exact .more (R.sound e he) u
 ·cases rc with
  | one u=>exact hc d (.inl (R.first d u))
  | more rc u=>
   rename_i e
   obtain ⟨k,hk,hb⟩:=rc.ix h hi ha
   have hjk:j < k:=by
    obtain ⟨q,hq,hcq⟩:=Ztv h (show k < cs.length by omega) (u.ix h (by omega) hb)
    have:=Yex h hjl (show q < cs.length by omega) hd hcq
    omega
   exact hc d (.inr ⟨e,R.near k hk (by omega) (by omega) e hb rc,u⟩)
theorem Ysy.all {cs:List Nd} (h:Zkg cs=true) {a i r:Nat} {ab:List Nat} (R:Ysy cs a i r ab) (hi:i < cs.length) (ha:cs[i].1=[a]) (hr:i≤r + 1) (d:Nat):d∈ab ↔ Rch cs a d:=by
 refine ⟨R.sound d,fun rc=>?_⟩
 obtain ⟨j,hj,hd⟩:=rc.ix h hi ha
 exact R.near j hj (by omega) (by omega) d hd rc
end Go.Sim

set_option linter.unusedVariables false
set_option linter.unusedSimpArgs false
set_option maxRecDepth 20000
namespace Go.Sim
open Go Go.RowKit

theorem Yeu {h:Zaa} {a0 a1:Pt} {n0 c0 n1 c1:Nat} {e0 e1:Bool} {w:Wd} {s:List Nat} (r:Zmc h a0 n0 c0 a1 n1 c1 w) (b:WB w) :
  Zah pg Zns [.agg [.slice a0 n0 c0 e0,.slice a1 n1 c1 e1],.str s] h fun v h'=>v=.bool (Zeg w && Zfz w.cs s)∧Zbc h.length h h':=by
 have hl0:=r.len0
 have hlc:=b.lc
 apply Zsb.call
 simp only [Zaw]
 generalize hh0:h ++ [Zcd.cells Zab [.slice a0 n0 c0 e0,.slice a1 n1 c1 e1] false]=h0
 have s0:Zbc h.length h h0:=by rw [← hh0]; exact Zam
 have w0:h0[h.length]?=some (Znk a0 n0 c0 e0 a1 n1 c1 e1):=by rw [← hh0]; simp [Znk]
 rw [Zwe w0]
 simp only [Zaq,Zaf,Zan,Zae]
 refine (Zki (r.same s0) b).mono ?_
 rintro v h2 ⟨rfl,s2⟩
 have w2:=s2.get w0 (Own.lt w0)
 simp only [Zap]
 refine Zcv (fun b1=>?_) (fun b1=>⟨by rw [b1]; rfl,s0.cat s2⟩)
 simp only [Zoi w2,Nat.zero_add,List.getElem?_cons_zero,Zae]
 refine (Zum (r.cls.same' (s0.cat s2)) (by omega)).mono ?_
 rintro v h3 ⟨rfl,s3⟩
 simp only [Zap]
 exact ⟨by rw [b1]; rfl,(s0.cat s2).cat s3⟩
theorem Ycl {h:Zaa} {a0 a1:Pt} {n0 c0 n1 c1:Nat} {e0 e1:Bool} {w:Wd} {s:List Nat} (r:Zmc h a0 n0 c0 a1 n1 c1 w) (b:WB w) :
  Zah pg Zob [.agg [.slice a0 n0 c0 e0,.slice a1 n1 c1 e1],.str s] h fun v h'=>v=.bool (Zeg w && Zfz w.cs s)∧Zbc h.length h h':=by
 have hl0:=r.len0
 have hlc:=b.lc
 apply Zsa.call
 simp only [Zaw]
 generalize hh0:h ++ [Zcd.cells Zab [.slice a0 n0 c0 e0,.slice a1 n1 c1 e1] false]=h0
 have s0:Zbc h.length h h0:=by rw [← hh0]; exact Zam
 have w0:h0[h.length]?=some (Znk a0 n0 c0 e0 a1 n1 c1 e1):=by rw [← hh0]; simp [Znk]
 rw [Zwe w0]
 simp only [Zaq,Zaf,Zan,Zae]
 refine (Zjg (r.same s0) b).mono ?_
 rintro v h2 ⟨rfl,s2⟩
 have w2:=s2.get w0 (Own.lt w0)
 simp only [Zap]
 refine Zcv (fun b1=>?_) (fun b1=>⟨by rw [b1]; rfl,s0.cat s2⟩)
 rw [Zwe w2]
 simp only [Zaq,Zaf,Zan,Zae]
 refine (Zpx (r.cls.same' (s0.cat s2)) (by omega)).mono ?_
 rintro v h3 ⟨rfl,s3⟩
 simp only [Zar,Ycx]
 exact ⟨by rw [b1]; rfl,(s0.cat s2).cat s3⟩
end Go.Sim

set_option linter.unusedVariables false
set_option linter.unusedSimpArgs false
set_option maxRecDepth 20000
namespace Go.Sim
open Go Go.RowKit

end Go.Sim

set_option linter.unusedVariables false
set_option linter.unusedSimpArgs false
set_option maxRecDepth 20000
namespace Go.Sim
open Go Go.RowKit

structure Ytt (b:Nat) (h:Zaa) (a:Pt) (n c:Nat) (l:List Nd):Prop where
 vec:Vec Zad h a n c (Zdn eP l)
 len:l.length=n
 low:∀ i,a=some (i,0)→b≤i
 cap:n≤c
theorem Ytt.row {b:Nat} {h:Zaa} {a:Pt} {n c:Nat} {l:List Nd} (f:Ytt b h a n c l):Row h.length h a (n * 2) (Zdn eP l):=f.vec.row (by rw [Zay Zea,f.len])
theorem Ytt.same {b:Nat} {h h':Zaa} {a:Pt} {n c:Nat} {l:List Nd} (f:Ytt b h a n c l) (s:Zbc h.length h h'):Ytt b h' a n c l:=⟨f.vec.same s,f.len,f.low,f.cap⟩
def But (a:Pt) (h h':Zaa):Prop:=h.length≤h'.length∧∀ j,j < h.length→(∀ i,a=some (i,0)→j≠i)→h'[j]?=h[j]?
theorem But.of {a:Pt} {h h':Zaa} (s:Zbc h.length h h'):But a h h':=⟨s.le,fun j hj _=>s.eq j hj⟩
theorem But.below {a:Pt} {b:Nat} {h h':Zaa} (s:But a h h') (hb:b≤h.length) (hl:∀ i,a=some (i,0)→b≤i):Zbc b h h':=⟨s.1,fun j hj=>s.2 j (by omega) fun i hi=>by have:=hl i hi; omega⟩
end Go.Sim

set_option linter.unusedSimpArgs false
set_option linter.unusedVariables false
namespace Go.Sim

structure Wk where
 cand:Nd→List Int
 needs:Int→List Nat→Option (List Nd)
 most:List Int→Int
inductive Fnd where
 | ok (s:List Nat)
 | no (why:List Nat) (n:Nd)
end Go.Sim

set_option linter.unusedVariables false
set_option linter.unusedSimpArgs false
set_option maxRecDepth 20000
namespace Go.Sim
open Go Go.RowKit

structure FrS (i:Nat) (qa:Pt) (h h':Zaa) (qa':Pt):Prop where
 le:h.length≤h'.length
 eq:∀ j,j < h.length→j≠i→(∀ q,qa=some (q,0)→j≠q)→h'[j]?=h[j]?
 pt:qa'=qa ∨ ∀ q,qa'=some (q,0)→h.length≤q
theorem FrS.of_same {i:Nat} {qa:Pt} {h h':Zaa} (s:Zbc h.length h h'):FrS i qa h h' qa:=⟨s.le,fun j hj _ _=>s.eq j hj,.inl rfl⟩
theorem FrS.refl (i:Nat) (qa:Pt) (h:Zaa):FrS i qa h h qa:=.of_same (Zbc.refl _ _)
theorem FrS.ne {i:Nat} {qa qa':Pt} {h h':Zaa} (f:FrS i qa h h' qa') {j:Nat} (hj:j < h.length) (hq:∀ q,qa=some (q,0)→j≠q):∀ q,qa'=some (q,0)→j≠q:=by
 intro q hq'
 rcases f.pt with e | e
 ·exact hq q (e ▸ hq')
 ·have:=e q hq'; omega
theorem FrS.trans {i:Nat} {qa qa1 qa2:Pt} {h h1 h2:Zaa} (f:FrS i qa h h1 qa1) (g:FrS i qa1 h1 h2 qa2):FrS i qa h h2 qa2:=by
 have:=f.le; have:=g.le
 refine ⟨by omega,fun j hj hi hq=>?_,?_⟩
 ·rw [g.eq j (by omega) hi (f.ne hj hq)]; exact f.eq j hj hi hq
 ·rcases g.pt with e | e
  ·rcases f.pt with e' | e'
   ·exact .inl (e.trans e')
   ·exact .inr fun q hq=>e' q (e ▸ hq)
  ·exact .inr fun q hq=>by have:=e q hq; omega
theorem FrS.set {i:Nat} {qa:Pt} {h:Zaa} {x:Zcd}:FrS i qa h (h.set i x) qa:=⟨by simp,fun j _ hi _=>Zbs (fun e=>hi e.symm),.inl rfl⟩
theorem FrS.get {i:Nat} {qa qa':Pt} {h h':Zaa} (f:FrS i qa h h' qa') {j:Nat} {x:Zcd} (hj:h[j]?=some x) (hi:j≠i) (hq:∀ q,qa=some (q,0)→j≠q):h'[j]?=some x:=by rw [f.eq j (Own.lt hj) hi hq]; exact hj
theorem FrS.row {i:Nat} {qa qa':Pt} {h h':Zaa} (f:FrS i qa h h' qa') {a:Pt} {n:Nat} {cs:List Zau} (r:Row h.length h a n cs) (hn:∀ j o,n≠0→a=some (j,o)→j≠i∧∀ q,qa=some (q,0)→j≠q):Row h'.length h' a n cs:=by
 obtain ⟨hl,r⟩:=r
 by_cases h0:n=0
 ·exact ⟨hl,.inl h0⟩
 ·refine ⟨hl,r.imp id ?_⟩
  rintro ⟨j,o',t,all,ro,ha,hi,hg,x⟩
  have:=f.le
  obtain ⟨h1,h2⟩:=hn j o' h0 ha
  exact ⟨j,o',t,all,ro,ha,by omega,by rw [f.eq j hi h1 h2]; exact hg,x⟩
theorem FrS.below {i b:Nat} {qa qa':Pt} {h h':Zaa} (f:FrS i qa h h' qa') (hb:b≤h.length) (hi:b≤i) (hq:∀ q,qa=some (q,0)→b≤q):Zbc b h h':=⟨f.le,fun j hj=>f.eq j (by omega) (by omega) fun q hq'=>by have:=hq q hq'; omega⟩
end Go.Sim

set_option linter.unusedSimpArgs false
set_option linter.unusedVariables false
namespace Go.Sim

section
variable {k:Wk} {sp:Bool} {dec:Int→List Nat}
end
end Go.Sim

set_option linter.unusedVariables false
set_option linter.unusedSimpArgs false
set_option maxRecDepth 20000
namespace Go.Sim
open Go Go.RowKit

theorem Vec.app0 {P:Program} {t ty:TypeId} {h:Zaa} {i n c sz:Nat} {e:Bool} {xa:Pt} {m c':Nat} {e':Bool} {cs new:List Zau} {K:Zau→Zaa→Prop} (hi:h[i]?=some (.cells ty cs false))
  (hu:P.underlying t=some (.slice ty)) (hc:P.cellsOf ty=sz) (hok:P.okElem ty=true) (hby:P.bytesOf ty≤127) (hn:cs.length=n * sz) (hx:rowOf h xa (m * sz)=some new) (hl:new.all Zau.leaf=true)
  (hle:n + m≤1099511627776) (hk:∀ h',h'.length=h.length + 1→h'[h.length]?=some (.cells ty (cs ++ new) false)→(∀ j,j < h.length→j≠i→h'[j]?=h[j]?) →
   K (.slice (some (h.length,0)) (n + m) (n + m) false) h'):Zcz P t h (.slice (some (i,0)) n c e) (.slice xa m c' e') K:=by
 unfold Zcz
 simp only [hu,hc,hx,Zaq]
 refine ⟨⟨hok,?_,hl⟩,.inl ⟨by trivial,?_⟩⟩
 ·have:(n + m) * (P.bytesOf ty + 1)≤(n + m) * 128:=Nat.mul_le_mul_left _ (by omega)
  omega
 ·simp only [Zrs,hi,true_and]
  refine ⟨hn,hk _ (by simp) (by rw [List.getElem?_append_right (by simp)]; simp) fun j hj hne=>?_⟩
  rw [List.getElem?_append_left (by simpa using hj),List.getElem?_set_ne (fun e=>hne e.symm)]
section
variable {hb:Zaa} {i:Nat} {u v:Zau} {sp:Bool} {h:Zaa} {qa:Pt} {asked:List Nd} {fl:Nd}
end
end Go.Sim
