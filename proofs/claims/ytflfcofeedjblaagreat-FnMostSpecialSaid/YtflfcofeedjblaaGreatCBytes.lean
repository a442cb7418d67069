/- A part of the proof of a statement of this seat: see the text that holds the theorem. No condition. -/
import Derived.Test.YtflfcofeedjblaaGreatPTCDrawB
import Derived.Test.YtflfcofeedjblaaGreatCLSpecial
import Derived.Test.YtflfcofeedjblaaGreatPTCIn
import Derived.Test.YtflfcofeedjblaaGreatCSrch
import Derived.Test.YtflfcofeedjblaaGreatCTy
import Derived.Test.YtflfcofeedjblaaGreatPTCDrawY
set_option linter.unusedVariables false
set_option linter.unusedSimpArgs false
set_option linter.all false
set_option linter.unusedVariables false
set_option linter.unusedSimpArgs false
set_option maxRecDepth 20000
namespace Go.Sim
open Go Go.RowKit

def DRM (h:Zaa) (v:Zau) (h':Zaa):Prop:=∃ a0 n0 c0 e0 a1 n1 c1 e1 w,∃ nd:Nd,v=.tup [.agg [.slice a0 n0 c0 e0,.slice a1 n1 c1 e1],.agg [.str nd.1,.str nd.2]]∧Zbc h.length h h'∧Zmc h' a0 n0 c0 a1 n1 c1 w∧WB w∧nd.1.length≤1000∧nd.2.length≤1000
theorem Ykf {h:Zaa} {a:Pt} {n c:Nat} {e:Bool} {l:List Nat} (r:Row h.length h a n (Zdn eB l)) (hb:∀ b∈l,b < 256) (hnc:n≤c) :
  Zah pg Zgi [.slice a n c e] (h ++ [.cells Zab [.slice none 0 0 true,.slice none 0 0 true] false] ++ [.cells Zad [.str [],.str []] false]) fun v_2 h_3=>
   Zhh (some v_2) fun a_4=>Zah pg Znh [.ptr a_4] h_3 fun v_5 h_6=>
   Zny v_5 fun cs_7=>Zaj cs_7 fun c_8 r_9=>Znt c_8 fun cs_10=>Zaj cs_10 fun c_11 r_12=>xSl (some c_11) fun a_13 n_14 c_15 e_16=>Zaj r_12 fun c_17 r_18=>xSl (some c_17) fun a_19 n_20 c_21 e_22=>Zbv r_18 (Zaj r_9 fun c_23 r_24=>Znt c_23 fun cs_25=>Zaj cs_25 fun c_26 r_27=>Zbg (some c_26) fun s_28=>Zaj r_27 fun c_29 r_30=>Zbg (some c_29) fun s_31=>Zbv r_30 (Zbv r_24 (Zbu (Zbb h_6 (.ptr (some (List.length h,0))) [.slice a_13 n_14 c_15 e_16,.slice a_19 n_20 c_21 e_22]) fun h_32=>Zbu (Zbb h_32 (.ptr (some (List.length (h ++ [.cells Zab [.slice none 0 0 true,.slice none 0 0 true] false]),0))) [.str s_28,.str s_31]) fun h_33=>Zco (Zbj h_33 (.ptr (some (List.length h,0))) 2) fun cs_34=>Zaj cs_34 fun c_35 r_36=>xSl (some c_35) fun a_37 n_38 c_39 e_40=>Zaj r_36 fun c_41 r_42=>xSl (some c_41) fun a_43 n_44 c_45 e_46=>Zbv r_42 (Zco (Zbj h_33 (.ptr (some (List.length (h ++ [.cells Zab [.slice none 0 0 true,.slice none 0 0 true] false]),0))) 2) fun cs_47=>Zaj cs_47 fun c_48 r_49=>Zbg (some c_48) fun s_50=>Zaj r_49 fun c_51 r_52=>Zbg (some c_51) fun s_53=>Zbv r_52 (DRM h (.tup [.agg [.slice a_37 n_38 c_39 e_40,.slice a_43 n_44 c_45 e_46],.agg [.str s_50,.str s_53]]) h_33))))):=by
 generalize hg0:h ++ [Zcd.cells Zab [.slice none 0 0 true,.slice none 0 0 true] false]=g0
 have s0:Zbc h.length h g0:=by rw [← hg0]; exact Zam
 have w0:g0[h.length]?=some (.cells Zab [.slice none 0 0 true,.slice none 0 0 true] false):=by rw [← hg0]; simp
 have l0:g0.length=h.length + 1:=by rw [← hg0]; simp
 generalize hg1:g0 ++ [Zcd.cells Zad [.str [],.str []] false]=g1
 have s1:Zbc g0.length g0 g1:=by rw [← hg1]; exact Zam
 have w1:=s1.get w0 (Own.lt w0)
 have n1':g1[g0.length]?=some (.cells Zad [.str [],.str []] false):=by rw [← hg1]; simp
 have l1:g1.length=g0.length + 1:=by rw [← hg1]; simp
 have S1:=s0.cat s1
 refine (Zsp (r.same' S1) hb hnc).mono ?_
 rintro v g2 ⟨rfl,s2,R2,l2⟩
 simp only [Zhr]
 have w2:=s2.get w1 (Own.lt w1)
 have n2:=s2.get n1' (Own.lt n1')
 refine (Ylb R2 (by omega)).mono ?_
 rintro v g3 ⟨u,w,nd,rfl,⟨a0,n0,c0,e0,q,n1,c1,e1,ys,rfl,d⟩,ws,hn1,hn2,K3,p3,_,_,R3⟩
 have w3:=K3.get w2 (by omega)
 have n3:=K3.get n2 (by omega)
 simp only [Zct,Zaf,Zdc,Zae,Zal,Zan]
 rw [Zbd w3 (by simp)]
 simp only [Zas,putRow,List.take_zero,List.length_cons,List.length_nil,List.drop_succ_cons,List.drop_zero,List.drop_nil,List.cons_append,List.nil_append,List.append_nil,Nat.zero_add]
 have w4:=Zbz w3 (x:=.cells Zab [.slice a0 n0 c0 e0,.slice (some (q,0)) n1 c1 e1] false)
 have n4:(g3.set h.length (.cells Zab [.slice a0 n0 c0 e0,.slice (some (q,0)) n1 c1 e1] false))[g0.length]?=some (.cells Zad [.str [],.str []] false):=by rw [Zbs (by omega)]; exact n3
 rw [Zbd n4 (by simp)]
 simp only [Zas,putRow,List.take_zero,List.length_cons,List.length_nil,List.drop_succ_cons,List.drop_zero,List.drop_nil,List.cons_append,List.nil_append,List.append_nil,Nat.zero_add]
 have w5:((g3.set h.length (.cells Zab [.slice a0 n0 c0 e0,.slice (some (q,0)) n1 c1 e1] false)).set g0.length (.cells Zad [.str nd.1,.str nd.2] false))[h.length]?=some (.cells Zab [.slice a0 n0 c0 e0,.slice (some (q,0)) n1 c1 e1] false):=by rw [Zbs (by omega)]; exact w4
 rw [Zbk w5,Zbk (Zbz n4)]
 simp only [Zaq,Zaf,Zan,Zae,Zal]
 have K3l:=K3.le
 exact ⟨a0,n0,c0,e0,_,n1,c1,e1,w,nd,rfl,⟨by simp; omega,fun j hj=>by rw [Zbs (by omega),Zbs (by omega),K3.eq j (by omega) (by omega),s2.eq j (by omega)]; exact S1.eq j hj⟩,((d.setN (by omega)).setN (by omega)).rep,ws.wb (by omega),hn1,hn2⟩
theorem Yfi {h:Zaa} {a:Pt} {n c:Nat} {e:Bool} {l:List Nat} (r:Row h.length h a n (Zdn eB l)) (hb:∀ b∈l,b < 256) (hnc:n≤c):Zah pg Zhj [.slice a n c e] h (DRM h):=by
 apply Zlj.call
 simp only [Zaw]
 exact Ykf r hb hnc
def DWX (h:Zaa) (v:Zau) (h':Zaa):Prop:=∃ a0 n0 c0 e0 a1 n1 c1 e1 w,∃ t:List Nat,v=.tup [.agg [.slice a0 n0 c0 e0,.slice a1 n1 c1 e1],.str t]∧Zbc h.length h h'∧Zmc h' a0 n0 c0 a1 n1 c1 w∧WB w∧t.length≤1000∧∃ b q ys,b=h.length + 1∧a1=some (q,0)∧WDr b h' a0 n0 c0 q n1 c1 ys w
theorem Zxr {h:Zaa} {a:Pt} {n c:Nat} {e:Bool} {l:List Nat} (r:Row h.length h a n (Zdn eB l)) (hb:∀ b∈l,b < 256) (hnc:n≤c):Zah pg Zjx [.slice a n c e] h (DWX h):=by
 apply Zoe.call
 simp only [Zaw]
 generalize hg0:h ++ [Zcd.cells Zab [.slice none 0 0 true,.slice none 0 0 true] false]=g0
 have s0:Zbc h.length h g0:=by rw [← hg0]; exact Zam
 have w0:g0[h.length]?=some (.cells Zab [.slice none 0 0 true,.slice none 0 0 true] false):=by rw [← hg0]; simp
 have l0:g0.length=h.length + 1:=by rw [← hg0]; simp
 refine (Zsp (r.same' s0) hb hnc).mono ?_
 rintro v g2 ⟨rfl,s2,R2,l2⟩
 simp only [Zhr]
 have w2:=s2.get w0 (Own.lt w0)
 refine (Zus R2 (by omega)).mono ?_
 rintro v g3 ⟨u,w,rfl,⟨a0,n0,c0,e0,q,n1,c1,e1,ys,rfl,d⟩,ws,K3,p3,hp1,hp2,R3⟩
 have w3:=K3.get w2 (by omega)
 have l3:=K3.le
 simp only [Zdc,Zaf,Zae,Zan]
 rw [Zfk]
 simp only [Zas]
 generalize hg4:g3 ++ [Zcd.cells Zab [.slice a0 n0 c0 e0,.slice (some (q,0)) n1 c1 e1] false]=g4
 have s4:Zbc g3.length g3 g4:=by rw [← hg4]; exact Zam
 have y4:g4[g3.length]?=some (.cells Zab [.slice a0 n0 c0 e0,.slice (some (q,0)) n1 c1 e1] false):=by rw [← hg4]; simp
 have w4:=s4.get w3 (Own.lt w3)
 have d4:=d.same s4
 have R4:=R3.same s4
 rw [Zbk y4]
 simp only [Zaq,Zaf,Zan,Zae,true_and]
 refine (Zyh R4 (by omega) d4 (by omega) ws).mono ?_
 rintro v g5 ⟨s,rfl,hs,K5,p5,hp3,hp4,R5⟩
 have y5:=K5.get y4 (by omega)
 have w5:=K5.get w4 (by omega)
 have d5:=d4.kp K5 (by omega)
 have hl4:=s4.le
 have hl5:=K5.le
 simp only [Zal]
 refine ⟨Zbk y5,?_⟩
 rw [Zbd w5 (by simp)]
 simp only [Zas,putRow,List.take_zero,List.length_cons,List.length_nil,List.drop_succ_cons,List.drop_zero,List.drop_nil,List.cons_append,List.nil_append,List.append_nil,Nat.zero_add]
 rw [Zbk (Zbz w5)]
 simp only [Zaq,Zaf,Zan,Zae]
 have dX:=(d5.setN (z:=h.length) (x:=.cells Zab [.slice a0 n0 c0 e0,.slice (some (q,0)) n1 c1 e1] false) (by omega)).low (show h.length + 1≤g2.length by omega)
 exact ⟨a0,n0,c0,e0,_,n1,c1,e1,w,s,rfl,⟨by simp; omega,fun j hj=>by rw [Zbs (by omega),K5.eq j (by omega) (by omega),s4.eq j (by omega),K3.eq j (by omega) (by omega),s2.eq j (by omega)]; exact s0.eq j hj⟩,dX.rep,ws.wb (by omega),hs,_,q,ys,rfl,rfl,dX⟩
theorem Zto {h:Zaa} {a:Pt} {n c:Nat} {e:Bool} {l:List Nat} (r:Row h.length h a n (Zdn eB l)) (hb:∀ b∈l,b < 256) (hnc:n≤c):Zah pg Zgu [.slice a n c e] h (DWX h):=by
 apply Zku.call
 simp only [Zaw]
 generalize hg0:h ++ [Zcd.cells Zab [.slice none 0 0 true,.slice none 0 0 true] false]=g0
 have s0:Zbc h.length h g0:=by rw [← hg0]; exact Zam
 have w0:g0[h.length]?=some (.cells Zab [.slice none 0 0 true,.slice none 0 0 true] false):=by rw [← hg0]; simp
 have l0:g0.length=h.length + 1:=by rw [← hg0]; simp
 refine (Zxr (r.same' s0) hb hnc).mono ?_
 rintro v g2 ⟨a0,n0,c0,e0,a1,n1,c1,e1,w,s,rfl,s2,rep,wb,hs,b,q,ys,rfl,rfl,d⟩
 have w2:=s2.get w0 (Own.lt w0)
 simp only [Zct,Zdc,Zaf,Zae,Zal,Zan]
 rw [Zbd w2 (by simp)]
 simp only [Zas,putRow,List.take_zero,List.length_cons,List.length_nil,List.drop_succ_cons,List.drop_zero,List.drop_nil,List.cons_append,List.nil_append,List.append_nil,Nat.zero_add]
 rw [Zbk (Zbz w2)]
 simp only [Zaq,Zaf,Zan,Zae]
 have hl2:=s2.le
 have dX:=(d.setN (z:=h.length) (x:=.cells Zab [.slice a0 n0 c0 e0,.slice (some (q,0)) n1 c1 e1] false) (by omega)).low (show h.length + 1≤g0.length + 1 by omega)
 exact ⟨a0,n0,c0,e0,_,n1,c1,e1,w,s,rfl,⟨by simp; omega,fun j hj=>by rw [Zbs (by omega),s2.eq j (by omega)]; exact s0.eq j hj⟩,dX.rep,wb,hs,_,q,ys,rfl,rfl,dX⟩
end Go.Sim

set_option linter.unusedVariables false
set_option linter.unusedSimpArgs false
set_option maxRecDepth 20000
namespace Go.Sim
open Go Go.RowKit

def Ybi (s:List Nat) (i:Ins):Bool:=decide (i.1.1=s)
def Zyw (w:Wd) (s:List Nat):List Int:=ixs (Ybi s) w.is
noncomputable def Znz (w:Wd) (s:List Nat):List Int:=if Zeg w && Zfz w.cs s then Zyw w s else []
def Yfk (w:Wd) (s:List Nat) (h:Zaa) (v:Zau) (h':Zaa):Prop:=Zbc h.length h h'∧∃ a m c e,v=.tup [.slice a m c e,.bool (Zeg w && Zfz w.cs s)]∧Zdh Zfw eI h.length h' a m (Znz w s)
theorem Ylv {h:Zaa} {a:Pt} {n c:Nat} {e:Bool} {ct tt:List Nat}:Zah pg Zci [.agg [.str ct,.str tt,.slice a n c e]] h fun v h'=>v=.bool true∧Zbc h.length h h':=by
 apply Zkf.call
 simp only [Zaw]
 exact ⟨by trivial,Zam⟩
theorem Ykt {h:Zaa} {a0 a1:Pt} {n0 c0 n1 c1:Nat} {e0 e1:Bool} {w:Wd} {s:List Nat} (r:Zmc h a0 n0 c0 a1 n1 c1 w) (b:WB w) :
  Zah pg Zkc [.agg [.slice a0 n0 c0 e0,.slice a1 n1 c1 e1],.str s,.fn Zci []] h fun v h'=>Zbc h.length h h'∧∃ a n c e,v=.slice a n c e∧Zdh Zfw eI h.length h' a n (Zyw w s):=by
 have hl1:=r.len1
 have hli:=b.li
 apply Zcg.call
 simp only [Zaw]
 generalize hh0:h ++ [Zcd.cells Zab [.slice a0 n0 c0 e0,.slice a1 n1 c1 e1] false]=h0
 generalize hh1:h0 ++ [Zcd.cells Zfw [] false]=h1
 have s0:Zbc h.length h h0:=by rw [← hh0]; exact Zam
 have s1:Zbc h0.length h0 h1:=by rw [← hh1]; exact Zam
 have w0:h0[h.length]?=some (Znk a0 n0 c0 e0 a1 n1 c1 e1):=by rw [← hh0]; simp [Znk]
 have w1:=s1.get w0 (Own.lt w0)
 have o1:h1[h0.length]?=some (.cells Zfw [] false):=by rw [← hh1]; simp
 have l0:h0.length=h.length + 1:=by rw [← hh0]; simp
 have S1:=s0.cat s1
 simp only [Zoi w1,Nat.zero_add,List.getElem?_cons_succ,List.getElem?_cons_zero,Zae]
 refine Zcg.L3ind (J:=fun (g:Nat) a4 n4 c4 e4 x14 h'=>x14=(g:Int)∧g≤n1∧Zbc h.length h h'∧n4=(ixs (Ybi s) (w.is.take g)).length∧Vec Zfw h' a4 n4 c4 (Zdn eI (ixs (Ybi s) (w.is.take g)))∧(∀ i,a4=some (i,0)→h.length≤i)) (m:=fun g=>n1 - g) (hr:=?_) (g:=0)
  (hj:=⟨rfl,by omega,S1,rfl,Vec.mk1 (by simpa [ixs] using o1),fun i hi=>by cases hi; omega⟩) ..
 rintro g a4 n4 c4 e4 x14 h' ⟨rfl,hg,hS,rfl,hv,ha⟩ R hR
 unfold Zcg.L3t
 refine Zat (fun hlt=>?_) (fun hge=>?_)
 ·have hgl:g < w.is.length:=by omega
  obtain ⟨i,o,a2,n2,c2,e2,rfl,_,hr,_,_,hrow,hn⟩:=Zhm (r.same hS) hgl
  simp only [Zav,Int.toNat_natCast,hr,Zaq,Zaf,Zan,Zal,Zae,Zaw]
  rw [Ybr]
  simp only [Zas,Zey,Nat.zero_add,List.getElem?_cons_succ,List.getElem?_cons_zero,Zal]
  have hil:=Zqm (Ybi s) (w.is.take g)
  rw [List.length_take] at hil
  have htk:=Zwy (Ybi s) hgl
  generalize hq:h' ++ [Zcd.cells Zac [.str w.is[g].1.1,.str w.is[g].1.2,.slice a2 n2 c2 e2] false]=hq'
  have sq:Zbc h'.length h' hq':=by rw [← hq]; exact Zam
  refine ⟨by omega,Zat (fun hc=>?_) (fun hc=>?_)⟩
  ·rw [← hq,Yqf,hq]
   simp only [Zaq,Zaf,Zan,Zal,Zae]
   refine Ylv.mono ?_
   rintro v h3 ⟨rfl,s3⟩
   simp only [Zap,Zcn]
   have hyes:Ybi s w.is[g]=true:=by unfold Ybi; simp [hc]
   rw [hyes,if_pos rfl] at htk
   have S3:=(hS.cat sq).cat s3
   refine ((hv.same sq).same s3).push Yaz Yqi Yqg Ypk (by rw [Zay Zjc]; omega) rfl (by omega) (fun h6 hl6 hi6 hk6=>?_)
   simp only [Zae]
   apply Zcg.J7i
   rw [Zbl (by omega)]
   have hle:=S3.le
   refine hR (g + 1) _ _ _ _ _ _ (by omega) ⟨rfl,by omega,⟨by omega,fun j hj=>?_⟩,by rw [htk]; simp,Vec.mk1 ?_,fun i hi=>by cases hi; omega⟩
   ·rw [hk6 j (by omega) fun i hi=>by have:=ha i hi; omega]; exact S3.eq j hj
   ·rw [hi6,htk,Zia]; rfl
  ·apply Zcg.J7i
   have hno:Ybi s w.is[g]=false:=by unfold Ybi; simp [hc]
   rw [hno] at htk
   simp only [Bool.false_eq_true,if_false,List.append_nil] at htk
   rw [Zbl (by omega)]
   exact hR (g + 1) _ _ _ _ _ _ (by omega) ⟨rfl,by omega,hS.cat sq,by rw [htk],by rw [htk]; exact hv.same sq,ha⟩
 ·apply Zcg.A3x0i
  have:g=n1:=by omega
  subst this
  rw [List.take_of_length_le (by omega)] at hv ⊢
  exact ⟨hS,_,_,_,_,rfl,hv.fresh (b:=h.length) rfl fun i hi=>ha i hi⟩
theorem Zse {h:Zaa} {a0 a1:Pt} {n0 c0 n1 c1:Nat} {e0 e1:Bool} {w:Wd} {s:List Nat} (r:Zmc h a0 n0 c0 a1 n1 c1 w) (b:WB w) :
  Zah pg Zgz [.agg [.slice a0 n0 c0 e0,.slice a1 n1 c1 e1],.str s] h (Yfk w s h):=by
 apply Zoh.call
 simp only [Zaw]
 generalize hh0:h ++ [Zcd.cells Zab [.slice a0 n0 c0 e0,.slice a1 n1 c1 e1] false]=h0
 have s0:Zbc h.length h h0:=by rw [← hh0]; exact Zam
 have w0:h0[h.length]?=some (.cells Zab [.slice a0 n0 c0 e0,.slice a1 n1 c1 e1] false):=by rw [← hh0]; simp
 rw [Zbk w0]
 simp only [Zaq,Zaf,Zan,Zae]
 refine (Yeu (r.same s0) b).mono ?_
 rintro v h1 ⟨rfl,s1⟩
 simp only [Zap]
 have S1:=s0.cat s1
 refine Zbq (fun hno=>?_) (fun hyes=>?_)
 ·exact ⟨S1,none,0,0,true,by rw [hno],by unfold Znz; rw [hno]; exact ⟨rfl,.inl rfl⟩⟩
 ·rw [Zbk (s1.get w0 (Own.lt w0))]
  simp only [Zaq,Zaf,Zan,Zae]
  refine (Ykt (r.same S1) b).mono ?_
  rintro v h2 ⟨s2,a,m,c,e,rfl,f⟩
  simp only [Zae]
  exact ⟨S1.cat s2,a,m,c,e,by rw [hyes],by unfold Znz; rw [hyes,if_pos rfl]; exact f.low S1.le⟩
theorem Zwr {h:Zaa} {a0 a1:Pt} {n0 c0 n1 c1:Nat} {e0 e1:Bool} {w:Wd} {s:List Nat} (r:Zmc h a0 n0 c0 a1 n1 c1 w) (b:WB w) :
  Zah pg Zjz [.agg [.slice a0 n0 c0 e0,.slice a1 n1 c1 e1],.str s] h (Yfk w s h):=by
 have hl1:=r.len1
 have hli:=b.li
 apply Zeq.call
 simp only [Zaw]
 generalize hh0:h ++ [Zcd.cells Zab [.slice a0 n0 c0 e0,.slice a1 n1 c1 e1] false]=h0
 generalize hh1:h0 ++ [Zcd.cells Zfw [] false]=h1
 have s0:Zbc h.length h h0:=by rw [← hh0]; exact Zam
 have s1:Zbc h0.length h0 h1:=by rw [← hh1]; exact Zam
 have w0:h0[h.length]?=some (.cells Zab [.slice a0 n0 c0 e0,.slice a1 n1 c1 e1] false):=by rw [← hh0]; simp
 have w1:=s1.get w0 (Own.lt w0)
 have o1:h1[h0.length]?=some (.cells Zfw [] false):=by rw [← hh1]; simp
 have l0:h0.length=h.length + 1:=by rw [← hh0]; simp
 have S1:=s0.cat s1
 rw [Zbk w1]
 simp only [Zaq,Zaf,Zan,Zae]
 refine (Ycl (r.same S1) b).mono ?_
 rintro v h2 ⟨rfl,s2⟩
 have S2:=S1.cat s2
 have w2:=s2.get w1 (Own.lt w1)
 have o2:=s2.get o1 (Own.lt o1)
 simp only [Zap]
 refine Zbq (fun hno=>?_) (fun hyes=>?_)
 ·exact ⟨S2,_,0,0,true,by rw [hno],by unfold Znz; rw [hno]; exact ⟨rfl,.inl rfl⟩⟩
 simp only [Zao w2,Nat.zero_add,List.getElem?_cons_succ,List.getElem?_cons_zero,Zae]
 have hQ:∀ h' a n c e,Zbc h.length h h'→Zdh Zfw eI h.length h' a n (Zyw w s)→Yfk w s h (.tup [.slice a n c e,.bool true]) h':=fun h' a n c e S f=>⟨S,a,n,c,e,by rw [hyes],by unfold Znz; rw [hyes,if_pos rfl]; exact f⟩
 refine Zeq.L5ind (J:=fun (g:Nat) a4 n4 c4 e4 x14 h'=>x14=(g:Int)∧g≤n1∧Zbc h.length h h'∧n4=(ixs (Ybi s) (w.is.take g)).length∧Vec Zfw h' a4 n4 c4 (Zdn eI (ixs (Ybi s) (w.is.take g)))∧(∀ i,a4=some (i,0)→h.length≤i)) (m:=fun g=>n1 - g) (hr:=?_) (g:=0)
  (hj:=⟨rfl,by omega,S2,rfl,Vec.mk1 (by simpa [ixs] using o2),fun i hi=>by cases hi; omega⟩) ..
 rintro g a4 n4 c4 e4 x14 h' ⟨rfl,hg,hS,rfl,hv,ha⟩ R hR
 unfold Zeq.L5t
 refine Zat (fun hlt=>?_) (fun hge=>?_)
 ·have hgl:g < w.is.length:=by omega
  obtain ⟨i,o,a2,n2,c2,e2,rfl,_,hr,_,_,hrow,hn⟩:=Zhm (r.same hS) hgl
  simp only [Zav,Int.toNat_natCast,hr,Zaq,Zaf,Zan,Zal,Zae,Zaw]
  rw [Ybr]
  simp only [Zas]
  have hil:=Zqm (Ybi s) (w.is.take g)
  rw [List.length_take] at hil
  have htk:=Zwy (Ybi s) hgl
  generalize hq:h' ++ [Zcd.cells Zac [.str w.is[g].1.1,.str w.is[g].1.2,.slice a2 n2 c2 e2] false]=hq'
  have sq:Zbc h'.length h' hq':=by rw [← hq]; exact Zam
  have iq:hq'[h'.length]?=some (.cells Zac [.str w.is[g].1.1,.str w.is[g].1.2,.slice a2 n2 c2 e2] false):=by rw [← hq]; simp
  simp only [Zao iq,Nat.zero_add,Nat.add_zero,List.getElem?_cons_zero,Zal]
  refine ⟨by omega,Zat (fun hc=>?_) (fun hc=>?_)⟩
  ·have hyes:Ybi s w.is[g]=true:=by unfold Ybi; simp [hc]
   rw [hyes,if_pos rfl] at htk
   have S3:=hS.cat sq
   refine (hv.same sq).push Yaz Yqi Yqg Ypk (by rw [Zay Zjc]; omega) rfl (by omega) (fun h6 hl6 hi6 hk6=>?_)
   simp only [Zae]
   apply Zeq.J9i
   rw [Zbl (by omega)]
   have hle:=S3.le
   refine hR (g + 1) _ _ _ _ _ _ (by omega) ⟨rfl,by omega,⟨by omega,fun j hj=>?_⟩,by rw [htk]; simp,Vec.mk1 ?_,fun i hi=>by cases hi; omega⟩
   ·rw [hk6 j (by omega) fun i hi=>by have:=ha i hi; omega]; exact S3.eq j hj
   ·rw [hi6,htk,Zia]; rfl
  ·apply Zeq.J9i
   have hno:Ybi s w.is[g]=false:=by unfold Ybi; simp [hc]
   rw [hno] at htk
   simp only [Bool.false_eq_true,if_false,List.append_nil] at htk
   rw [Zbl (by omega)]
   exact hR (g + 1) _ _ _ _ _ _ (by omega) ⟨rfl,by omega,hS.cat sq,by rw [htk],by rw [htk]; exact hv.same sq,ha⟩
 ·apply Zeq.A5x0i
  have:g=n1:=by omega
  subst this
  rw [List.take_of_length_le (by omega)] at hv ⊢
  exact hQ _ _ _ _ _ hS (hv.fresh (b:=h.length) rfl fun i hi=>ha i hi)
end Go.Sim

set_option linter.unusedVariables false
set_option linter.unusedSimpArgs false
set_option maxRecDepth 20000
namespace Go.Sim
open Go Go.RowKit
theorem Ylz {h:Zaa} {a0 a1:Pt} {n0 n1 c0 c1:Nat} {e0 e1:Bool} {l0 l1:List Int} (r0:Row h.length h a0 n0 (Zdn eI l0)) (r1:Row h.length h a1 n1 (Zdn eI l1)) (hn:n0≤4611686018427387904) :
  Zah pg Zqi [.slice a0 n0 c0 e0,.slice a1 n1 c1 e1] h fun v h'=>v=.bool (decide (l0=l1))∧h'=h:=by
 have h0:l0.length=n0:=by have:=r0.1; rw [Zay Zjc] at this; omega
 have h1:l1.length=n1:=by have:=r1.1; rw [Zay Zjc] at this; omega
 apply Zky.call
 have hm:(if ((n1:Nat):Int) < ((n0:Nat):Int) then ((n1:Nat):Int) else ((n0:Nat):Int))=((min n0 n1:Nat):Int):=by split <;> omega
 rw [hm]
 refine Zky.L2ind _ _ _ _ _ _ _ _ _ _ (J:=fun (g:Nat) x11 h'=>x11=(g:Int)∧g≤min n0 n1∧h'=h∧l0.take g=l1.take g) (fun g=>min n0 n1 - g) ?_ 0 _ _ ⟨rfl,by omega,rfl,by simp⟩
 rintro g x5 h' ⟨rfl,hg,rfl,ht⟩ R hR
 unfold Zky.L2t
 refine Zat (fun hlt=>?_) (fun hge=>?_)
 ·obtain ⟨i,o,hgl,rfl,hi,hc⟩:=Row.el1 Zjc r0 (k:=g) (by omega)
  obtain ⟨i',o',hgl',rfl,hi',hc'⟩:=Row.el1 Zjc r1 (k:=g) (by omega)
  simp only [Zav,Int.toNat_natCast,hc,hc',eI,List.getElem?_cons_zero,Zar]
  refine ⟨by omega,by omega,by trivial,Zgo (fun hne=>?_) (fun he=>?_)⟩
  ·have:l0≠l1:=fun e=>by subst e; exact hne rfl
   simp [this]
  ·rw [Zbl (by omega)]
   refine hR (g + 1) _ _ (by omega) ⟨rfl,by omega,rfl,?_⟩
   rw [List.take_succ_eq_append_getElem hgl,List.take_succ_eq_append_getElem hgl',ht,he]
 ·apply Zky.A2x0i
  refine ⟨?_,rfl⟩
  congr 1
  by_cases hnn:n0=n1
  ·subst hnn
   rw [List.take_of_length_le (by omega),List.take_of_length_le (by omega)] at ht
   simp [ht]
  ·have:l0≠l1:=fun e=>by subst e; omega
   simp [this]; omega
end Go.Sim

set_option linter.unusedVariables false
set_option linter.unusedSimpArgs false
set_option maxRecDepth 20000
namespace Go.Sim
open Go Go.RowKit

theorem Ybw {w:Wd} {nd:Nd} {x:Int} (h:x∈Zhq w nd):Zeg w=true∧Zhz w nd=true∧x∈Zwv w nd:=by
 unfold Zhq at h
 split at h
 ·rename_i hc
  simp only [Bool.and_eq_true] at hc
  exact ⟨hc.1,hc.2,h⟩
 ·cases h
theorem Yon {w:Wd} {nd:Nd} (h:(Zhq w nd).length=1):0≤Zsz w nd:=by
 obtain ⟨x,hx⟩:=List.length_eq_one_iff.1 h
 have hm:x∈Zhq w nd:=by rw [hx]; simp
 obtain ⟨hw,_,_⟩:=Ybw hm
 obtain ⟨k,rfl,hk⟩:=Zxc w nd x hm
 unfold Zsz Ycz
 rw [hx]
 have:Ydy w [(k:Int)] k=true:=by unfold Ydy; simp [Zlt hk,Zzz hw hk]
 simp [List.find?_cons,this]
theorem Yrg {w:Wd} {nd:Nd} (h:0≤Zsz w nd):Zsz w nd∈Zhq w nd∧∀ x∈Zhq w nd,Zna w (Zsz w nd) x=true:=by
 unfold Zsz Ycz at *
 split at h
 ·rename_i x hx
  have hm:=List.mem_of_find?_eq_some hx
  have ht:=List.find?_some hx
  refine ⟨hm,fun y hy=>?_⟩
  obtain ⟨hw,_,_⟩:=Ybw hm
  obtain ⟨k,rfl,hk⟩:=Zxc w nd x hm
  obtain ⟨j,rfl,hj⟩:=Zxc w nd y hy
  exact Zpt.2 ⟨hw,Zmq hk,Zmq hj,List.all_eq_true.1 ht _ hy⟩
 ·omega
theorem Yie {α:Type} {f g:α→Bool} (h:∀ x,f x=true→g x=true):∀ l:List α,(l.filter f).length≤(l.filter g).length
 | []=>by simp
 | a :: l=>by
  have:=Yie h l
  by_cases hf:f a=true
  ·rw [List.filter_cons_of_pos hf,List.filter_cons_of_pos (h a hf)]; simp; exact this
  ·rw [List.filter_cons_of_neg hf]
   by_cases hg:g a=true
   ·rw [List.filter_cons_of_pos hg]; simp; omega
   ·rw [List.filter_cons_of_neg hg]; exact this
theorem Yop {w:Wd} {nd:Nd}:(Zhq w nd).length≤(Znz w nd.1).length:=by
 unfold Zhq
 split
 ·rename_i hc
  unfold Zhz at hc
  simp only [Bool.and_eq_true] at hc
  unfold Znz
  rw [hc.1,hc.2.1]
  unfold Zwv Zyw ixs
  simp only [Bool.and_self,if_true,List.length_map]
  exact Yie (fun p hp=>by unfold Zlo at hp; unfold Ybi; simp only [Bool.and_eq_true] at hp; exact hp.1) _
 ·simp
theorem Yfc {w:Wd} (b:WB w) (s:List Nat):(Znz w s).length≤1048576:=by
 have:=Zqm (Ybi s) w.is
 have:=b.li
 unfold Znz
 split
 ·unfold Zyw; omega
 ·simp
theorem lawFMost {h:Zaa} {a:Pt} {n c:Nat} {e:Bool} {l:List Nat} {a':Pt} {n' c':Nat} {e':Bool} {l':List Nat} (r:Row h.length h a n (Zdn eB l)) (hb:∀ b∈l,b < 256) (hnc:n≤c) (r':Row h.length h a' n' (Zdn eB l')) (hb':∀ b∈l',b < 256) (hnc':n'≤c') :
  Zah pg Zmy [.slice a n c e,.slice a' n' c' e'] h fun v _=>v=.bool true:=by
 apply Zdp.call
 refine Zat (fun _=>rfl) (fun _=>?_)
 refine Zat (fun _=>rfl) (fun _=>?_)
 apply Zdp.J3i
 refine (Yfi r hb hnc).mono ?_
 rintro v h1 ⟨a0,n0,c0,e0,a1,n1,c1,e1,w,nd,rfl,s1,rep,wb,hn1,hn2⟩
 simp only [Zct,Zaf,Zdc,Zae,Zal,Zan,Zaw]
 have r1:=r'.same' s1
 generalize hgA:h1 ++ [Zcd.cells Zab [.slice none 0 0 true,.slice none 0 0 true] false]=gA
 have sA:Zbc h1.length h1 gA:=by rw [← hgA]; exact Zam
 have wA:gA[h1.length]?=some (.cells Zab [.slice none 0 0 true,.slice none 0 0 true] false):=by rw [← hgA]; simp
 have lA:gA.length=h1.length + 1:=by rw [← hgA]; simp
 generalize hgB:gA ++ [Zcd.cells Zad [.str [],.str []] false]=gB
 have sB:Zbc gA.length gA gB:=by rw [← hgB]; exact Zam
 have wB:=sB.get wA (Own.lt wA)
 have nB:gB[gA.length]?=some (.cells Zad [.str [],.str []] false):=by rw [← hgB]; simp
 rw [Zbd wB (by simp)]
 simp only [Zas,putRow,List.take_zero,List.length_cons,List.length_nil,List.drop_succ_cons,List.drop_zero,List.drop_nil,List.cons_append,List.nil_append,List.append_nil,Nat.zero_add]
 have wC:=Zbz wB (x:=.cells Zab [.slice a0 n0 c0 e0,.slice a1 n1 c1 e1] false)
 have nC:(gB.set h1.length (.cells Zab [.slice a0 n0 c0 e0,.slice a1 n1 c1 e1] false))[gA.length]?=some (.cells Zad [.str [],.str []] false):=by rw [Zbs (by omega)]; exact nB
 rw [Zbd nC (by simp)]
 simp only [Zas,putRow,List.take_zero,List.length_cons,List.length_nil,List.drop_succ_cons,List.drop_zero,List.drop_nil,List.cons_append,List.nil_append,List.append_nil,Nat.zero_add]
 have x0:((gB.set h1.length (.cells Zab [.slice a0 n0 c0 e0,.slice a1 n1 c1 e1] false)).set gA.length (.cells Zad [.str nd.1,.str nd.2] false))[h1.length]?=some (.cells Zab [.slice a0 n0 c0 e0,.slice a1 n1 c1 e1] false):=by rw [Zbs (by omega)]; exact wC
 have y0:=Zbz nC (x:=.cells Zad [.str nd.1,.str nd.2] false)
 have S0:Zbc h1.length h1 ((gB.set h1.length (.cells Zab [.slice a0 n0 c0 e0,.slice a1 n1 c1 e1] false)).set gA.length (.cells Zad [.str nd.1,.str nd.2] false)):=((sA.cat sB).set' (Nat.le_refl _)).set' (by omega)
 generalize (gB.set h1.length (.cells Zab [.slice a0 n0 c0 e0,.slice a1 n1 c1 e1] false)).set gA.length (.cells Zad [.str nd.1,.str nd.2] false)=g0 at x0 y0 S0 ⊢
 have R0:=rep.same S0
 rw [Zbk x0,Zbk y0]
 simp only [Zaq,Zaf,Zan,Zae,Zal]
 refine (Zzq (nd:=nd) R0 wb).mono ?_
 rintro v g1 ⟨rfl,t1⟩
 simp only [Zar]
 have x1:=t1.get x0 (Own.lt x0)
 have y1:=t1.get y0 (Own.lt y0)
 have R1:=R0.same t1
 rw [Zbk x1,Zbk y1]
 simp only [Zaq,Zaf,Zan,Zae,Zal]
 refine (Zyj (nd:=nd) R1 wb (by omega)).mono ?_
 rintro v g2 ⟨rfl,t2⟩
 simp only [Zar,beq_self_eq_true,Bool.not_true,Zca]
 have x2:=t2.get x1 (Own.lt x1)
 have y2:=t2.get y1 (Own.lt y1)
 have R2:=R1.same t2
 rw [Zbk x2,Zbk y2]
 simp only [Zaq,Zaf,Zan,Zae,Zal]
 refine (Zsg (nd:=nd) R2 wb).mono ?_
 rintro v g3 ⟨t3,la,ln,lc,le,rfl,f⟩
 simp only [Zct,Zaf,Zae,Zap,Zan]
 have hln:=f.1
 have hcl:=Yof wb nd
 have x3:=t3.get x2 (Own.lt x2)
 have y3:=t3.get y2 (Own.lt y2)
 have R3:=R2.same t3
 have r3:=r1.same' (((S0.cat t1).cat t2).cat t3)
 have rowf:Row g3.length g3 la ln (Zdn eI (Zhq w nd)):=by have:=f.row Zjc; rwa [Nat.mul_one] at this
 refine Zat (fun hneg=>?_) (fun hpos=>?_)
 ·have:ln≠1:=fun e1=>by have:=Yon (w:=w) (nd:=nd) (by omega); omega
  show Zau.bool _=.bool true
  congr 1
  simp; omega
 obtain ⟨hin,hsp⟩:=Yrg (w:=w) (nd:=nd) (by omega)
 obtain ⟨hw,hno,_⟩:=Ybw hin
 refine Zdp.L12ind (J:=fun (g:Nat) q z k=>z=(g:Int)∧g≤ln∧Zbc g3.length g3 k∧q=decide (Zsz w nd∈(Zhq w nd).take g)) (m:=fun g=>ln - g) (hr:=?_) (g:=0) (hj:=⟨rfl,by omega,Zbc.refl _ _,by simp⟩) ..
 rintro g q z k ⟨rfl,hg,tk,rfl⟩ R hR
 have xk:=tk.get x3 (Own.lt x3)
 have yk:=tk.get y3 (Own.lt y3)
 have Rk:=R3.same tk
 unfold Zdp.L12t
 refine Zat (fun hlt=>?_) (fun hge=>?_)
 ·obtain ⟨i,o,hgl,rfl,_,hc⟩:=(rowf.same' tk).i64 (k:=g) (by omega)
  simp only [Zav,Int.toNat_natCast,hc,Zar]
  refine ⟨by omega,?_⟩
  have nxt:∀ q,q=decide (Zsz w nd∈(Zhq w nd).take (g + 1))→Zdp.J15 (fun v _=>v=.bool true) R h1.length 0 (Zsz w nd) (Zhq w nd)[g] (g:Int) (ln:Int) (some (i,o)) ln lc le q gA.length 0 a' n' c' e' (some (i,o)) ln lc le k:=by
   rintro q rfl
   apply Zdp.J15i
   rw [Zbk xk]
   simp only [Zaq,Zaf,Zan,Zae]
   refine (Zmb Rk wb).mono ?_
   rintro v k2 ⟨rfl,t2⟩
   rw [hsp _ (List.getElem_mem hgl)]
   simp only [Zap,Bool.not_true,Zca]
   apply Zdp.J17i
   rw [Zbl (by omega)]
   exact hR (g + 1) _ _ _ (by omega) ⟨rfl,by omega,tk.cat t2,rfl⟩
  refine Zcv (fun ht=>?_) (fun hf=>?_)
  ·exact nxt true (decide_eq_true ((Zso hgl).2 (.inl (of_decide_eq_true ht)))).symm
  ·refine nxt _ ?_
   have hno:=of_decide_eq_false hf
   rw [Bool.eq_iff_iff,beq_iff_eq,decide_eq_true_eq,Zso hgl]
   exact ⟨.inr,fun h=>h.resolve_left hno⟩
 ·apply Zdp.A12x0i
  have:g=ln:=by omega
  subst this
  rw [List.take_of_length_le (by omega),decide_eq_true hin]
  rw [Zbk xk]
  simp only [Zaq,Zaf,Zan,Zae,Zao yk,Nat.zero_add,Nat.add_zero,List.getElem?_cons_zero,Zal]
  refine (Zse Rk wb).mono ?_
  rintro v k1 ⟨u1,ia,im,ic,ie,rfl,fi⟩
  simp only [Zct,Zaf,Zae,Zap,Zan]
  have rk:=r3.same' (tk.cat u1)
  refine (Zto rk hb' hnc').mono ?_
  rintro v k2 ⟨b0,m0,d0,f0,b1,m1,d1,f1,w',s,rfl,u2,rep2,wb2,hs,_⟩
  simp only [Zct,Zaf,Zdc,Zae,Zal,Zan,Zaw]
  rw [Zfk]
  simp only [Zas]
  generalize hg5:k2 ++ [Zcd.cells Zab [.slice b0 m0 d0 f0,.slice b1 m1 d1 f1] false]=k3
  have u3:Zbc k2.length k2 k3:=by rw [← hg5]; exact Zam
  have z3:k3[k2.length]?=some (.cells Zab [.slice b0 m0 d0 f0,.slice b1 m1 d1 f1] false):=by rw [← hg5]; simp
  have rep3:=rep2.same u3
  rw [Zbk z3]
  simp only [Zaq,Zaf,Zan,Zae]
  refine (Zse rep3 wb2).mono ?_
  rintro v k4 ⟨u4,pa,pm,pc,pe,rfl,fp⟩
  simp only [Zct,Zaf,Zae,Zap,Zan]
  rw [Zbk (u4.get z3 (Own.lt z3))]
  simp only [Zaq,Zaf,Zan,Zae]
  refine (Zwr (rep3.same u4) wb2).mono ?_
  rintro v k5 ⟨u5,qa,qm,qc,qe,rfl,fq⟩
  simp only [Zct,Zaf,Zae,Zap,Zan]
  have hk:Zfz w.cs nd.1=true:=by unfold Zhz at hno; simp only [Bool.and_eq_true] at hno; exact hno.1
  rw [hw,hk]
  simp only [Zcn,Bool.and_self]
  have hge:g≤im:=by rw [← hln,← fi.1]; exact Yop
  refine Zat (fun _=>?_) (fun hlt=>absurd (show ((im:Nat):Int) ≥ ((g:Nat):Int) by omega) hlt)
  have row1:Row k5.length k5 pa pm (Zdn eI (Znz w' s)):=by have:=(fp.row Zjc).same' u5; rwa [Nat.mul_one] at this
  have row2:Row k5.length k5 qa qm (Zdn eI (Znz w' s)):=by have:=fq.row Zjc; rwa [Nat.mul_one] at this
  refine (Ylz row1 row2 (by have:=Yfc wb2 s; have:=fp.1; omega)).mono ?_
  rintro v k6 ⟨rfl,_⟩
  simp only [Zap,decide_true,Zcn,beq_self_eq_true]
end Go.Sim

set_option linter.unusedVariables false
set_option linter.unusedSimpArgs false
set_option maxRecDepth 20000
namespace Go.Sim
open Go Go.RowKit
theorem Yhv {P:Program} {h:Zaa} {f:Nat} {e:TypeId} (he:P.underlying e=some (.int .u8)):∀ (vs:List (List Zau)) (ds:List Dt),ds.length=vs.length→(∀ (i:Nat) (v:List Zau) (x:Dt),vs[i]?=some v→ds[i]?=some x→v.length=P.cellsOf e∧rd P h (f + 1) e v x) →
  ∃ l:List Nat,vs.flatten=Zdn eB l∧∀ z∈l,z < 256
 | [],_,_,_=>⟨[],rfl,by simp⟩
 | v :: vs,[],h,_=>by simp at h
 | v :: vs,d :: ds,hl,hall=>by
  obtain ⟨l,hfl,hs⟩:=Yhv he vs ds (by simpa using hl) fun i v x hv hx=>hall (i + 1) v x (by simpa using hv) (by simpa using hx)
  have h0:=(hall 0 v d rfl rfl).2
  simp only [rd,he] at h0
  obtain ⟨z,rfl,_,hw⟩:=h0
  simp [Lit.wf,IntKind.min,IntKind.max,IntKind.signed,IntKind.bits] at hw
  refine ⟨z.toNat :: l,?_,fun x hx=>?_⟩
  ·simp [hfl,eB]; omega
  ·rcases List.mem_cons.1 hx with rfl | hx
   ·omega
   ·exact hs x hx
theorem rd_bytes {P:Program} {h:Zaa} {f:Nat} {t e:TypeId} {cs:List Zau} {d:Dt} (ht:P.underlying t=some (.slice e)) (he:P.underlying e=some (.int .u8)) (hc:P.cellsOf e=1) (hr:rd P h (f + 2) t cs d) :
  ∃ a n c ex,∃ l:List Nat,cs=[.slice a n c ex]∧Row h.length h a n (Zdn eB l)∧∀ z∈l,z < 256:=by
 unfold rd at hr
 rw [ht] at hr
 obtain ⟨a,n,c,ex,ds,vs,rfl,rfl,hdl,hn,hvl,hrow,hall⟩:=hr
 obtain ⟨l,hfl,hs⟩:=Yhv (f:=f) he vs ds (by omega) hall
 rw [hc,Nat.mul_one,hfl] at hrow
 exact ⟨a,n,c,ex,l,rfl,hrow,hs⟩
end Go.Sim
