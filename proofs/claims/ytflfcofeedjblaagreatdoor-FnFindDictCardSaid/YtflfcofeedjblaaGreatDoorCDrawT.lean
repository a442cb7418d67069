/- A part of the proof of a statement of this seat: see the text that holds the theorem. No condition. -/
import Derived.Test.YtflfcofeedjblaaGreatDoorPTCSApply
import Derived.Test.YtflfcofeedjblaaGreatDoorCSrch
import Derived.Test.YtflfcofeedjblaaGreatDoorPTCSFold
import Derived.Test.YtflfcofeedjblaaGreatDoorNm
import Derived.Test.YtflfcofeedjblaaGreatDoorPTCOwn
import Derived.Test.YtflfcofeedjblaaGreatDoorCSTy
import Derived.Test.YtflfcofeedjblaaGreatDoorCCand
set_option linter.unusedVariables false
set_option linter.unusedSimpArgs false
set_option linter.all false
set_option linter.unusedVariables false
set_option linter.unusedSimpArgs false
set_option maxRecDepth 20000
namespace Go.Sim
open Go Go.RowKit

noncomputable def Zhs (w:Wd) (n:Nd) (sp:Bool):Fnd:=if Zdv w && Zfp w n then (Zkc (wk w) sp Znh 31 [] n).1 else .no Zvx ([],[])
theorem Yle {w:Wd} {n:Nd} {sp:Bool}:(Yac (Zhs w n sp)).length≤3000:=by
 unfold Zhs
 split
 ·have:=Zuc (k:=wk w) (sp:=sp) (dec:=Znh) (fun x=>by simp [Znh]) 31 [] n (by simp)
  cases hr:(Zkc (wk w) sp Znh 31 [] n).1 with
  | ok s=>have:=this.2.2 s hr; have:=this; simp only [Yac]; have:=(Zuc (k:=wk w) (sp:=sp) (dec:=Znh) (fun x=>by simp [Znh]) 31 [] n (by simp)).2.1; omega
  | no y m=>simp [Yac]
 ·simp [Yac]
theorem Zxp {h:Zaa} {a0 a1:Pt} {n0 c0 n1 c1:Nat} {e0 e1:Bool} {w:Wd} {nd:Nd} {sp:Bool} (r:Zlx h a0 n0 c0 a1 n1 c1 w) (b:WB w) :
  Zaj pg Zkr [.agg [.slice a0 n0 c0 e0,.slice a1 n1 c1 e1],.agg [.str nd.1,.str nd.2],.bool sp] h fun x h'=>∃ i fl x4 x7,x=.tup [.ptr (some (i,0)),.str (Yac (Zhs w nd sp)),.str (Yer (Zhs w nd sp))]∧Zba h.length h h' ∧
   h'[i]?=some (.cells Zfi [.slice a0 n0 c0 e0,.slice a1 n1 c1 e1,.bool sp,.fn Zcx [],x4,.str fl.1,.str fl.2,x7] false)∧h.length≤i∧∀ y m,Zhs w nd sp=.no y m→y≠[]∧(((Zdv w && Zfp w nd)=false∧y=Zvx) ∨ ((Zdv w && Zfp w nd)=true∧y≠Zvx∧fl=m)):=by
 apply Zrf.call
 simp only [Zax]
 generalize hh0:h ++ [Zby.cells Zad [.slice a0 n0 c0 e0,.slice a1 n1 c1 e1] false]=h0
 generalize hh1:h0 ++ [Zby.cells Zab [.str nd.1,.str nd.2] false]=h1
 have s0:Zba h.length h h0:=by rw [← hh0]; exact Zam
 have s1:Zba h0.length h0 h1:=by rw [← hh1]; exact Zam
 have w0:h0[h.length]?=some (Zmt a0 n0 c0 e0 a1 n1 c1 e1):=by rw [← hh0]; simp [Zmt]
 have w1:=s1.get w0 (Own.lt w0)
 have p1:h1[h0.length]?=some (.cells Zab [.str nd.1,.str nd.2] false):=by rw [← hh1]; simp
 rw [Zwi w1]
 simp only [Zap,Zaf,Zao,Zah]
 generalize hh2:h1 ++ [Zby.cells Zfi [.slice a0 n0 c0 e0,.slice a1 n1 c1 e1,.bool sp,.fn Zcx [],.slice none 0 0 true,.str [],.str [],.slice none 0 0 true] false]=h2
 have s2:Zba h1.length h1 h2:=by rw [← hh2]; exact Zam
 have w2:=s2.get w1 (Own.lt w1)
 have p2:=s2.get p1 (Own.lt p1)
 have o2:h2[h1.length]?=some (.cells Zfi [.slice a0 n0 c0 e0,.slice a1 n1 c1 e1,.bool sp,.fn Zcx [],.slice none 0 0 true,.str [],.str [],.slice none 0 0 true] false):=by rw [← hh2]; simp
 have S2:=(s0.cat s1).cat s2
 rw [Zwi w2,Zbb p2]
 simp only [Zap,Zaf,Zao,Zah,Zag]
 refine (Ztw (ct:=nd.1) (tt:=nd.2) (r.same S2) b).mono ?_
 rintro v h3 ⟨rfl,s3⟩
 have S3:=S2.cat s3
 have p3:=s3.get p2 (Own.lt p2)
 have o3:=s3.get o2 (Own.lt o2)
 have w3:=s3.get w2 (Own.lt w2)
 have le3:=S3.le
 have l1:h1.length=h0.length + 1:=by rw [← hh1]; simp
 have l0:h0.length=h.length + 1:=by rw [← hh0]; simp
 simp only [Zaq]
 refine Zbs (fun hc=>?_) (fun hc=>?_)
 ·have:Zhs w nd sp=.no Zvx ([],[]):=by unfold Zhs; rw [hc]; rfl
  exact ⟨h1.length,([],[]),_,_,by rw [this]; rfl,S3,o3,by omega,fun y m h=>by rw [this] at h; cases h; exact ⟨by decide,.inl ⟨hc,rfl⟩⟩⟩
 rw [Zbb p3]
 simp only [Zap,Zaf,Zao,Zag]
 have hc':=hc
 simp only [Bool.and_eq_true] at hc'
 have rd:Ybz h h1.length (.slice a0 n0 c0 e0) (.slice a1 n1 c1 e1) sp h3 none [] (([],[]):Nd):=
  ⟨S3,by omega,⟨0,0,true,_,o3,⟨.inl ⟨rfl,rfl,rfl,by simp⟩,rfl,fun q hq=>by cases hq⟩⟩,fun q hq=>by cases hq⟩
 refine (Yrn r b hc'.1 sp 31 (n:=nd) (st:=[]) rd (by simp) (by omega) (by simpa using Row.nil) (fun _=>rfl) (fun j o h=>by omega)).mono ?_
 rintro v h4 ⟨qa,fl,rfl,rd4,F4,hno⟩
 have hf:Zhs w nd sp=(Zkc (wk w) sp Znh 31 [] nd).1:=by unfold Zhs; rw [hc]; rfl
 obtain ⟨qn,qc,qe,x7,ho,_⟩:=rd4.ob
 simp only [Zci,Zaf,Zag,Zao]
 refine ⟨h1.length,fl,_,x7,by rw [hf],rd4.same,ho,by omega,fun y m hy=>?_⟩
 rw [hf] at hy
 obtain ⟨⟨k1,k2⟩,k3⟩:=hno y m hy
 exact ⟨k1,.inr ⟨hc,k2,k3⟩⟩
def Ygv (w:Wd) (n:Nd) (sp:Bool) (h:Zaa) (v:Zat) (h':Zaa):Prop:=v=.tup [.str (Yac (Zhs w n sp)),.str (Yer (Zhs w n sp))]∧Zba h.length h h'
theorem Zpy {h:Zaa} {a0 a1:Pt} {n0 c0 n1 c1:Nat} {e0 e1:Bool} {w:Wd} {nd:Nd} (r:Zlx h a0 n0 c0 a1 n1 c1 w) (b:WB w) :
  Zaj pg Zgs [.agg [.slice a0 n0 c0 e0,.slice a1 n1 c1 e1],.agg [.str nd.1,.str nd.2]] h (Ygv w nd false h):=by
 apply Zrv.call
 simp only [Zax]
 generalize hh0:h ++ [Zby.cells Zad [.slice a0 n0 c0 e0,.slice a1 n1 c1 e1] false]=h0
 generalize hh1:h0 ++ [Zby.cells Zab [.str nd.1,.str nd.2] false]=h1
 have s0:Zba h.length h h0:=by rw [← hh0]; exact Zam
 have s1:Zba h0.length h0 h1:=by rw [← hh1]; exact Zam
 have w0:h0[h.length]?=some (Zmt a0 n0 c0 e0 a1 n1 c1 e1):=by rw [← hh0]; simp [Zmt]
 have w1:=s1.get w0 (Own.lt w0)
 have p1:h1[h0.length]?=some (.cells Zab [.str nd.1,.str nd.2] false):=by rw [← hh1]; simp
 rw [Zwi w1,Zbb p1]
 simp only [Zap,Zaf,Zao,Zah,Zag]
 refine (Zxp (r.same (s0.cat s1)) b).mono ?_
 rintro v h2 ⟨i,fl,x4,x7,rfl,s2,_⟩
 simp only [Zci,Zaf,Zeg,Zag,Zao]
 exact ⟨rfl,(s0.cat s1).cat s2⟩
noncomputable def Ywh (w:Wd) (n:Nd):Bool:=decide (Yer (Zhs w n false)=[])
theorem Zzi {h:Zaa} {a0 a1:Pt} {n0 c0 n1 c1:Nat} {e0 e1:Bool} {w:Wd} {nd:Nd} (r:Zlx h a0 n0 c0 a1 n1 c1 w) (b:WB w) :
  Zaj pg Zkx [.agg [.slice a0 n0 c0 e0,.slice a1 n1 c1 e1],.agg [.str nd.1,.str nd.2]] h fun v h'=>v=.bool (Ywh w nd)∧Zba h.length h h':=by
 apply Zol.call
 simp only [Zax]
 generalize hh0:h ++ [Zby.cells Zad [.slice a0 n0 c0 e0,.slice a1 n1 c1 e1] false]=h0
 generalize hh1:h0 ++ [Zby.cells Zab [.str nd.1,.str nd.2] false]=h1
 have s0:Zba h.length h h0:=by rw [← hh0]; exact Zam
 have s1:Zba h0.length h0 h1:=by rw [← hh1]; exact Zam
 have w0:h0[h.length]?=some (Zmt a0 n0 c0 e0 a1 n1 c1 e1):=by rw [← hh0]; simp [Zmt]
 have w1:=s1.get w0 (Own.lt w0)
 have p1:h1[h0.length]?=some (.cells Zab [.str nd.1,.str nd.2] false):=by rw [← hh1]; simp
 rw [Zwi w1,Zbb p1]
 simp only [Zap,Zaf,Zao,Zah,Zag]
 refine (Zpy (nd:=nd) (r.same (s0.cat s1)) b).mono ?_
 rintro v h2 ⟨rfl,s2⟩
 simp only [Zci,Zaf,Zeg,Zag,Zao]
 exact ⟨rfl,(s0.cat s1).cat s2⟩
end Go.Sim

set_option linter.unusedVariables false
set_option maxRecDepth 100000
namespace Go.Sim
open Go Go.RowKit
def Zrz (Q:QT) (a0:Pt) (x2:Int) (lh:Nat) (hX:Zaa) (aX:Pt) (nX cX:Nat) (eX:Bool):Prop:=
 Zbg a0 fun i_33 o_34=>Zbn (Zaz hX (.ptr (some (i_33,o_34 + 4))) [.slice aX nX cX eX]) fun h_35=>Zbg a0 fun i_36 o_37=>xSl (Zae h_35 (.ptr (some (i_36,o_37 + 3)))) fun a_38 n_39 c_40 e_41=>bcase (decide (((((n_39:Nat):Int)):Int) ≥ 300)) (Zbg a0 fun i_42 o_43=>Zbn (Zaz h_35 (.ptr (some (i_42,o_43 + 5))) [.str ([108,111,110,103])]) fun h_44=>Q (.str []) h_44) (Zbg a0 fun i_45 o_46=>xSl (Zae h_35 (.ptr (some (i_45,o_46 + 3)))) fun a_47 n_48 c_49 e_50=>Zcn (Zbj h_35 (.ptr (some (lh,0))) 2) fun cs_51=>Zai cs_51 fun c_52 r_53=>Zbc (some c_52) fun s_54=>Zai r_53 fun c_55 r_56=>Zbc (some c_55) fun s_57=>Zbu r_56 ((Zae h_35 (.ptr (some (i_45,o_46 + 3)))=Zae h_35 (.ptr (some (i_45,o_46 + 3))))∧Zch (h_35 ++ [.cells Zab [.str s_54,.str s_57] false]) fun h_58=>(Zae h_58 (.ptr (some (i_45,o_46 + 3)))=Zae h_35 (.ptr (some (i_45,o_46 + 3))))∧Zcf pg Zbm h_58 (.slice a_47 n_48 c_49 e_50) (.slice (some (List.length h_35,0)) 1 1 true) fun v_59 h_60=>xSl (some v_59) fun a_61 n_62 c_63 e_64=>Zbg a0 fun i_65 o_66=>Zbn (Zaz h_60 (.ptr (some (i_65,o_66 + 3))) [.slice a_61 n_62 c_63 e_64]) fun h_67=>bcase (decide ((x2:Int) > 30)) (Zbg a0 fun i_68 o_69=>Zbn (Zaz h_67 (.ptr (some (i_68,o_69 + 5))) [.str ([100,101,101,112])]) fun h_70=>Q (.str []) h_70) (Zcn (Zbj h_67 (.ptr (some (lh,0))) 2) fun cs_71=>Zai cs_71 fun c_72 r_73=>Zbc (some c_72) fun s_74=>Zai r_73 fun c_75 r_76=>Zbc (some c_75) fun s_77=>Zbu r_76 (Zaj pg Zey [.ptr a0,.agg [.str s_74,.str s_77]] h_67 fun v_78 h_79=>
 Zdt .i64 (some v_78) fun x_80=>bcase (decide ((x_80:Int) < 0)) (Q (.str []) h_79) (Zbg a0 fun i_81 o_82=>xSl (Zae h_79 (.ptr (some (i_81,o_82 + 0 + 1)))) fun a_83 n_84 c_85 e_86=>(0≤(x_80:Int)∧(x_80:Int) < (n_84:Nat))∧(Zbg a_83 fun i_87 o_88=>Zcn (Zbj h_79 (.ptr (some (i_87,o_88 + (Int.toNat x_80) * 3))) 3) fun cs_89=>Zai cs_89 fun c_90 r_91=>Zbc (some c_90) fun s_92=>Zai r_91 fun c_93 r_94=>Zbc (some c_93) fun s_95=>Zai r_94 fun c_96 r_97=>xSl (some c_96) fun a_98 n_99 c_100 e_101=>Zbu r_97 (Zbc (Zae h_79 (.ptr (some (lh,0 + 1)))) fun s_102=>(Zbj h_79 (.ptr (some (i_87,o_88 + (Int.toNat x_80) * 3))) 3=Zbj h_79 (.ptr (some (i_87,o_88 + (Int.toNat x_80) * 3))) 3)∧(Zae h_79 (.ptr (some (i_81,o_82 + 0 + 1)))=Zae h_79 (.ptr (some (i_81,o_82 + 0 + 1))))∧Zaj pg Zhm [.agg [.str s_92,.str s_95,.slice a_98 n_99 c_100 e_101],.str s_102] h_79 fun v_103 h_104=>
 Zjx v_103 fun cs_105=>Zai cs_105 fun c_106 r_107=>xSl (some c_106) fun a_108 n_109 c_110 e_111=>Zai r_107 fun c_112 r_113=>Zck (some c_112) fun b_114=>Zbu r_113 ((Zae h_104 (.ptr (some (i_81,o_82 + 0 + 1)))=Zae h_79 (.ptr (some (i_81,o_82 + 0 + 1))))∧bcase (!b_114) (Zbg a0 fun i_115 o_116=>Zbn (Zaz h_104 (.ptr (some (i_115,o_116 + 5))) [.str ([98,105,103])]) fun h_117=>Q (.str []) h_117) (Zaj pg Zgg [.int .i64 x_80] h_104 fun v_118 h_119=>
 Zbc (some v_118) fun s_120=>Zeb.L18 Q a0 x2 a_108 n_109 c_110 e_111 s_120 a_108 n_109 c_110 e_111 (((n_109:Nat):Int)) 0 h_119)))))))))
theorem Ybs (a0:Pt) (x1x0 x1x1:List Nat) (x2:Int) (h:Zaa) (Q:QT) (ht :
 Zch (h ++ [.cells Zab [.str x1x0,.str x1x1] false]) fun h_0=>Zbg a0 fun i_1 o_2=>xSl (Zae h_0 (.ptr (some (i_1,o_2 + 4)))) fun a_3 n_4 c_5 e_6=>Zhu a_3 n_4 c_5 e_6 2 none (some (.int .i64 x2)) none fun v_7=>xSl (some v_7) fun a_8 n_9 c_10 e_11=>Zcn (Zbj h_0 (.ptr (some (List.length h,0))) 2) fun cs_12=>Zai cs_12 fun c_13 r_14=>Zbc (some c_13) fun s_15=>Zai r_14 fun c_16 r_17=>Zbc (some c_16) fun s_18=>Zbu r_17 ((Zch (h_0 ++ [.cells Zab [] false]) fun h_19=>(Zbj h_19 (.ptr (some (List.length h,0))) 2=Zbj h_0 (.ptr (some (List.length h,0))) 2)∧(Zae h_19 (.ptr (some (i_1,o_2 + 4)))=Zae h_0 (.ptr (some (i_1,o_2 + 4))))∧(Zcf pg Zbm h_19 (.slice (some (List.length h_0,0)) 0 0 true) (.slice a_8 n_9 c_10 e_11) fun v_20 h_21=>xSl (some v_20) fun a_22 n_23 c_24 e_25=>(Zbj h_21 (.ptr (some (List.length h,0))) 2=Zbj h_19 (.ptr (some (List.length h,0))) 2)∧(Zae h_21 (.ptr (some (i_1,o_2 + 4)))=Zae h_19 (.ptr (some (i_1,o_2 + 4))))∧Zch (h_21 ++ [.cells Zab [.str s_15,.str s_18] false]) fun h_26=>(Zae h_26 (.ptr (some (i_1,o_2 + 4)))=Zae h_21 (.ptr (some (i_1,o_2 + 4))))∧Zcf pg Zbm h_26 (.slice a_22 n_23 c_24 e_25) (.slice (some (List.length h_21,0)) 1 1 true) fun v_27 h_28=>xSl (some v_27) fun a_29 n_30 c_31 e_32=>(Zbj h_28 (.ptr (some (List.length h,0))) 2=Zbj h_26 (.ptr (some (List.length h,0))) 2)∧(Zae h_28 (.ptr (some (i_1,o_2 + 4)))=Zae h_26 (.ptr (some (i_1,o_2 + 4))))∧Zrz Q a0 x2 (List.length h) h_28 a_29 n_30 c_31 e_32)∧(Zch (h_19 ++ [.cells Zab [.str s_15,.str s_18] false]) fun h_121=>(Zae h_121 (.ptr (some (i_1,o_2 + 4)))=Zae h_19 (.ptr (some (i_1,o_2 + 4))))∧Zcf pg Zbm h_121 (.slice (some (List.length h_0,0)) 0 0 true) (.slice a_8 n_9 c_10 e_11) fun v_122 h_123=>xSl (some v_122) fun a_124 n_125 c_126 e_127=>(Zbj h_123 (.ptr (some (List.length h,0))) 2=Zbj h_121 (.ptr (some (List.length h,0))) 2)∧(Zae h_123 (.ptr (some (i_1,o_2 + 4)))=Zae h_121 (.ptr (some (i_1,o_2 + 4))))∧Zcf pg Zbm h_123 (.slice a_124 n_125 c_126 e_127) (.slice (some (List.length h_19,0)) 1 1 true) fun v_128 h_129=>xSl (some v_128) fun a_130 n_131 c_132 e_133=>(Zbj h_129 (.ptr (some (List.length h,0))) 2=Zbj h_123 (.ptr (some (List.length h,0))) 2)∧(Zae h_129 (.ptr (some (i_1,o_2 + 4)))=Zae h_123 (.ptr (some (i_1,o_2 + 4))))∧Zrz Q a0 x2 (List.length h) h_129 a_130 n_131 c_132 e_133))∧(Zch (h_0 ++ [.cells Zab [.str s_15,.str s_18] false]) fun h_222=>(Zae h_222 (.ptr (some (i_1,o_2 + 4)))=Zae h_0 (.ptr (some (i_1,o_2 + 4))))∧Zch (h_222 ++ [.cells Zab [] false]) fun h_223=>(Zbj h_223 (.ptr (some (List.length h,0))) 2=Zbj h_222 (.ptr (some (List.length h,0))) 2)∧(Zae h_223 (.ptr (some (i_1,o_2 + 4)))=Zae h_222 (.ptr (some (i_1,o_2 + 4))))∧Zcf pg Zbm h_223 (.slice (some (List.length h_222,0)) 0 0 true) (.slice a_8 n_9 c_10 e_11) fun v_224 h_225=>xSl (some v_224) fun a_226 n_227 c_228 e_229=>(Zbj h_225 (.ptr (some (List.length h,0))) 2=Zbj h_223 (.ptr (some (List.length h,0))) 2)∧(Zae h_225 (.ptr (some (i_1,o_2 + 4)))=Zae h_223 (.ptr (some (i_1,o_2 + 4))))∧Zcf pg Zbm h_225 (.slice a_226 n_227 c_228 e_229) (.slice (some (List.length h_0,0)) 1 1 true) fun v_230 h_231=>xSl (some v_230) fun a_232 n_233 c_234 e_235=>(Zbj h_231 (.ptr (some (List.length h,0))) 2=Zbj h_225 (.ptr (some (List.length h,0))) 2)∧(Zae h_231 (.ptr (some (i_1,o_2 + 4)))=Zae h_225 (.ptr (some (i_1,o_2 + 4))))∧Zrz Q a0 x2 (List.length h) h_231 a_232 n_233 c_234 e_235))):Zaj pg Zfq [.ptr a0,.agg [.str x1x0,.str x1x1],.int .i64 x2] h Q:=
 Zeb.call a0 x1x0 x1x1 x2 h Q ht
end Go.Sim

set_option linter.unusedVariables false
set_option linter.unusedSimpArgs false
set_option maxRecDepth 20000
namespace Go.Sim
open Go Go.RowKit

theorem Ycv {b:Nat} {h:Zaa} {a:Pt} {n c k:Nat} {e:Bool} {l:List Nd} {K:Zat→Prop} (r:Row b h a (n * 2) (Zdg eP l)) (hk:k≤n) (hc:n≤c) {z:Int} (hz:z=k)
  (hK:∀ a' c' e',Row b h a' (k * 2) (Zdg eP (l.take k))→k≤c'→(a'=none ∨ ∃ i o,a=some (i,o)∧a'=some (i,o))→K (.slice a' k c' e')):Zhu a n c e 2 none (some (.int .i64 z)) none K:=by
 subst hz
 have hl:l.length=n:=by have:=r.1; rw [Zav Zcz] at this; omega
 simp only [Zhu,Zks]
 refine ⟨by omega,?_⟩
 split
 ·have h0:n=0:=by
   obtain ⟨h1,h2⟩:=r
   rcases h2 with h2 | ⟨i,o,t,all,ro,ha,_⟩
   ·omega
   ·cases ha
  have hk0:k=0:=by omega
  subst hk0
  exact ⟨⟨by trivial,by simp,.inl (by trivial)⟩,hK _ _ _ (by simpa using Row.nil) (by omega) (.inl rfl)⟩
 ·rename_i i o
  refine ⟨fun hlt=>?_,fun hlt=>?_⟩
  ·have e2:((k:Int) - 0).toNat=k:=by omega
   have e3:o + Int.toNat 0 * 2=o:=by simp
   have e4:((c:Int) - 0).toNat=c:=by omega
   rw [e2,e3,e4]
   exact hK _ _ _ (r.sl hk hl) (by omega) (.inr ⟨_,_,rfl,rfl⟩)
  ·have hk0:k=0:=by omega
   subst hk0
   exact hK _ _ _ (by simpa using Row.nil) (by omega) (.inl rfl)
structure Zuu (hb:Zaa) (i:Nat) (u v:Zat) (sp:Bool) (h:Zaa) (qa:Pt) (asked st:List Nd) (why:List Nat):Prop where
 same:Zba hb.length hb h
 ge:hb.length≤i
 ob:∃ qn qc qe sa sn sc se,h[i]?=some (.cells Zcw [u,v,.bool sp,.slice qa qn qc qe,.slice sa sn sc se,.str why] false)∧Ynl hb.length h qa qn qc asked∧Row h.length h sa (sn * 2) (Zdg eP st)∧sn≤sc∧∀ j o,sn * 2≠0→sa=some (j,o)→j≠i∧∀ q,qa=some (q,0)→j≠q
 ne:∀ q,qa=some (q,0)→q≠i
section
variable {hb:Zaa} {i:Nat} {u v:Zat} {sp:Bool} {h:Zaa} {qa:Pt} {asked st:List Nd} {why:List Nat}
theorem Zuu.step {h':Zaa} (r:Zuu hb i u v sp h qa asked st why) (k:Zba h.length h h'):Zuu hb i u v sp h' qa asked st why:=by
 obtain ⟨qn,qc,qe,sa,sn,sc,se,ho,hv,hr,hsc,hd⟩:=r.ob
 exact ⟨r.same.trans (k.mono r.same.le),r.ge,⟨qn,qc,qe,sa,sn,sc,se,k.get ho (Own.lt ho),hv.same k,hr.same' k,hsc,hd⟩,r.ne⟩
theorem Zuu.lt (r:Zuu hb i u v sp h qa asked st why):i < h.length:=by obtain ⟨_,_,_,_,_,_,_,ho,_⟩:=r.ob; exact Own.lt ho
theorem Zuu.low (r:Zuu hb i u v sp h qa asked st why):∀ q,qa=some (q,0)→hb.length≤q∧q < h.length:=by
 obtain ⟨qn,qc,qe,sa,sn,sc,se,ho,hv,_⟩:=r.ob
 exact fun q hq=>⟨hv.low q hq,hv.vec.lt' hq⟩
theorem Zuu.write {qa' sa:Pt} {qn qc sn sc:Nat} {qe se:Bool} {x:Zby} {l st':List Nd} {why':List Nat} (sm:Zba hb.length hb h) (ge:hb.length≤i) (ho:h[i]?=some x)
  (hv:Ynl hb.length h qa' qn qc l) (ne:∀ q,qa'=some (q,0)→q≠i) (hr:Row h.length h sa (sn * 2) (Zdg eP st')) (hsc:sn≤sc) (hd:∀ j o,sn * 2≠0→sa=some (j,o)→j≠i∧∀ q,qa'=some (q,0)→j≠q) :
  Zuu hb i u v sp (h.set i (.cells Zcw [u,v,.bool sp,.slice qa' qn qc qe,.slice sa sn sc se,.str why'] false)) qa' l st' why':=by
 refine ⟨⟨by simp; exact sm.le,fun j hj=>by rw [Zbo (by omega)]; exact sm.eq j hj⟩,ge,⟨qn,qc,qe,sa,sn,sc,se,Zbx ho,⟨?_,hv.len,hv.low⟩,?_,hsc,hd⟩,ne⟩
 ·exact hv.vec.agree fun j hj=>Zbo (fun e=>ne j hj e.symm)
 ·exact (FrS.set (qa:=none)).row hr fun j o hn ha=>⟨(hd j o hn ha).1,fun q hq=>by cases hq⟩
theorem Zuu.reason (r:Zuu hb i u v sp h qa asked st why) (y:List Nat) {K:Zaa→Prop} (hK:∀ h',Zuu hb i u v sp h' qa asked st y→FrS i qa h h' qa→K h'):Zbn (Zaz h (.ptr (some (i,0 + 5))) [.str y]) K:=by
 obtain ⟨qn,qc,qe,sa,sn,sc,se,ho,hv,hr,hsc,hd⟩:=r.ob
 rw [Zbd ho (by simp)]
 simp only [Zar,putRow,Nat.zero_add,List.take_succ_cons,List.take_zero,List.length_cons,List.length_nil,List.drop_succ_cons,List.drop_zero,List.drop_nil,List.cons_append,List.nil_append,List.append_nil]
 exact hK _ (Zuu.write r.same r.ge ho hv r.ne hr hsc hd) FrS.set
def Yro (hb:Zaa) (i:Nat) (u v:Zat) (sp:Bool) (d:Nat) (h:Zaa) (qa:Pt) (r:Fnd × List Nd) (x:Zat) (h':Zaa):Prop:=
 x=.str (Yac r.1)∧∃ qa' st',Zuu hb i u v sp h' qa' r.2 st' (Yer r.1)∧FrS i qa h h' qa'∧st'.length≤32∧(∀ s,r.1=.ok s→st'.length=d + 1)∧∀ y m,r.1=.no y m→y≠[]∧st'.getLast?=some m
end
theorem Yjh {hb:Zaa} {a0 a1:Pt} {n0 c0 n1 c1:Nat} {e0 e1:Bool} {w:Wd} (r:Zlx hb a0 n0 c0 a1 n1 c1 w) (b:WB w) {sp:Bool} {h:Zaa} {i:Nat} {qa:Pt} {asked st:List Nd} {n:Nd}
  (rd:Zuu hb i (.slice a0 n0 c0 e0) (.slice a1 n1 c1 e1) sp h qa asked st []) (hw:Zdv w=true) (hnd:Zfp w n=true) :
  Zaj pg Zey [.ptr (some (i,0)),.agg [.str n.1,.str n.2]] h fun x h'=>x=.int .i64 (Zeh (wk w) sp n).1∧Zuu hb i (.slice a0 n0 c0 e0) (.slice a1 n1 c1 e1) sp h' qa asked st (if (Zeh (wk w) sp n).1 < 0 then (Zeh (wk w) sp n).2 else [])∧FrS i qa h h' qa∧((Zeh (wk w) sp n).1 < 0→(Zeh (wk w) sp n).2≠[])∧(¬ (Zeh (wk w) sp n).1 < 0→∃ k:Nat,(Zeh (wk w) sp n).1=k∧k < w.is.length):=by
 have hty:=Yap hnd
 apply Zgp.call
 simp only [Zax]
 generalize hh0:h ++ [Zby.cells Zab [.str n.1,.str n.2] false]=h0
 have s0:Zba h.length h h0:=by rw [← hh0]; exact Zam
 have p1:h0[h.length]?=some (.cells Zab [.str n.1,.str n.2] false):=by rw [← hh0]; simp
 have rd0:=rd.step s0
 obtain ⟨qn,qc,qe,sa,sn,sc,se,ho,hv,hr,hsc,hd⟩:=rd0.ob
 simp only [Zaw,Zed ho (show 0 + 0 + 2≤_ by simp),Zbb p1,List.drop_zero,List.take_succ_cons,List.take_zero,Zap,Zaf,Zao,Zah,Zag,true_and]
 refine (Zsu (nd:=n) (r.same rd0.same) b (by omega)).mono ?_
 rintro v h4 ⟨s4,ca,cn,cc,ce,rfl,fc⟩
 have rd4:=rd0.step s4
 have F4:FrS i qa h h4 qa:=FrS.of_same (s0.cat s4)
 have o4:=s4.get ho (Own.lt ho)
 have q1:=s4.get p1 (Own.lt p1)
 have hcl:=fc.1
 have hcin:=Ybg w n
 have hpk:Zeh (wk w) sp n=match Zhx w n with | []=>(-1,Yft) | [x]=>(x,[]) | l=>if sp && decide (0≤Zow w l) then (Zow w l,[]) else (-1,Znx):=rfl
 simp only [Zah,Zaw]
 refine Zcs (fun hc0=>?_) (fun hc0=>?_)
 ·have hc:Zhx w n=[]:=List.eq_nil_of_length_eq_zero (by omega)
  have hpk:Zeh (wk w) sp n=(-1,Yft):=by rw [hpk,hc]
  refine rd4.reason _ fun h5 rd5 F5=>?_
  rw [hpk]
  exact ⟨rfl,rd5,F4.trans F5,fun _=>by decide,fun h=>absurd (show (-1:Int) < 0 by omega) h⟩
 refine Zcs (fun hc1=>?_) (fun hc1=>?_)
 ·obtain ⟨ic,oc,hkc,rfl,_,hcell⟩:=Row.i64 (l:=Zhx w n) (by simpa using Zdd.row Znv fc) (k:=0) (by omega)
  have hcell0:Zae h4 (.ptr (some (ic,oc + (Int.toNat 0) * 1)))=some (.int .i64 (Zhx w n)[0]):=hcell
  obtain ⟨k0,hk0,hk0l⟩:=hcin _ (List.getElem_mem hkc)
  have hpk:Zeh (wk w) sp n=((k0:Int),[]):=by
   rw [hpk,← hk0]
   match hc:Zhx w n,hkc with
   | [x],_=>rfl
   | [],hx=>simp at hx
   | x :: y :: l,_=>rw [hc] at hcl; simp at hcl; omega
  simp only [Zaw,hcell0,Zas]
  rw [hpk,hk0]
  exact ⟨by omega,rfl,by simpa using rd4,F4,fun h=>absurd h (by simp),fun _=>⟨k0,rfl,hk0l⟩⟩
 have hpk:Zeh (wk w) sp n=if sp && decide (0≤Zow w (Zhx w n)) then (Zow w (Zhx w n),[]) else (-1,Znx):=by
  rw [hpk]
  match hc:Zhx w n with
  | []=>rw [hc] at hcl; simp at hcl; omega
  | [x]=>rw [hc] at hcl; simp at hcl; omega
  | x :: y :: l=>rfl
 have many:∀ h5,Zuu hb i (.slice a0 n0 c0 e0) (.slice a1 n1 c1 e1) sp h5 qa asked st []→FrS i qa h h5 qa→Zeh (wk w) sp n=(-1,Znx)→Zgp.J11 (fun x h'=>x=.int .i64 (Zeh (wk w) sp n).1∧Zuu hb i (.slice a0 n0 c0 e0) (.slice a1 n1 c1 e1) sp h' qa asked st (if (Zeh (wk w) sp n).1 < 0 then (Zeh (wk w) sp n).2 else [])∧FrS i qa h h' qa∧((Zeh (wk w) sp n).1 < 0→(Zeh (wk w) sp n).2≠[])∧(¬ (Zeh (wk w) sp n).1 < 0→∃ k:Nat,(Zeh (wk w) sp n).1=k∧k < w.is.length)) (some (i,0)) h5:=by
  intro h5 rd5 F5 hpk
  apply Zgp.J11i
  simp only [Zaw]
  refine rd5.reason _ fun h6 rd6 F6=>?_
  rw [hpk]
  exact ⟨rfl,rd6,F5.trans F6,fun _=>by decide,fun h=>absurd (show (-1:Int) < 0 by omega) h⟩
 simp only [Zal o4,Nat.zero_add,List.getElem?_cons_succ,List.getElem?_cons_zero,Zaq]
 refine Zdu (fun hsp=>?_) (fun hsp=>?_)
 ·simp only [Zed o4 (show 0 + 2≤_ by simp),Zbb q1,List.drop_zero,List.take_succ_cons,List.take_zero,Zap,Zaf,Zao,Zah,Zag,true_and]
  refine (Zyx (nd:=n) (r.same rd4.same) b (by omega)).mono ?_
  rintro v h5 ⟨rfl,s5⟩
  have hm:Yit w n=Zow w (Zhx w n):=by unfold Yit Zrm; rw [hw,hnd]; rfl
  rw [hm]
  simp only [Zas]
  refine Zau (fun hge=>?_) (fun hlt=>?_)
  ·have hpk:Zeh (wk w) sp n=(Zow w (Zhx w n),[]):=by rw [hpk,hsp,if_pos (by simp; omega)]
   rw [hpk]
   refine ⟨rfl,?_,F4.trans (FrS.of_same s5),fun h=>absurd h (by simp only; omega),fun _=>?_⟩
   ·simp only
    rw [if_neg (by omega)]; exact rd4.step s5
   ·simp only
    unfold Zow at hge ⊢
    cases hfi:(Zhx w n).find? (Ydu w (Zhx w n)) with
    | none=>rw [hfi] at hge; simp at hge
    | some x=>exact hcin x (List.mem_of_find?_eq_some hfi)
  ·exact many h5 (rd4.step s5) (F4.trans (FrS.of_same s5)) (by rw [hpk,hsp,if_neg (by simp; omega)])
 ·exact many h4 rd4 F4 (by rw [hpk,hsp]; rfl)
end Go.Sim

set_option linter.unusedVariables false
set_option linter.unusedSimpArgs false
set_option maxRecDepth 20000
namespace Go.Sim
open Go Go.RowKit

def Yqf (f:Nat) (hb:Zaa) (a0 a1:Pt) (n0 c0 n1 c1:Nat) (e0 e1:Bool) (w:Wd) (sp:Bool):Prop:=∀ {h:Zaa} {i:Nat} {qa:Pt} {asked st:List Nd} {n:Nd} {d:Nat},Zuu hb i (.slice a0 n0 c0 e0) (.slice a1 n1 c1 e1) sp h qa asked st []→asked.length≤300→Zfp w n=true→d + f=31→d≤st.length →
   Zaj pg Zfq [.ptr (some (i,0)),.agg [.str n.1,.str n.2],.int .i64 (d:Int)] h (Yro hb i (.slice a0 n0 c0 e0) (.slice a1 n1 c1 e1) sp d h qa (Zkc (wk w) sp Znh f asked n))
theorem Yro.of {hb:Zaa} {i:Nat} {u v:Zat} {sp:Bool} {d:Nat} {h h0:Zaa} {qa qa0:Pt} {r:Fnd × List Nd} {x:Zat} {h':Zaa} (F:FrS i qa0 h0 h qa) (q:Yro hb i u v sp d h qa r x h'):Yro hb i u v sp d h0 qa0 r x h':=by
 obtain ⟨e,qa',st',a,f,z⟩:=q
 exact ⟨e,qa',st',a,F.trans f,z⟩
theorem Ypv {g:Nat} (h:g < 3):sub [40,44,44] (g:Int) ((g + 1:Nat):Int)=[Znr g]:=by
 match g,h with
 | 0,_=>rfl
 | 1,_=>rfl
 | 2,_=>rfl
theorem Ylk {hb:Zaa} {a0 a1:Pt} {n0 c0 n1 c1:Nat} {e0 e1:Bool} {w:Wd} (r:Zlx hb a0 n0 c0 a1 n1 c1 w) (b:WB w) (hw:Zdv w=true) (sp:Bool) (f:Nat)
  (ih:∀ f',f=f' + 1→Yqf f' hb a0 a1 n0 c0 n1 c1 e0 e1 w sp) {h hX:Zaa} {i p1:Nat} {qa:Pt} {asked st st':List Nd} {n:Nd} {d qs cs:Nat} {es:Bool} (rd:Zuu hb i (.slice a0 n0 c0 e0) (.slice a1 n1 c1 e1) sp hX qa asked st []) (FX:FrS i qa h hX qa)
  (hal:asked.length≤300) (hnd:Zfp w n=true) (hf:d + f=31) (hstl:st'.length=d + 1) (hlast:st'.getLast?=some n) (hrow:Row hX.length hX (some (qs,0)) ((d + 1) * 2) (Zdg eP st')) (hqi:qs≠i) (hqq:∀ q,qa=some (q,0)→qs≠q) (hcs:d + 1≤cs)
  (hp1:hX[p1]?=some (.cells Zab [.str n.1,.str n.2] false)) (hpi:p1≠i) (hpq:∀ q,qa=some (q,0)→p1≠q) :
  Zrz (Yro hb i (.slice a0 n0 c0 e0) (.slice a1 n1 c1 e1) sp d h qa (Zkc (wk w) sp Znh f asked n)) (some (i,0)) (d:Int) p1 hX (some (qs,0)) (d + 1) cs es:=by
 unfold Zrz
 have hty:=Yap hnd
 have hl10:=Zte hw
 have hl1:=r.len1
 obtain ⟨qn,qc,qe,sa,sn,sc,se,ho,hv,hr,hsc,hdj⟩:=rd.ob
 have hlow:=rd.low
 have hil:=rd.lt
 have hnv:=hv.len
 simp only [Zaw]
 rw [Zbd ho (by simp)]
 simp only [Zar,putRow,Nat.zero_add,List.take_succ_cons,List.take_zero,List.length_cons,List.length_nil,List.drop_succ_cons,List.drop_zero,List.drop_nil,List.cons_append,List.nil_append,List.append_nil]
 have rd1:Zuu hb i (.slice a0 n0 c0 e0) (.slice a1 n1 c1 e1) sp (hX.set i (.cells Zcw [.slice a0 n0 c0 e0,.slice a1 n1 c1 e1,.bool sp,.slice qa qn qc qe,.slice (some (qs,0)) (d + 1) cs es,.str []] false)) qa asked st' []:=
  Zuu.write rd.same rd.ge ho hv rd.ne hrow hcs fun j o hn ha=>by cases ha; exact ⟨hqi,hqq⟩
 have F1:FrS i qa h (hX.set i (.cells Zcw [.slice a0 n0 c0 e0,.slice a1 n1 c1 e1,.bool sp,.slice qa qn qc qe,.slice (some (qs,0)) (d + 1) cs es,.str []] false)) qa:=FX.trans FrS.set
 have o1:(hX.set i (.cells Zcw [.slice a0 n0 c0 e0,.slice a1 n1 c1 e1,.bool sp,.slice qa qn qc qe,.slice (some (qs,0)) (d + 1) cs es,.str []] false))[i]?=_:=Zbx ho
 have p1':(hX.set i (.cells Zcw [.slice a0 n0 c0 e0,.slice a1 n1 c1 e1,.bool sp,.slice qa qn qc qe,.slice (some (qs,0)) (d + 1) cs es,.str []] false))[p1]?=some (.cells Zab [.str n.1,.str n.2] false):=by rw [Zbo hpi.symm]; exact hp1
 generalize hX.set i (.cells Zcw [.slice a0 n0 c0 e0,.slice a1 n1 c1 e1,.bool sp,.slice qa qn qc qe,.slice (some (qs,0)) (d + 1) cs es,.str []] false)=h1 at rd1 F1 o1 p1' ⊢
 -- an end
 have bad:∀ (y:List Nat) (h':Zaa) (qa':Pt) (asked':List Nd),y≠[]→Zuu hb i (.slice a0 n0 c0 e0) (.slice a1 n1 c1 e1) sp h' qa' asked' st' []→FrS i qa h h' qa'→Zkc (wk w) sp Znh f asked n=(.no y n,asked') →
   Zbn (Zaz h' (.ptr (some (i,0 + 5))) [.str y]) fun h''=>Yro hb i (.slice a0 n0 c0 e0) (.slice a1 n1 c1 e1) sp d h qa (Zkc (wk w) sp Znh f asked n) (.str []) h'':=by
  intro y h' qa' asked' hy rd' F' he
  refine rd'.reason y fun h'' rd'' F''=>?_
  rw [he]
  exact ⟨rfl,qa',st',rd'',F'.trans F'',by omega,fun s hs=>(by cases hs),fun y' m hm=>by cases hm; exact ⟨hy,hlast⟩⟩
 simp only [Zal o1,List.getElem?_cons_succ,List.getElem?_cons_zero,Zah]
 refine Zau (fun h300=>bad Yli h1 qa asked (by decide) rd1 F1 (Zmz (by omega))) (fun h300=>?_)
 have h300':¬ 300≤asked.length:=by omega
 have hv1:Ynl hb.length h1 qa qn qc asked:=by
  obtain ⟨qn',qc',qe',sa',sn',sc',se',ho',hv',_⟩:=rd1.ob
  rw [o1] at ho'
  simp only [Option.some.injEq,Zby.cells.injEq,List.cons.injEq,Zat.slice.injEq,true_and,and_true] at ho'
  obtain ⟨⟨rfl,rfl,rfl⟩,_⟩:=ho'
  exact hv'
 have hrow1:Row h1.length h1 (some (qs,0)) ((d + 1) * 2) (Zdg eP st'):=by
  obtain ⟨qn',qc',qe',sa',sn',sc',se',ho',_,hr',_⟩:=rd1.ob
  rw [o1] at ho'
  simp only [Option.some.injEq,Zby.cells.injEq,List.cons.injEq,Zat.slice.injEq,true_and,and_true] at ho'
  obtain ⟨_,rfl,rfl,rfl,rfl⟩:=ho'
  exact hr'
 have hlow1:=rd1.low
 have hil1:=rd1.lt
 have s2:Zba h1.length h1 (h1 ++ [Zby.cells Zab [.str n.1,.str n.2] false]):=Zam
 simp only [Zbb p1',Zap,Zaf,Zao,Zag,Zax,true_and]
 refine ⟨by rw [Zal (s2.get o1 (Own.lt o1))]; rfl,?_⟩
 refine hv1.vec.pushN Zhv Zoh Zoi Zog (by rw [Zav Zcz,hv1.len]) rfl (by omega) rfl (by omega) (fun h3 hl3 hi3 hk3=>?_)
 have o3:h3[i]?=some (.cells Zcw [.slice a0 n0 c0 e0,.slice a1 n1 c1 e1,.bool sp,.slice qa qn qc qe,.slice (some (qs,0)) (d + 1) cs es,.str []] false):=by rw [hk3 i (Own.lt o1) fun q hq=>(rd1.ne q hq).symm]; exact o1
 have p3:h3[p1]?=some (.cells Zab [.str n.1,.str n.2] false):=by rw [hk3 p1 (Own.lt p1') hpq]; exact p1'
 have hqsl:qs < h1.length:=by
  rcases hrow1.2 with h0 | ⟨j,o,t,all,ro,ha,hj,_⟩
  ·omega
  ·cases ha; exact hj
 simp only [Zah]
 rw [Zbd o3 (by simp)]
 simp only [Zar,putRow,List.take_succ_cons,List.take_zero,List.length_cons,List.length_nil,List.drop_succ_cons,List.drop_zero,List.drop_nil,List.cons_append,List.nil_append,List.append_nil]
 have F3:FrS i qa h1 h3 (some (h1.length + 1,0)):=⟨by omega,fun j hj hne hq=>hk3 j hj hq,.inr fun q hq=>by cases hq; omega⟩
 have rowl:Row h3.length h3 (some (qs,0)) ((d + 1) * 2) (Zdg eP st'):=F3.row hrow1 fun j o hn ha=>by cases ha; exact ⟨hqi,hqq⟩
 have rd4:Zuu hb i (.slice a0 n0 c0 e0) (.slice a1 n1 c1 e1) sp (h3.set i (.cells Zcw [.slice a0 n0 c0 e0,.slice a1 n1 c1 e1,.bool sp,.slice (some (h1.length + 1,0)) (qn + 1) (qn + 1) false,.slice (some (qs,0)) (d + 1) cs es,.str []] false)) (some (h1.length + 1,0)) (asked ++ [n]) st' []:=by
  have hle:=rd1.same.le
  refine Zuu.write ⟨by omega,fun j hj=>?_⟩ rd.ge o3 ⟨Vec.mk1 ?_,by rw [List.length_append,hnv]; rfl,fun q hq=>by cases hq; omega⟩ (fun q hq=>by cases hq; omega) rowl hcs (fun j o hn ha=>by cases ha; exact ⟨hqi,fun q hq=>by cases hq; omega⟩)
  ·rw [hk3 j (by omega) fun q hq=>by have:=(hlow1 q hq).1; omega]; exact rd1.same.eq j hj
  ·rw [hi3,Zii]; rfl
 have F4:FrS i qa h (h3.set i (.cells Zcw [.slice a0 n0 c0 e0,.slice a1 n1 c1 e1,.bool sp,.slice (some (h1.length + 1,0)) (qn + 1) (qn + 1) false,.slice (some (qs,0)) (d + 1) cs es,.str []] false)) (some (h1.length + 1,0)):=(F1.trans F3).trans FrS.set
 have p4:(h3.set i (.cells Zcw [.slice a0 n0 c0 e0,.slice a1 n1 c1 e1,.bool sp,.slice (some (h1.length + 1,0)) (qn + 1) (qn + 1) false,.slice (some (qs,0)) (d + 1) cs es,.str []] false))[p1]?=some (.cells Zab [.str n.1,.str n.2] false):=by rw [Zbo hpi.symm]; exact p3
 have hp1l:=Own.lt p1'
 generalize h3.set i (.cells Zcw [.slice a0 n0 c0 e0,.slice a1 n1 c1 e1,.bool sp,.slice (some (h1.length + 1,0)) (qn + 1) (qn + 1) false,.slice (some (qs,0)) (d + 1) cs es,.str []] false)=h4 at rd4 F4 p4 ⊢
 refine Zau (fun hd=>?_) (fun hd=>?_)
 ·have:f=0:=by omega
  subst this
  exact bad Ymb h4 _ _ (by decide) rd4 F4 (Zoc h300')
 obtain ⟨f',rfl⟩:∃ f',f=f' + 1:=⟨f - 1,by omega⟩
 have ih:=@ih f' rfl
 simp only [Zbb p4,Zap,Zaf,Zao,Zag]
 refine (Yjh r b rd4 hw hnd).mono ?_
 rintro v h5 ⟨rfl,rd5,F5,hneg,hpos⟩
 have F5':=F4.trans F5
 simp only [Zas]
 refine Zau (fun hlt=>?_) (fun hge=>?_)
 ·rw [if_pos hlt] at rd5
  rw [Zlb h300' hlt]
  exact ⟨rfl,_,st',rd5,F5',by omega,fun s hs=>(by cases hs),fun y m hm=>by cases hm; exact ⟨hneg hlt,hlast⟩⟩
 rw [if_neg hge] at rd5
 obtain ⟨k,hk,hkl⟩:=hpos hge
 have hqa4:∀ q,some (h1.length + 1,0)=some (q,0)→p1≠q:=fun q hq=>by cases hq; omega
 have p5:=F5.get p4 hpi hqa4
 obtain ⟨qn5,qc5,qe5,sa5,sn5,sc5,se5,o5,v5,r5,hsc5,hd5⟩:=rd5.ob
 obtain ⟨ii,oi,hki,na,nn,ncp,ne,rfl,_,hri,_,_,_,hrw,hnl⟩:=(r.same rd5.same).inst (k:=k) (by omega)
 have hbk:=b.is _ (List.getElem_mem hkl)
 rw [hk]
 simp only [Zal p5,Zal o5,Nat.zero_add,List.getElem?_cons_succ,List.getElem?_cons_zero,Zeg,Zaw,Zah,Int.toNat_natCast,hri,Zap,Zaf,Zao,Zag,true_and]
 refine ⟨by omega,?_⟩
 refine (Ymi (i:=w.is[k]) (t:=n.2) hrw (by omega) (by omega) (by omega) (fun p hp=>(hbk.2.2.2 p hp).2)).mono ?_
 rintro v h6 ⟨s6,ma,mn,mc,me,rfl,fm⟩
 have rd6:=rd5.step s6
 have F6:=F5'.trans (FrS.of_same s6)
 have p6:=s6.get p5 (Own.lt p5)
 have o6:=s6.get o5 (Own.lt o5)
 have hneeds:(wk w).needs (k:Int) n.2=Zhb w.is[k] n.2:=by show Zhb (Zmm w (k:Int)) n.2=_; rw [Zry hkl]
 simp only [Zci,Zaf,Zah,Zaq,Zao,Zal o6,List.getElem?_cons_succ,List.getElem?_cons_zero,true_and]
 refine Zbs (fun hok=>?_) (fun hok=>?_)
 ·refine bad Ytn h6 _ _ (by decide) rd6 F6 (Zrd h300' hge ?_)
  rw [hk,hneeds]
  cases hh:Zhb w.is[k] n.2 with
  | none=>rfl
  | some _=>rw [hh] at hok; cases hok
 obtain ⟨ms,hms⟩:=Option.isSome_iff_exists.1 hok
 have hms3:=Zxy hw hkl hms
 rw [hms] at fm
 simp only [Option.getD_some] at fm
 have hmn:=fm.1
 have hask:=Ztx (k:=wk w) (sp:=sp) (dec:=Znh) (f:=f') (n:=n) (asked:=asked) h300' hge (by rw [hk,hneeds]; exact hms)
 rw [hk] at hask
 have hask:Zkc (wk w) sp Znh (f' + 1) asked n=Zvv ms (Zgc w sp f' k asked n ms ms.length).1:=by rw [hask]; unfold Zgc; rw [List.take_length]
 refine (Ylx (by omega) (by omega)).mono ?_
 rintro v h7 ⟨rfl,s7⟩
 have rd7:=rd6.step s7
 have F7:=F6.trans (FrS.of_same s7)
 have p7:=s7.get p6 (Own.lt p6)
 have fm7:=fm.same s7
 have l7:=s7.le
 have hlow7:=rd7.low
 have hil7:=rd7.lt
 rw [Yee (by omega),Int.toNat_natCast,Ymp (by omega)]
 simp only [Zag]
 have hlow6:=rd5.low
 have hil6:=rd5.lt
 refine Zeb.L18ind _ _ _ _ _ _ _ _ _ _ _ _ (J:=fun (g:Nat) x10 x8 h'=>x8=(g:Int)∧g≤mn∧(Zgc w sp f' k asked n ms g).1.1=.ok x10∧∃ qa' st2,Zuu hb i (.slice a0 n0 c0 e0) (.slice (some (ii,oi)) n1 c1 e1) sp h' qa' (Zgc w sp f' k asked n ms g).1.2 st2 []∧d + 1≤st2.length∧st2.length≤32∧FrS i (some (h1.length + 1,0)) h7 h' qa') (fun g=>mn - g) ?_ 0 _ _ _ ⟨rfl,by omega,rfl,_,st',rd7,by omega,by omega,FrS.refl _ _ _⟩
 rintro g x15 x8 h' ⟨rfl,hg,hout,qa',st2,rdg,hst2,hst32,Fg⟩ R hR
 obtain ⟨hb1,hb2⟩:=Znz (w:=w) (sp:=sp) (f:=f') (k:=k) (n:=n) (ms:=ms) h300' g
 have hb2:=hb2 _ hout
 have hidx:=Yao (by omega) hout
 unfold Zeb.L18t
 refine Zau (fun hlt=>?_) (fun hge=>?_)
 ·have fmg:Row h'.length h' ma (mn * 2) (Zdg eP ms):=Fg.row (fm7.row Zcz) fun j o hn ha=>by
   obtain ⟨_,h0 | ⟨j',hj',hb',hjj⟩⟩:=fm7
   ·omega
   ·rw [ha] at hj'
    cases hj'
    exact ⟨by omega,fun q hq=>by have:=(hlow6 q hq).2; omega⟩
  obtain ⟨im,om,hgl,rfl,_,hrm,_⟩:=fmg.pr (k:=g) (by omega)
  simp only [Zaw,Int.toNat_natCast,hrm,Zap,Zaf,Zao,Zag,Zax]
  rw [Zgb]
  generalize hh8:h' ++ [Zby.cells Zab [.str ms[g].1,.str ms[g].2] false]=h8
  have s8:Zba h'.length h' h8:=by rw [← hh8]; exact Zam
  have o8:h8[h'.length]?=some (.cells Zab [.str ms[g].1,.str ms[g].2] false):=by rw [← hh8]; simp
  simp only [Zar,Zbb o8,Zap,Zaf,Zao,Zag]
  refine ⟨by omega,?_⟩
  rw [Zbq (by omega)]
  refine (ih (n:=ms[g]) (rdg.step s8) hb1 (hms3.2 _ (List.getElem_mem hgl)) (by omega) hst2).mono ?_
  rintro v h9 ⟨rfl,qa9,st9,rd9,F9,h932,hok9,hno⟩
  have F9':=(Fg.trans (FrS.of_same s8)).trans F9
  have hsucc:=Zyv (w:=w) (sp:=sp) (f:=f') (k:=k) (asked:=asked) (n:=n) (ms:=ms) hgl
  have hPg:Zgc w sp f' k asked n ms g=((.ok x15,(Zgc w sp f' k asked n ms g).1.2),g):=Prod.ext (Prod.ext hout rfl) hidx
  rw [hPg] at hsucc
  unfold Zfm at hsucc
  simp only at hsucc
  obtain ⟨qn9,qc9,qe9,sa9,sn9,sc9,se9,o9,_⟩:=rd9.ob
  simp only [Zag,Zaw,Zal o9,Nat.zero_add,List.getElem?_cons_succ,List.getElem?_cons_zero]
  rcases hr:Zkc (wk w) sp Znh f' (Zgc w sp f' k asked n ms g).1.2 ms[g] with ⟨x,a'⟩
  rw [hr] at hsucc rd9 hno hok9
  cases x with
  | no y m=>
   obtain ⟨hy,hl9⟩:=hno y m rfl
   simp only at hsucc
   have hall:=Zzb hsucc
   refine Zbs (fun hd=>?_) (fun hd=>absurd (of_decide_eq_true hd) hy)
   rw [hask,hall]
   exact ⟨rfl,qa9,st9,rd9,F7.trans F9',h932,fun s hs=>(by cases hs),fun y' m' hm=>by cases hm; exact ⟨hy,hl9⟩⟩
  | ok dd=>
   refine Zbs (fun hd=>absurd rfl (of_decide_eq_false hd)) (fun hd=>?_)
   simp only at hsucc
   obtain ⟨hc1,hc2⟩:=Znz (w:=w) (sp:=sp) (f:=f') (k:=k) (n:=n) (ms:=ms) h300' (g + 1)
   have hc2:=hc2 _ (by rw [hsucc])
   simp only [List.length_append,List.length_cons] at hc2
   have hl9:=hok9 dd rfl
   rw [Zbq (by omega),Ypv (by omega)]
   refine ⟨⟨by omega,by omega,by simp; omega⟩,by simp; omega,by simp [Yac]; omega,?_⟩
   refine hR (g + 1) _ _ _ (by omega) ⟨rfl,by omega,by rw [hsucc]; simp [Yac],qa9,st9,by rw [hsucc]; exact rd9,by omega,h932,F9'⟩
 ·apply Zeb.A18x0i
  have:g=mn:=by omega
  subst this
  have hend:Zgc w sp f' k asked n ms ms.length=((.ok x15,(Zgc w sp f' k asked n ms g).1.2),g):=by rw [hmn]; exact Prod.ext (Prod.ext hout rfl) hidx
  have he:Zkc (wk w) sp Znh (f' + 1) asked n=(.ok (if ms=[] then x15 else x15 ++ [41]),(Zgc w sp f' k asked n ms g).1.2):=by rw [hask,hend]; rfl
  have fin:∀ t,t=(if ms=[] then x15 else x15 ++ [41])→Zeb.J27 (Yro hb i (.slice a0 n0 c0 e0) (.slice (some (ii,oi)) n1 c1 e1) sp d h qa (Zkc (wk w) sp Znh (f' + 1) asked n)) (some (i,0)) (d:Int) t h':=by
   rintro t rfl
   apply Zeb.J27i
   obtain ⟨qn9,qc9,qe9,sa9,sn9,sc9,se9,o9,v9,r9,hsc9,hd9⟩:=rdg.ob
   have hsl9:st2.length=sn9:=by have:=r9.1; rw [Zav Zcz] at this; omega
   simp only [Zaw,Zal o9,Nat.zero_add,List.getElem?_cons_succ,List.getElem?_cons_zero,Zah]
   rw [Zbq (by omega)]
   refine Ycv r9 (k:=d + 1) (by omega) hsc9 rfl fun a' c' e' hr' hc' hp'=>?_
   simp only [Zah]
   rw [Zbd o9 (by simp)]
   simp only [Zar,putRow,List.take_succ_cons,List.take_zero,List.length_cons,List.length_nil,List.drop_succ_cons,List.drop_zero,List.drop_nil,List.cons_append,List.nil_append,List.append_nil]
   rw [he]
   refine ⟨rfl,qa',st2.take (d + 1),Zuu.write rdg.same rdg.ge o9 v9 rdg.ne hr' hc' ?_,(F7.trans Fg).trans FrS.set,by rw [List.length_take]; omega,fun s hs=>by rw [List.length_take]; omega,fun y m hm=>by cases hm⟩
   intro j o hn ha
   rcases hp' with rfl | ⟨i',o',e1,e2⟩
   ·cases ha
   ·rw [e2] at ha; cases ha
    exact hd9 _ _ (by omega) e1
  refine Zau (fun hpos=>⟨by simp; omega,?_⟩) (fun hpos=>?_)
  ·exact fin _ (by rw [if_neg (fun hm=>by rw [hm] at hmn; simp at hmn; omega)])
  ·exact fin _ (by rw [if_pos (List.eq_nil_of_length_eq_zero (by omega))])
end Go.Sim

set_option linter.unusedVariables false
set_option linter.unusedSimpArgs false
set_option maxRecDepth 20000
namespace Go.Sim
open Go Go.RowKit

theorem Ycx {hb:Zaa} {a0 a1:Pt} {n0 c0 n1 c1:Nat} {e0 e1:Bool} {w:Wd} (r:Zlx hb a0 n0 c0 a1 n1 c1 w) (b:WB w) (hw:Zdv w=true) (sp:Bool) (f:Nat)
  (ih:∀ f',f=f' + 1→Yqf f' hb a0 a1 n0 c0 n1 c1 e0 e1 w sp):Yqf f hb a0 a1 n0 c0 n1 c1 e0 e1 w sp:=by
 intro h i qa asked st n d rd hal hnd hf hd
 apply Ybs
 simp only [Zax]
 generalize hh0:h ++ [Zby.cells Zab [.str n.1,.str n.2] false]=h0
 have s0:Zba h.length h h0:=by rw [← hh0]; exact Zam
 have p1:h0[h.length]?=some (.cells Zab [.str n.1,.str n.2] false):=by rw [← hh0]; simp
 have l0:h0.length=h.length + 1:=by rw [← hh0]; simp
 have rd0:=rd.step s0
 have hil:=rd.lt
 have hlow:=rd.low
 obtain ⟨qn,qc,qe,sa,sn,sc,se,ho,hv,hr,hsc,hdj⟩:=rd0.ob
 have hsn:st.length=sn:=by have:=hr.1; rw [Zav Zcz] at this; omega
 simp only [Zaw,Zal ho,Nat.zero_add,List.getElem?_cons_succ,List.getElem?_cons_zero,Zah]
 refine Ycv hr (k:=d) (by omega) hsc rfl fun a' c' e' hr' hc' _=>?_
 have htl:(st.take d).length=d:=by rw [List.length_take]; omega
 generalize st.take d=tk at hr' htl
 have fin:∀ (hX:Zaa) (qs cs:Nat) (es:Bool),Zba h0.length h0 hX→hX[qs]?=some (.cells Zab (Zdg eP tk ++ [.str n.1,.str n.2]) false)→h0.length≤qs→d + 1≤cs →
   Zrz (Yro hb i (.slice a0 n0 c0 e0) (.slice a1 n1 c1 e1) sp d h qa (Zkc (wk w) sp Znh f asked n)) (some (i,0)) (d:Int) h.length hX (some (qs,0)) (d + 1) cs es:=by
  intro hX qs cs es sX hqs hle hcs
  have hrow:Row hX.length hX (some (qs,0)) ((d + 1) * 2) (Zdg eP (tk ++ [n])):=
   ⟨by rw [Zav Zcz]; simp [htl],.inr ⟨_,_,_,_,_,rfl,Own.lt hqs,hqs,by simp [Zav Zcz,htl]; omega,by
    rw [List.drop_zero,List.take_of_length_le (by simp [Zav Zcz,htl]; omega)]; simp [Zdg,eP]⟩⟩
  exact Ylk r b hw sp f ih (rd0.step sX) (FrS.of_same (s0.cat sX)) hal hnd hf (by simp [htl]) (by simp) hrow (by omega) (fun q hq=>by have:=(hlow q hq).2; omega) hcs
   (sX.get p1 (Own.lt p1)) (by omega) (fun q hq=>by have:=(hlow q hq).2; omega)
 have hnn:(Zdg eP [n]).all Zat.leaf=true:=Zid (enc:=eP) (fun _=>rfl) _
 simp only [Zah,Zbb p1,Zap,Zaf,Zao,Zag]
 refine ⟨⟨?_,?_,?_,?_⟩,?_⟩
 ·rw [Zbb (Zam.get p1 (Own.lt p1))]
 ·rw [Zal (Zam.get ho (Own.lt ho))]; rfl
 ·generalize hh1:h0 ++ [Zby.cells Zab [] false]=h1
  have s1:Zba h0.length h0 h1:=by rw [← hh1]; exact Zam
  have o1:h1[h0.length]?=some (.cells Zab [] false):=by rw [← hh1]; simp
  have l1:h1.length=h0.length + 1:=by rw [← hh1]; simp
  refine Vec.app0 (n:=0) o1 Zhv Zoh Zoi Zog (by simp) (hr'.same' s1).rowOf (Zid (enc:=eP) (fun _=>rfl) _) (by omega) (fun h2 hl2 hi2 hk2=>?_)
  have S2:Zba h0.length h0 h2:=⟨by omega,fun j hj=>by rw [hk2 j (by omega) (by omega)]; exact s1.eq j hj⟩
  have q2:=S2.get p1 (Own.lt p1)
  have z2:=S2.get ho (Own.lt ho)
  have s3:Zba h2.length h2 (h2 ++ [Zby.cells Zab [.str n.1,.str n.2] false]):=Zam
  have q3:=s3.get q2 (Own.lt q2)
  have z3:=s3.get z2 (Own.lt z2)
  simp only [Zah,Nat.zero_add]
  refine ⟨by rw [Zbb q2,Zbb (s1.get p1 (Own.lt p1))],by rw [Zal z2,Zal (s1.get ho (Own.lt ho))],by rw [Zal z3,Zal z2],?_⟩
  have hV:Vec Zab h2 (some (h1.length,0)) d d (Zdg eP tk):=Vec.mk1 (by simpa using hi2)
  refine hV.pushN Zhv Zoh Zoi Zog (by rw [Zav Zcz,htl]) rfl (by omega) rfl (by omega) (fun h6 hl6 hi6 hk6=>?_)
  have S6:Zba h0.length h0 h6:=⟨by omega,fun j hj=>by rw [hk6 j (by omega) fun q hq=>by cases hq; omega]; exact S2.eq j hj⟩
  simp only [Zah]
  refine ⟨by rw [Zbb (S6.get p1 (Own.lt p1)),Zbb q3],by rw [Zal (S6.get ho (Own.lt ho)),Zal z3],?_⟩
  exact fin h6 _ _ _ S6 hi6 (by omega) (by omega)
 ·generalize hh1:h0 ++ [Zby.cells Zab [] false]=h1
  have s1:Zba h0.length h0 h1:=by rw [← hh1]; exact Zam
  have o1:h1[h0.length]?=some (.cells Zab [] false):=by rw [← hh1]; simp
  have l1:h1.length=h0.length + 1:=by rw [← hh1]; simp
  generalize hh2:h1 ++ [Zby.cells Zab [.str n.1,.str n.2] false]=h2
  have s2:Zba h1.length h1 h2:=by rw [← hh2]; exact Zam
  have b2:h2[h1.length]?=some (.cells Zab [.str n.1,.str n.2] false):=by rw [← hh2]; simp
  have l2:h2.length=h1.length + 1:=by rw [← hh2]; simp
  have S2:=s1.cat s2
  have o2:=s2.get o1 (Own.lt o1)
  have q2:=S2.get p1 (Own.lt p1)
  have z2:=S2.get ho (Own.lt ho)
  refine ⟨by rw [Zal z2,Zal (s1.get ho (Own.lt ho))],?_⟩
  refine Vec.app0 (n:=0) o2 Zhv Zoh Zoi Zog (by simp) (hr'.same' S2).rowOf (Zid (enc:=eP) (fun _=>rfl) _) (by omega) (fun h3 hl3 hi3 hk3=>?_)
  have S3:Zba h0.length h0 h3:=⟨by omega,fun j hj=>by rw [hk3 j (by omega) (by omega)]; exact S2.eq j hj⟩
  have q3:=S3.get p1 (Own.lt p1)
  have z3:=S3.get ho (Own.lt ho)
  have b3:h3[h1.length]?=some (.cells Zab [.str n.1,.str n.2] false):=by rw [hk3 _ (Own.lt b2) (by omega)]; exact b2
  simp only [Zah,Nat.zero_add]
  refine ⟨by rw [Zbb q3,Zbb q2],by rw [Zal z3,Zal z2],?_⟩
  have hr3:Row h3.length h3 (some (h1.length,0)) (1 * 2) (Zdg eP [n]):=⟨rfl,.inr ⟨h1.length,0,_,_,_,rfl,Own.lt b3,b3,by simp,by simp [eP]⟩⟩
  have hi3:h3[h2.length]?=some (.cells Zab (Zdg eP tk) false):=by simpa using hi3
  refine Vec.app0 (n:=d) hi3 Zhv Zoh Zoi Zog (by rw [Zav Zcz,htl]) hr3.rowOf hnn (by omega) (fun h6 hl6 hi6 hk6=>?_)
  have S6:Zba h0.length h0 h6:=⟨by omega,fun j hj=>by rw [hk6 j (by omega) (by omega)]; exact S3.eq j hj⟩
  simp only [Zah]
  refine ⟨by rw [Zbb (S6.get p1 (Own.lt p1)),Zbb q3],by rw [Zal (S6.get ho (Own.lt ho)),Zal z3],?_⟩
  exact fin h6 _ _ _ S6 hi6 (by omega) (by omega)
 ·generalize hh1:h0 ++ [Zby.cells Zab [.str n.1,.str n.2] false]=h1
  have s1:Zba h0.length h0 h1:=by rw [← hh1]; exact Zam
  have b1:h1[h0.length]?=some (.cells Zab [.str n.1,.str n.2] false):=by rw [← hh1]; simp
  have l1:h1.length=h0.length + 1:=by rw [← hh1]; simp
  generalize hh2:h1 ++ [Zby.cells Zab [] false]=h2
  have s2:Zba h1.length h1 h2:=by rw [← hh2]; exact Zam
  have o2:h2[h1.length]?=some (.cells Zab [] false):=by rw [← hh2]; simp
  have l2:h2.length=h1.length + 1:=by rw [← hh2]; simp
  have S2:=s1.cat s2
  have b2:=s2.get b1 (Own.lt b1)
  have q1:=s1.get p1 (Own.lt p1)
  have z1:=s1.get ho (Own.lt ho)
  have q2:=S2.get p1 (Own.lt p1)
  have z2:=S2.get ho (Own.lt ho)
  refine ⟨by rw [Zal z1]; rfl,by rw [Zbb q2,Zbb q1],by rw [Zal z2,Zal z1],?_⟩
  refine Vec.app0 (n:=0) o2 Zhv Zoh Zoi Zog (by simp) (hr'.same' S2).rowOf (Zid (enc:=eP) (fun _=>rfl) _) (by omega) (fun h3 hl3 hi3 hk3=>?_)
  have S3:Zba h0.length h0 h3:=⟨by omega,fun j hj=>by rw [hk3 j (by omega) (by omega)]; exact S2.eq j hj⟩
  have q3:=S3.get p1 (Own.lt p1)
  have z3:=S3.get ho (Own.lt ho)
  have b3:h3[h0.length]?=some (.cells Zab [.str n.1,.str n.2] false):=by rw [hk3 _ (Own.lt b2) (by omega)]; exact b2
  simp only [Zah,Nat.zero_add]
  refine ⟨by rw [Zbb q3,Zbb q2],by rw [Zal z3,Zal z2],?_⟩
  have hr3:Row h3.length h3 (some (h0.length,0)) (1 * 2) (Zdg eP [n]):=⟨rfl,.inr ⟨h0.length,0,_,_,_,rfl,Own.lt b3,b3,by simp,by simp [eP]⟩⟩
  have hi3:h3[h2.length]?=some (.cells Zab (Zdg eP tk) false):=by simpa using hi3
  refine Vec.app0 (n:=d) hi3 Zhv Zoh Zoi Zog (by rw [Zav Zcz,htl]) hr3.rowOf hnn (by omega) (fun h6 hl6 hi6 hk6=>?_)
  have S6:Zba h0.length h0 h6:=⟨by omega,fun j hj=>by rw [hk6 j (by omega) (by omega)]; exact S3.eq j hj⟩
  simp only [Zah]
  refine ⟨by rw [Zbb (S6.get p1 (Own.lt p1)),Zbb q3],by rw [Zal (S6.get ho (Own.lt ho)),Zal z3],?_⟩
  exact fin h6 _ _ _ S6 hi6 (by omega) (by omega)
theorem Yhr {hb:Zaa} {a0 a1:Pt} {n0 c0 n1 c1:Nat} {e0 e1:Bool} {w:Wd} (r:Zlx hb a0 n0 c0 a1 n1 c1 w) (b:WB w) (hw:Zdv w=true) (sp:Bool):∀ f,Yqf f hb a0 a1 n0 c0 n1 c1 e0 e1 w sp
 | 0=>Ycx r b hw sp 0 fun f' h=>by omega
 | f + 1=>Ycx r b hw sp (f + 1) fun f' h=>by cases h; exact Yhr r b hw sp f
theorem Zzs {h:Zaa} {a0 a1:Pt} {n0 c0 n1 c1:Nat} {e0 e1:Bool} {w:Wd} {nd:Nd} {sp:Bool} (r:Zlx h a0 n0 c0 a1 n1 c1 w) (b:WB w) (hnt:nd.2.length≤1048576) :
  Zaj pg Zlq [.agg [.slice a0 n0 c0 e0,.slice a1 n1 c1 e1],.agg [.str nd.1,.str nd.2],.bool sp] h fun x h'=>∃ i x3 sa sn sc se st,x=.tup [.ptr (some (i,0)),.str (Yac (Zhs w nd sp)),.bool (Zdv w && Zfp w nd)]∧Zba h.length h h' ∧
   h'[i]?=some (.cells Zcw [.slice a0 n0 c0 e0,.slice a1 n1 c1 e1,.bool sp,x3,.slice sa sn sc se,.str (Yer (Zhs w nd sp))] false)∧h.length≤i∧((Zdv w && Zfp w nd)=true→Row h'.length h' sa (sn * 2) (Zdg eP st)∧sn≤32∧∀ y m,Zhs w nd sp=.no y m→y≠[]∧st.getLast?=some m):=by
 apply Zsr.call
 simp only [Zax]
 generalize hh0:h ++ [Zby.cells Zad [.slice a0 n0 c0 e0,.slice a1 n1 c1 e1] false]=h0
 generalize hh1:h0 ++ [Zby.cells Zab [.str nd.1,.str nd.2] false]=h1
 have s0:Zba h.length h h0:=by rw [← hh0]; exact Zam
 have s1:Zba h0.length h0 h1:=by rw [← hh1]; exact Zam
 have w0:h0[h.length]?=some (Zmt a0 n0 c0 e0 a1 n1 c1 e1):=by rw [← hh0]; simp [Zmt]
 have w1:=s1.get w0 (Own.lt w0)
 have p1:h1[h0.length]?=some (.cells Zab [.str nd.1,.str nd.2] false):=by rw [← hh1]; simp
 have l1:h1.length=h0.length + 1:=by rw [← hh1]; simp
 have l0:h0.length=h.length + 1:=by rw [← hh0]; simp
 rw [Zwi w1]
 simp only [Zap,Zaf,Zao,Zah]
 generalize hh2:h1 ++ [Zby.cells Zab [] false]=h2
 have s2:Zba h1.length h1 h2:=by rw [← hh2]; exact Zam
 have o2:h2[h1.length]?=some (.cells Zab [] false):=by rw [← hh2]; simp
 have l2:h2.length=h1.length + 1:=by rw [← hh2]; simp
 generalize hh3:h2 ++ [Zby.cells Zab [] false]=h3
 have s3:Zba h2.length h2 h3:=by rw [← hh3]; exact Zam
 have o3:h3[h2.length]?=some (.cells Zab [] false):=by rw [← hh3]; simp
 have l3:h3.length=h2.length + 1:=by rw [← hh3]; simp
 generalize hh4:h3 ++ [Zby.cells Zcw [.slice a0 n0 c0 e0,.slice a1 n1 c1 e1,.bool sp,.slice (some (h1.length,0)) 0 0 true,.slice (some (h2.length,0)) 0 0 true,.str []] false]=h4
 have s4:Zba h3.length h3 h4:=by rw [← hh4]; exact Zam
 have z4:h4[h3.length]?=some (.cells Zcw [.slice a0 n0 c0 e0,.slice a1 n1 c1 e1,.bool sp,.slice (some (h1.length,0)) 0 0 true,.slice (some (h2.length,0)) 0 0 true,.str []] false):=by rw [← hh4]; simp
 have S14:=(s2.cat s3).cat s4
 have S4:=(s0.cat s1).cat S14
 have w4:=S14.get w1 (Own.lt w1)
 have p4:=S14.get p1 (Own.lt p1)
 have e4:=(s3.cat s4).get o2 (Own.lt o2)
 rw [Zwi w4,Zbb p4]
 simp only [Zap,Zaf,Zao,Zah,Zag]
 refine (Zwb (ct:=nd.1) (tt:=nd.2) (r.same S4) b hnt).mono ?_
 rintro v h5 ⟨rfl,s5⟩
 have S5:=S4.cat s5
 have p5:=s5.get p4 (Own.lt p4)
 have e5:=s5.get e4 (Own.lt e4)
 have z5:=s5.get z4 (Own.lt z4)
 have le5:=S5.le
 have rd:Zuu h h3.length (.slice a0 n0 c0 e0) (.slice a1 n1 c1 e1) sp h5 (some (h1.length,0)) [] [] []:=
  ⟨S5,by omega,⟨0,0,true,some (h2.length,0),0,0,true,z5,⟨Vec.mk1 e5,rfl,fun q hq=>by cases hq; omega⟩,by simpa using Row.nil,by omega,fun j o hn=>absurd rfl hn⟩,fun q hq=>by cases hq; omega⟩
 simp only [Zaq]
 refine Zbs (fun hc=>?_) (fun hc=>?_)
 ·have hf:Zhs w nd sp=.no Zvx ([],[]):=by unfold Zhs; rw [hc]; rfl
  refine rd.reason _ fun h6 rd6 F6=>?_
  obtain ⟨qn,qc,qe,sa,sn,sc,se,ho,_⟩:=rd6.ob
  rw [hc,hf]
  exact ⟨h3.length,_,sa,sn,sc,se,[],rfl,rd6.same,ho,by omega,fun hc=>by cases hc⟩
 rw [Zbb p5]
 simp only [Zap,Zaf,Zao,Zag]
 have hc':=hc
 simp only [Bool.and_eq_true] at hc'
 refine (Yhr r b hc'.1 sp 31 (n:=nd) (d:=0) rd (by simp) hc'.2 (by omega) (by simp)).mono ?_
 rintro v h6 ⟨rfl,qa,st,rd6,F6,hst,_,hno⟩
 have hf:Zhs w nd sp=(Zkc (wk w) sp Znh 31 [] nd).1:=by unfold Zhs; rw [hc]; rfl
 obtain ⟨qn,qc,qe,sa,sn,sc,se,ho,_,hr,_⟩:=rd6.ob
 have hsl:st.length=sn:=by have:=hr.1; rw [Zav Zcz] at this; omega
 simp only [Zag]
 rw [hc,hf]
 exact ⟨h3.length,_,sa,sn,sc,se,st,rfl,rd6.same,ho,by omega,fun _=>⟨hr,by omega,hno⟩⟩
theorem Ycr {h:Zaa} {a0 a1:Pt} {n0 c0 n1 c1:Nat} {e0 e1:Bool} {w:Wd} {nd:Nd} (r:Zlx h a0 n0 c0 a1 n1 c1 w) (b:WB w) (hnt:nd.2.length≤1048576) :
  Zaj pg Znj [.agg [.slice a0 n0 c0 e0,.slice a1 n1 c1 e1],.agg [.str nd.1,.str nd.2]] h (Ygv w nd false h):=by
 apply Zrl.call
 simp only [Zax]
 generalize hh0:h ++ [Zby.cells Zad [.slice a0 n0 c0 e0,.slice a1 n1 c1 e1] false]=h0
 generalize hh1:h0 ++ [Zby.cells Zab [.str nd.1,.str nd.2] false]=h1
 have s0:Zba h.length h h0:=by rw [← hh0]; exact Zam
 have s1:Zba h0.length h0 h1:=by rw [← hh1]; exact Zam
 have w0:h0[h.length]?=some (Zmt a0 n0 c0 e0 a1 n1 c1 e1):=by rw [← hh0]; simp [Zmt]
 have w1:=s1.get w0 (Own.lt w0)
 have p1:h1[h0.length]?=some (.cells Zab [.str nd.1,.str nd.2] false):=by rw [← hh1]; simp
 rw [Zwi w1,Zbb p1]
 simp only [Zap,Zaf,Zao,Zah,Zag]
 refine (Zzs (r.same (s0.cat s1)) b hnt).mono ?_
 rintro v h2 ⟨i,x3,sa,sn,sc,se,st,rfl,s2,ho,_⟩
 simp only [Zci,Zaf,Zeg,Zag,Zao,Zaq,Zaw,Zal ho,Nat.zero_add,List.getElem?_cons_succ,List.getElem?_cons_zero]
 exact ⟨rfl,(s0.cat s1).cat s2⟩
end Go.Sim

set_option linter.unusedVariables false
set_option linter.unusedSimpArgs false
set_option maxRecDepth 20000
namespace Go.Sim
open Go Go.RowKit

def eB (b:Nat):List Zat:=[.int .u8 (b:Int)]
theorem Yeg (x:Nat):(eB x).length=1:=rfl
def Rdr (h:Zaa) (i p:Nat):Prop:=∃ a n c e,∃ l:List Nat,h[i]?=some (.cells Zof [.slice a n c e,.int .i64 (p:Int)] false)∧Row i h a n (Zdg eB l)∧(∀ b∈l,b < 256)∧n≤2000
theorem Rdr.agree {h h':Zaa} {i p:Nat} (r:Rdr h i p) (hh:∀ j,j≤i→h'[j]?=h[j]?) (hl:h.length≤h'.length):Rdr h' i p:=by
 obtain ⟨a,n,c,e,l,hi,hr,hb,hn⟩:=r
 exact ⟨a,n,c,e,l,by rw [hh i (Nat.le_refl _)]; exact hi,hr.same ⟨hl,fun j hj=>hh j (by omega)⟩,hb,hn⟩
theorem Rdr.lt {h:Zaa} {i p:Nat} (r:Rdr h i p):i < h.length:=by obtain ⟨a,n,c,e,l,hi,_⟩:=r; exact Own.lt hi
theorem Rdr.same {h h':Zaa} {i p:Nat} (r:Rdr h i p) (s:Zba h.length h h'):Rdr h' i p:=r.agree (fun j hj=>s.eq j (by have:=r.lt; omega)) s.le
theorem Rdr.app {h:Zaa} {i p:Nat} (r:Rdr h i p) (l:Zaa):Rdr (h ++ l) i p:=r.same (Zba.app (Nat.le_refl _) _)
theorem Ykk {h:Zaa} {a:Pt} {n c:Nat} {e:Bool} {l:List Nat} (r:Row h.length h a n (Zdg eB l)) (hb:∀ b∈l,b < 256) (hnc:n≤c):Zaj pg Zjj [.slice a n c e] h fun v h'=>v=.ptr (some (h.length,0))∧Zba h.length h h'∧Rdr h' h.length 0∧h'.length=h.length + 1:=by
 have hl:l.length=n:=by have:=r.1; rw [Zav Yeg] at this; omega
 apply Zlr.call
 have fin:∀ (a:Pt) (n c:Nat) (e:Bool) (l:List Nat),Row h.length h a n (Zdg eB l)→(∀ b∈l,b < 256)→n≤2000→Zlr.J3 (fun v h'=>v=.ptr (some (h.length,0))∧Zba h.length h h'∧Rdr h' h.length 0∧h'.length=h.length + 1) a n c e h:=by
  intro a n c e l r hb hn
  apply Zlr.J3i
  simp only [Zax]
  exact ⟨by trivial,Zba.app (Nat.le_refl _) _,⟨a,n,c,e,l,by simp,r.same (Zba.app (Nat.le_refl _) _),hb,hn⟩,by simp⟩
 refine Zau (fun hgt=>?_) (fun hle=>fin a n c e l r hb (by omega))
 have hcut:Row h.length h a 2000 (Zdg eB (l.take 2000)):=by
  obtain ⟨h1,h2⟩:=r
  have hlen:(Zdg eB (l.take 2000)).length=2000:=by rw [Zav Yeg,List.length_take]; omega
  refine ⟨hlen,.inr ?_⟩
  rcases h2 with h0 | ⟨i,o,t,all,ro,ha,hi,hg,hle,hcs⟩
  ·omega
  ·refine ⟨i,o,t,all,ro,ha,hi,hg,by omega,?_⟩
   have:=Yfr (enc:=eB) Yeg l 2000
   rw [Nat.mul_one] at this
   rw [← this,hcs,List.take_take,Nat.min_eq_left (by omega)]
 obtain ⟨_,h2⟩:=r
 rcases h2 with h0 | ⟨i,o,t,all,ro,ha,hi,hg,hle,hcs⟩
 ·omega
 ·subst ha
  simp only [Zhu,Zks]
  refine ⟨by omega,fun hlt=>?_,fun hno=>by omega⟩
  simp only [Zah]
  have e1:o + Int.toNat 0 * 1=o:=by simp
  have e2:((2000:Int) - 0).toNat=2000:=by omega
  rw [e1,e2]
  exact fin _ _ _ _ _ hcut (fun b hb'=>hb b (List.mem_of_mem_take hb')) (by omega)
theorem Yuj {x:Int} (h0:0≤x) (h1:x < 4611686018427387904):0≤IntKind.wrap .i64 ((BitVec.ofInt (IntKind.bits .i64) x ^^^ BitVec.ofInt (IntKind.bits .i64) (IntKind.wrap .i64 (Int.tdiv x 64))).toNat):=by
 obtain ⟨n,rfl⟩:∃ n:Nat,x=n:=⟨x.toNat,by omega⟩
 have hd:Int.tdiv (n:Int) 64=((n / 64:Nat):Int):=by rw [Int.tdiv_eq_ediv_of_nonneg (by omega)]; omega
 rw [hd,IntWalk.i64_in ((n / 64:Nat):Int) (by omega)]
 have hx:((BitVec.ofInt (IntKind.bits .i64) (n:Int)) ^^^ (BitVec.ofInt (IntKind.bits .i64) ((n / 64:Nat):Int))).toNat=n ^^^ (n / 64):=by
  rw [BitVec.toNat_xor,BitVec.toNat_ofInt,BitVec.toNat_ofInt]
  have e1:((n:Int) % ((2 ^ (IntKind.bits .i64):Nat):Int)).toNat=n:=by simp only [IntKind.bits]; omega
  have e2:(((n / 64:Nat):Int) % ((2 ^ (IntKind.bits .i64):Nat):Int)).toNat=n / 64:=by simp only [IntKind.bits]; omega
  rw [e1,e2]
 rw [hx]
 have hlt:n ^^^ (n / 64) < 2 ^ 62:=Nat.xor_lt_two_pow (by omega) (by omega)
 rw [IntWalk.i64_in _ (by omega)]; omega
theorem Zvd {x n:Int} (h0:0≤x) (hn:1≤n):0≤Int.tmod x n∧Int.tmod x n < n:=by
 rw [Int.tmod_eq_emod_of_nonneg h0]; exact ⟨Int.emod_nonneg _ (by omega),Int.emod_lt_of_pos _ (by omega)⟩
theorem Zdb {h:Zaa} {i p:Nat} (r:Rdr h i p) (hp:p≤1000000000000) (n:Int):Zaj pg Zbe [.ptr (some (i,0)),.int .i64 n] h fun v h'=>
  ∃ x,v=.int .i64 x∧0≤x∧(1≤n→x < n)∧(n < 1→x=0)∧Zec i h h'∧Rdr h' i (p + 1)∧h'.length=h.length:=by
 obtain ⟨a,m,c,e,l,hi,hr,hb,hm⟩:=r
 have hl:l.length=m:=by have:=hr.1; rw [Zav Yeg] at this; omega
 apply Zlm.call
 simp only [Zaw,Zal hi,Nat.zero_add,List.getElem?_cons_zero,List.getElem?_cons_succ,Zas]
 rw [IntWalk.i64_in _ (by omega),Zbd hi (by simp)]
 simp only [Zar]
 generalize hge:h.set i (Zby.cells Zof (putRow [.slice a m c e,.int .i64 (p:Int)] 1 [.int .i64 ((p:Int) + 1)]) false)=h2
 have h2i:h2[i]?=some (.cells Zof [.slice a m c e,.int .i64 ((p:Int) + 1)] false):=by rw [← hge,Zbx hi]; simp [putRow]
 have hK:Zec i h h2:=by rw [← hge]; exact Zec.set _ _ _
 have h2l:h2.length=h.length:=by rw [← hge]; simp
 have hr2:Row i h2 a m (Zdg eB l):=hr.same ⟨by omega,fun j hj=>by rw [← hge,Zbo (by omega)]⟩
 have hR2:Rdr h2 i (p + 1):=⟨a,m,c,e,l,by rw [h2i]; simp,hr2,hb,hm⟩
 refine Zau (fun hlt=>⟨0,rfl,by omega,by omega,fun _=>rfl,hK,hR2,h2l⟩) (fun hge1=>?_)
 simp only [Zal h2i,Nat.zero_add,List.getElem?_cons_zero,Zah]
 refine Zcs (fun h0=>⟨0,rfl,by omega,by omega,fun _=>rfl,hK,hR2,h2l⟩) (fun hne=>?_)
 have hm0:0 < m:=by omega
 have cell:∀ k,k < m→∃ ii o,∃ hk:k < l.length,a=some (ii,o)∧Zae h2 (.ptr (some (ii,o + k * 1)))=some (.int .u8 (l[k]:Int)):=by
  intro k hk
  obtain ⟨ii,o,hk',ha,_,hc⟩:=Row.el1 Yeg hr2 hk
  exact ⟨ii,o,hk',ha,hc⟩
 apply Zlm.J4i
 simp only [Zaw,Zal h2i,Nat.zero_add,List.getElem?_cons_zero,List.getElem?_cons_succ,Zas,Zah]
 rw [show (p:Int) + 1 - 1=p by omega,IntWalk.i64_in (p:Int) (by omega)]
 refine Zau (fun hlt=>?_) (fun hge2=>?_)
 ·obtain ⟨ii,o,hk,rfl,hc⟩:=cell p (by omega)
  simp only [Zaw,Int.toNat_natCast,hc,Zas]
  have hbb:=hb _ (List.getElem_mem hk)
  rw [IntWalk.i64_in _ (by omega)]
  have:=Zvd (x:=(l[p]:Int)) (n:=n) (by omega) (by omega)
  exact ⟨by omega,by omega,_,rfl,this.1,fun _=>this.2,by omega,hK,hR2,h2l⟩
 ·have t1:=Zvd (x:=(p:Int)) (n:=(m:Int)) (by omega) (by omega)
  have e1:Int.tmod (p:Int) (m:Int)=((p % m:Nat):Int):=by rw [Int.tmod_eq_emod_of_nonneg (by omega)]; omega
  have e2:IntKind.wrap .i64 ((p:Int) * 7)=((p * 7:Nat):Int):=by rw [IntWalk.i64_in _ (by omega)]; omega
  have e3:IntKind.wrap .i64 (((p * 7:Nat):Int) + 3)=((p * 7 + 3:Nat):Int):=by rw [IntWalk.i64_in _ (by omega)]; omega
  have e4:Int.tmod ((p * 7 + 3:Nat):Int) (m:Int)=(((p * 7 + 3) % m:Nat):Int):=by rw [Int.tmod_eq_emod_of_nonneg (by omega)]; omega
  rw [e1,e2,e3,e4]
  obtain ⟨ii,o,hk,rfl,hc⟩:=cell (p % m) (Nat.mod_lt _ hm0)
  obtain ⟨ii',o',hk',ha',hc'⟩:=cell ((p * 7 + 3) % m) (Nat.mod_lt _ hm0)
  obtain ⟨rfl,rfl⟩:ii=ii'∧o=o':=by simpa using ha'
  have b1:=hb _ (List.getElem_mem hk)
  have b2:=hb _ (List.getElem_mem hk')
  have m1:=Nat.mod_lt p hm0
  have m2:=Nat.mod_lt (p * 7 + 3) hm0
  simp only [Zaw,Int.toNat_natCast,hc,hc',Zas]
  refine ⟨by omega,by omega,by omega,by omega,by trivial,by trivial,by trivial,by trivial,by trivial,by trivial,by omega,by omega,by omega,?_⟩
  have e5:Int.tdiv (p:Int) (m:Int)=((p / m:Nat):Int):=by rw [Int.tdiv_eq_ediv_of_nonneg (by omega)]; omega
  have m3:p / m≤p:=Nat.div_le_self _ _
  generalize hA:((l[p % m]:Nat):Int)=A
  generalize hB:((l[(p * 7 + 3) % m]:Nat):Int)=B
  have hD1:0≤((p / m:Nat):Int)∧((p / m:Nat):Int)≤(p:Int):=⟨Int.natCast_nonneg _,Int.ofNat_le.2 m3⟩
  generalize ((p / m:Nat):Int)=D at e5 hD1
  have hA1:0≤A∧A < 256:=by omega
  have hB1:0≤B∧B < 256:=by omega
  rw [e5,IntWalk.i64_in A (by omega),IntWalk.i64_in B (by omega),IntWalk.i64_in (A * 131) (by omega),IntWalk.i64_in (B * 1117) (by omega),IntWalk.i64_in (A * 131 + B * 1117) (by omega),IntWalk.i64_in ((p:Int) * 29) (by omega),
   IntWalk.i64_in (A * 131 + B * 1117 + (p:Int) * 29) (by omega),IntWalk.i64_in D (by omega),IntWalk.i64_in (D * 53) (by omega),IntWalk.i64_in (A * 131 + B * 1117 + (p:Int) * 29 + D * 53) (by omega)]
  have hx:=Yuj (x:=A * 131 + B * 1117 + (p:Int) * 29 + D * 53) (by omega) (by omega)
  have:=Zvd hx (by omega:1≤n)
  exact ⟨_,rfl,this.1,fun _=>this.2,by omega,hK,hR2,h2l⟩
theorem Ypp {h:Zaa} {i p j n c:Nat} {e:Bool} {t:TypeId} {l:List Int} (r:Rdr h i p) (hp:p≤1000000000000) (hj:h[j]?=some (.cells t (Zdg eI l) false)) (hji:j≠i) (hn:l.length=n) (h0:1≤n) :
  Zaj pg Zep [.ptr (some (i,0)),.slice (some (j,0)) n c e] h fun v h'=>∃ x∈l,v=.int .i64 x∧Zec i h h'∧Rdr h' i (p + 1)∧h'.length=h.length:=by
 apply Zqx.call
 refine (Zdb r hp n).mono ?_
 rintro v h2 ⟨x,rfl,h0x,hlt,_,hK,hR,hl⟩
 simp only [Zas,Zaw]
 have hlt:=hlt (by omega)
 obtain ⟨k,rfl⟩:∃ k:Nat,x=k:=⟨x.toNat,by omega⟩
 have hj2:h2[j]?=some (.cells t (Zdg eI l) false):=by rw [hK.eq j (Own.lt hj) hji]; exact hj
 have hrow:Row h2.length h2 (some (j,0)) n (Zdg eI l):=⟨by rw [Zav Znv]; omega,.inr ⟨j,0,t,_,false,rfl,Own.lt hj2,hj2,by rw [Zav Znv]; omega,by rw [List.drop_zero,List.take_of_length_le (by rw [Zav Znv]; omega)]⟩⟩
 obtain ⟨ii,o,hk,ha,_,hc⟩:=Row.el1 Znv hrow (k:=k) (by omega)
 cases ha
 rw [Int.toNat_natCast,hc]
 simp only [eI,List.getElem?_cons_zero,Zas]
 exact ⟨by omega,l[k],List.getElem_mem hk,rfl,hK,hR,hl⟩
theorem Zml {h:Zaa} {i p j n c:Nat} {e:Bool} {t:TypeId} {l:List (List Nat)} (r:Rdr h i p) (hp:p≤1000000000000) (hj:h[j]?=some (.cells t (Zdg eS l) false)) (hji:j≠i) (hn:l.length=n) (h0:1≤n) :
  Zaj pg Zcd [.ptr (some (i,0)),.slice (some (j,0)) n c e] h fun v h'=>∃ x∈l,v=.str x∧Zec i h h'∧Rdr h' i (p + 1)∧h'.length=h.length:=by
 apply Zrp.call
 refine (Zdb r hp n).mono ?_
 rintro v h2 ⟨x,rfl,h0x,hlt,_,hK,hR,hl⟩
 simp only [Zas,Zaw]
 have hlt:=hlt (by omega)
 obtain ⟨k,rfl⟩:∃ k:Nat,x=k:=⟨x.toNat,by omega⟩
 have hj2:h2[j]?=some (.cells t (Zdg eS l) false):=by rw [hK.eq j (Own.lt hj) hji]; exact hj
 have hrow:Row h2.length h2 (some (j,0)) n (Zdg eS l):=⟨by rw [Zav Zme]; omega,.inr ⟨j,0,t,_,false,rfl,Own.lt hj2,hj2,by rw [Zav Zme]; omega,by rw [List.drop_zero,List.take_of_length_le (by rw [Zav Zme]; omega)]⟩⟩
 obtain ⟨ii,o,hk,ha,_,hc⟩:=Row.el1 Zme hrow (k:=k) (by omega)
 cases ha
 rw [Int.toNat_natCast,hc]
 simp only [eS,List.getElem?_cons_zero,Zag]
 exact ⟨by omega,l[k],List.getElem_mem hk,rfl,hK,hR,hl⟩
theorem Rdr.keep {h h':Zaa} {i p:Nat} (r:Rdr h i p) (hh:∀ j,j≤i→h'[j]?=h[j]?) (hl:h.length≤h'.length):Rdr h' i p:=r.agree hh hl
end Go.Sim

set_option linter.unusedVariables false
set_option linter.unusedSimpArgs false
set_option maxRecDepth 20000
namespace Go.Sim
open Go Go.RowKit

theorem Yhb {h:Zaa} {i p:Nat} (r:Rdr h i p) (hp:p≤1000000000000) (g:Bool) (Q:QT) (hQ:∀ c h',Zmo c=true→Zec i h h'→Rdr h' i (p + 1)→Q (.str [c]) h') :
  bcase g (Zch (h ++ [.cells Zbh [.str [105],.str [98],.str [105],.str [117]] false]) fun h_0=>Zaj pg Zcd [.ptr (some (i,0)),.slice (some (List.length h,0)) 4 4 true] h_0 fun v_1 h_2=>
 Zbc (some v_1) fun s_3=>Q (.str s_3) h_2) (Zch (h ++ [.cells Zbh [.str [120],.str [105],.str [121],.str [98],.str [120],.str [122],.str [117]] false]) fun h_4=>Zaj pg Zcd [.ptr (some (i,0)),.slice (some (List.length h,0)) 7 7 true] h_4 fun v_5 h_6=>
 Zbc (some v_5) fun s_7=>Q (.str s_7) h_6):=by
 have hil:=r.lt
 have go:∀ (l:List (List Nat)) (n:Nat),l.length=n→1≤n→(∀ x∈l,∃ c,x=[c]∧Zmo c=true)→Zch (h ++ [.cells Zbh (Zdg eS l) false]) fun h_0=>Zaj pg Zcd [.ptr (some (i,0)),.slice (some (List.length h,0)) n n true] h_0 fun v_1 h_2=>Zbc (some v_1) fun s_3=>Q (.str s_3) h_2:=by
  intro l n hn h1 hl
  simp only [Zax]
  refine (Zml (r.app _) hp (j:=h.length) (t:=Zbh) (l:=l) (by simp) (by omega) hn h1).mono ?_
  rintro v h2 ⟨x,hx,rfl,hK,hR,_⟩
  obtain ⟨c,rfl,hc⟩:=hl x hx
  simp only [Zag]
  exact hQ c h2 hc ((Zec.app i h _).trans hK) hR
 cases g with
 | true=>exact go [[105],[98],[105],[117]] 4 rfl (by omega) (by intro x hx; simp at hx; rcases hx with rfl | rfl | rfl | rfl <;> exact ⟨_,rfl,rfl⟩)
 | false=>exact go [[120],[105],[121],[98],[120],[122],[117]] 7 rfl (by omega) (by intro x hx; simp at hx; rcases hx with rfl | rfl | rfl | rfl | rfl | rfl | rfl <;> exact ⟨_,rfl,rfl⟩)
def DrQ (i p d:Nat) (h:Zaa) (v:Zat) (h':Zaa):Prop:=∃ t:Ty,v=.str t.txt∧t.ok=true∧t.txt.length≤4 ^ (d + 1)∧Zec i h h'∧∃ p',p≤p'∧p'≤p + 4 ^ (d + 1)∧Rdr h' i p'
theorem Ztv:∀ (d:Nat),d≤8→∀ {h:Zaa} {i p:Nat},Rdr h i p→p + 4 ^ (d + 1)≤1000000000000→∀ (g:Bool),Zaj pg Zeu [.ptr (some (i,0)),.int .i64 (d:Int),.bool g] h (DrQ i p d h):=by
 intro d
 induction d with
 | zero=>
  intro _ h i p r hp g
  apply Zmw.call
  refine Zcs (fun _=>?_) (fun hne=>absurd rfl hne)
  exact Yhb r (by omega) g (DrQ i p 0 h) fun c h' hc hK hR=>⟨.k c,rfl,by simpa [Ty.ok] using hc,by simp [Ty.txt],hK,p + 1,by omega,by omega,hR⟩
 | succ d ih=>
  intro hd h i p r hp g
  have hB:4 ^ (d + 1 + 1)=4 * 4 ^ (d + 1):=by rw [Nat.pow_succ]; omega
  have hB1:4≤4 ^ (d + 1):=by rw [Nat.pow_succ]; have:=Nat.one_le_two_pow (n:=0); have:1≤4 ^ d:=Nat.one_le_pow _ _ (by omega); omega
  have hB2:4 ^ (d + 1)≤1000000000000:=by omega
  generalize hBB:4 ^ (d + 1)=B at *
  apply Zmw.call
  refine Zcs (fun he=>by omega) (fun _=>?_)
  refine (Zdb r (by omega) 3).mono ?_
  rintro v h1 ⟨x,rfl,hx0,hx1,_,K1,R1,_⟩
  simp only [Zas]
  refine Zcs (fun _=>?_) (fun _=>?_)
  ·exact Yhb R1 (by omega) g (DrQ i p (d + 1) h) fun c h' hc hK hR=>⟨.k c,rfl,by simpa [Ty.ok] using hc,by rw [hB]; simp [Ty.txt]; omega,K1.trans hK,p + 1 + 1,by omega,by omega,hR⟩
  ·apply Zmw.J5i
   refine (Zdb R1 (by omega) 4).mono ?_
   rintro v h2 ⟨x,rfl,hx0,hx1,_,K2,R2,_⟩
   have hw:IntKind.wrap .i64 (((d + 1:Nat):Int) - 1)=(d:Int):=by rw [IntWalk.i64_in _ (by omega)]; omega
   have K12:=K1.trans K2
   simp only [Zas]
   rw [hw]
   have one:∀ (c:Nat),(c=109 ∨ c=108)→Zaj pg Zeu [.ptr (some (i,0)),.int .i64 (d:Int),.bool g] h2 fun v_28 h_29=>
     Zbc (some v_28) fun s_30=>List.length ([c,40]) + List.length s_30≤9223372036854775807∧(List.length (([c,40]) ++ s_30) + List.length [41]≤9223372036854775807∧(DrQ i p (d + 1) h (.str ((([c,40]) ++ s_30) ++ [41])) h_29)):=by
    intro c hc
    refine (ih (by omega) R2 (by omega) g).mono ?_
    rintro v h3 ⟨t,rfl,hok,hlen,K3,p3,hp1,hp2,R3⟩
    rw [hBB] at hlen hp2
    simp only [Zag]
    refine ⟨by simp; omega,by simp; omega,.u c t,by simp [Ty.txt],?_,?_,K12.trans K3,p3,by omega,by omega,R3⟩
    ·simp only [Ty.ok,hok,Bool.and_true]; rcases hc with rfl | rfl <;> rfl
    ·rw [hB]; simp [Ty.txt]; omega
   refine Zcs (fun _=>?_) (fun _=>Zcs (fun _=>one 109 (.inl rfl)) (fun _=>one 108 (.inr rfl)))
   refine (ih (by omega) R2 (by omega) g).mono ?_
   rintro v h3 ⟨t,rfl,hok,hlen,K3,p3,hp1,hp2,R3⟩
   rw [hBB] at hlen hp2
   simp only [Zag]
   refine ⟨by simp; omega,by simp; omega,?_⟩
   refine (ih (by omega) R3 (by omega) g).mono ?_
   rintro v h4 ⟨t2,rfl,hok2,hlen2,K4,p4,hp3,hp4,R4⟩
   rw [hBB] at hlen2 hp4
   simp only [Zag]
   refine ⟨by simp; omega,by simp; omega,.w 112 t t2,by simp [Ty.txt],by simp [Ty.ok,hok,hok2],?_,(K12.trans K3).trans K4,p4,by omega,by omega,R4⟩
   rw [hB]; simp [Ty.txt]; omega
def TxQ (i p:Nat) (h:Zaa) (v:Zat) (h':Zaa):Prop:=∃ s:List Nat,v=.str s∧s.length≤1000∧Zec i h h'∧∃ p',p≤p'∧p'≤p + 1000∧Rdr h' i p'
theorem Yfy (s:List Nat) (a b:Int):(sub s a b).length≤s.length:=by unfold sub; simp; omega
theorem Yqk {h:Zaa} {i p:Nat} (r:Rdr h i p) (hp:p≤900000000000):Zaj pg Zrn [.ptr (some (i,0))] h (TxQ i p h):=by
 apply Zvy.call
 refine (Zdb r (by omega) 4).mono ?_
 rintro v h1 ⟨x,rfl,hx0,hx1,_,K1,R1,_⟩
 have hx1:=hx1 (by omega)
 simp only [Zas]
 refine (Zdb R1 (by omega) 2).mono ?_
 rintro v h2 ⟨y,rfl,hy0,hy1,_,K2,R2,_⟩
 simp only [Zas]
 obtain ⟨d,rfl⟩:∃ d:Nat,x=d:=⟨x.toNat,by omega⟩
 have hd:d≤3:=by omega
 have hB:4 ^ (d + 1)≤256:=by
  have:d=0 ∨ d=1 ∨ d=2 ∨ d=3:=by omega
  rcases this with rfl | rfl | rfl | rfl <;> decide
 refine (Ztv d (by omega) R2 (by omega) _).mono ?_
 rintro v h3 ⟨t,rfl,hok,hlen,K3,p3,hp1,hp2,R3⟩
 generalize ht:t.txt=s at hlen
 have K13:=(K1.trans K2).trans K3
 simp only [Zag]
 refine (Zdb R3 (by omega) 16).mono ?_
 rintro v h4 ⟨z,rfl,hz0,hz1,_,K4,R4,_⟩
 have K14:=K13.trans K4
 simp only [Zas]
 refine Zau (fun _=>⟨s,rfl,by omega,K14,p3 + 1,by omega,by omega,R4⟩) (fun _=>?_)
 have hs1:1≤s.length:=by rw [← ht]; obtain ⟨y,hy⟩:=t.txt_cons; rw [hy]; simp
 refine (Zdb R4 (by omega) (s.length:Nat)).mono ?_
 rintro v h5 ⟨k,rfl,hk0,hk1,_,K5,R5,_⟩
 have hk1:=hk1 (by omega)
 simp only [Zas]
 refine ⟨by omega,?_⟩
 simp only [Zax]
 have hil:=R5.lt
 refine (Zml (R5.app _) (by omega) (j:=h5.length) (t:=Zbh) (n:=7) (l:=[[],[40],[41],[44],[105],[113],[88]]) (by simp [Zdg,eS]) (by omega) rfl (by omega)).mono ?_
 rintro v h6 ⟨w,hw,rfl,K6,R6,_⟩
 have K16:=((K14.trans K5).trans (Zec.app i h5 _)).trans K6
 have hwl:w.length≤1:=by simp at hw; rcases hw with rfl | rfl | rfl | rfl | rfl | rfl | rfl <;> simp
 simp only [Zag]
 have hs1:=Yfy s 0 k
 refine ⟨by omega,?_⟩
 refine (Zdb R6 (by omega) 2).mono ?_
 rintro v h7 ⟨u,rfl,hu0,hu1,_,K7,R7,_⟩
 have hu1:=hu1 (by omega)
 simp only [Zas]
 rw [IntWalk.i64_in (k + u) (by omega)]
 have hs2:=Yfy s (k + u) s.length
 refine ⟨by omega,by simp; omega,_,rfl,by simp; omega,K16.trans K7,_,?_,?_,R7⟩ <;> omega
theorem Yha:∀ (vs:List Nat) (ts:List Ty),vs.Nodup→∀ k (hk:k < vs.length),k < ts.length→Zgn (vs.zip ts) vs[k]=ts[k]?
 | [],_,_,k,hk,_=>by simp at hk
 | v :: vs,[],_,k,_,h=>by simp at h
 | v :: vs,t :: ts,hn,0,_,_=>by simp [Zgn]
 | v :: vs,t :: ts,hn,k + 1,hk,h=>by
  have h1:=List.nodup_cons.1 hn
  have hk':k < vs.length:=by simpa using hk
  have hne:v≠vs[k]:=fun e=>h1.1 (e ▸ List.getElem_mem hk')
  simp only [List.zip_cons_cons,Zgn,List.getElem_cons_succ,if_neg hne,List.getElem?_cons_succ]
  exact Yha vs ts h1.2 k hk' (by simpa using h)
theorem Yln:∀ {m:Bd} {v:Nat} {u:Ty},Zgn m v=some u→(v,u)∈m
 | [],_,_,h=>by cases h
 | (a,b) :: m,v,u,h=>by
  simp only [Zgn] at h
  split at h
  ·rename_i e; cases h; subst e; exact List.mem_cons_self ..
  ·exact List.mem_cons_of_mem _ (Yln h)
theorem Zum {f:Nat→Option Ty} (hf:∀ c u,f c=some u→u.txt.length≤16):∀ t:Ty,(subst f t).txt.length≤16 * t.txt.length
 | .k c=>by
  simp only [subst]
  cases h:f c with
  | none=>simp [Ty.txt]
  | some u=>have:=hf c u h; simp [Ty.txt]; omega
 | .u c a=>by have:=Zum hf a; simp [subst,Ty.txt]; omega
 | .w c a b=>by have:=Zum hf a; have:=Zum hf b; simp [subst,Ty.txt]; omega
theorem Ynv {h:Zaa} {i p:Nat} {s:List Nat} (r:Rdr h i p) (hp:p≤900000000000) (hs:s.length≤1048576):Zaj pg Zld [.ptr (some (i,0)),.str s] h (TxQ i p h):=by
 apply Zkj.call
 refine (Znq s (by omega) h).mono ?_
 rintro v h1 ⟨s1,vs,rfl,hm⟩
 have hil:=r.lt
 have leaf:∀ h',Zec i h h'→∀ p',p≤p'→p'≤p + 1000→Rdr h' i p'→TxQ i p h (.str [105]) h':=fun h' K p' h1 h2 R=>⟨[105],rfl,by simp,K,p',h1,h2,R⟩
 have hvs:∃ (d:Nat) (a:Pt) (n c:Nat) (e:Bool),vs=[.int .u8 (d:Int),.slice a n c e]:=by
  split at hm
  ·obtain ⟨a,c,e,rfl⟩:=hm.shape; exact ⟨_,_,_,_,_,rfl⟩
  ·exact ⟨0,_,_,_,_,hm⟩
 obtain ⟨d,a,n,c,e,rfl⟩:=hvs
 simp only [Zci,Zaf,Zdq,Zas,Zah,Zao,Zaq,Zax]
 rw [Zgb]
 simp only [Zar]
 generalize hh2:h1 ++ [Zby.cells Zak [.int .u8 (d:Int),.slice a n c e] false]=h2
 have s2:Zba h1.length h1 h2:=by rw [← hh2]; exact Zam
 have l2:h2.length=h1.length + 1:=by rw [← hh2]; simp
 have n2:h2[h1.length]?=some (.cells Zak [.int .u8 (d:Int),.slice a n c e] false):=by rw [← hh2]; simp
 have S2:=s1.cat s2
 refine Zbs (fun hno=>leaf _ (Zec.of_same S2) p (by omega) (by omega) (r.same S2)) (fun hyes=>?_)
 have hof:∃ t,Zjg s=some t:=by
  unfold Zmr at hyes
  cases hx:Zjg s with
  | none=>rw [hx] at hyes; cases hyes
  | some t=>exact ⟨t,rfl⟩
 obtain ⟨t,ht⟩:=hof
 obtain ⟨hok,hst,hsl⟩:=Zfn.1 ht
 rw [ht] at hm
 simp only at hm
 generalize hh3:h2 ++ [Zby.cells Zdi [.int .u8 0,.slice none 0 0 true,.int .u8 0,.slice none 0 0 true,.int .u8 0,.slice none 0 0 true,.int .u8 0,.slice none 0 0 true,.int .u8 0,.slice none 0 0 true,.int .u8 0,.slice none 0 0 true,.int .u8 0,.slice none 0 0 true,.int .u8 0,.slice none 0 0 true,.int .u8 0,.slice none 0 0 true,.int .u8 0,.slice none 0 0 true,.int .u8 0,.slice none 0 0 true,.int .u8 0,.slice none 0 0 true] false]=h3
 have s3:Zba h2.length h2 h3:=by rw [← hh3]; exact Zam
 have l3:h3.length=h2.length + 1:=by rw [← hh3]; simp
 have m3:h3[h2.length]?=some (.cells Zdi (Zdg eR (List.replicate 12 (.int .u8 0,.slice none 0 0 true))) false):=by rw [← hh3]; simp; rfl
 have S3:=S2.cat s3
 have n3:=s3.get n2 (Own.lt n2)
 have r3:=r.same S3
 refine Zkj.L6ind (J:=fun (g:Nat) x19 h'=>x19=(g:Int)∧g≤12∧Zec i h h'∧(∃ p',p≤p'∧p'≤p + g * 80∧Rdr h' i p')∧h3.length≤h'.length∧h'[h1.length]?=some (.cells Zak [.int .u8 (d:Int),.slice a n c e] false) ∧
   Zhw (fun j=>j≠h2.length∧j≠i∧j < h'.length) h' t [.int .u8 (d:Int),.slice a n c e] ∧
   ∃ (rows:List (Zat × Zat)) (ts:List Ty),rows.length=12∧ts.length=g∧(∀ u∈ts,u.ok=true∧u.txt.length≤16)∧h'[h2.length]?=some (.cells Zdi (Zdg eR rows) false) ∧
    ∀ (k:Nat) (x:Zat × Zat) (u:Ty),rows[k]?=some x→ts[k]?=some u→Zhw (fun j=>j≠h2.length∧j≠i∧j < h'.length) h' u (eR x))
  (m:=fun g=>12 - g) (hr:=?_) (g:=0) (hj:=⟨rfl,by omega,Zec.of_same S3,⟨p,by omega,by omega,r3⟩,Nat.le_refl _,n3,?_,_,[],by simp,rfl,by simp,m3,by simp⟩) ..
 ·rintro g x19 h4 ⟨rfl,hg,K4,⟨p4,hp1,hp2,R4⟩,l4,n4,rt,rows,ts,hrl,htl,hts,m4,hrep⟩ R hR
  unfold Zkj.L6t
  refine Zau (fun hlt=>?_) (fun hge=>?_)
  ·refine (Zdb R4 (by omega) 2).mono ?_
   rintro v h5 ⟨x,rfl,hx0,hx1,_,K5,R5,_⟩
   have hx1:=hx1 (by omega)
   simp only [Zas]
   refine (Zdb R5 (by omega) 2).mono ?_
   rintro v h6 ⟨y,rfl,hy0,hy1,_,K6,R6,_⟩
   simp only [Zas]
   obtain ⟨q,rfl⟩:∃ q:Nat,x=q:=⟨x.toNat,by omega⟩
   have hB:4 ^ (q + 1)≤16:=by
    have:q=0 ∨ q=1:=by omega
    rcases this with rfl | rfl <;> decide
   refine (Ztv q (by omega) R6 (by omega) _).mono ?_
   rintro v h7 ⟨u,rfl,huok,hulen,K7,p7,hp3,hp4,R7⟩
   have K47:=(K5.trans K6).trans K7
   simp only [Zag]
   refine (Znq u.txt (by omega) h7).mono ?_
   rintro v h8 ⟨s8,vu,rfl,hmu⟩
   rw [Zfn.2 ⟨huok,rfl,by omega⟩] at hmu
   simp only at hmu
   obtain ⟨au,cu,eu,hsh⟩:=hmu.shape
   subst hsh
   have K48:=K47.trans (Zec.of_same s8)
   simp only [Zci,Zaf,Zdq,Zas,Zah,Zao,Zaq]
   have l8:=K48.le
   have hm2i:h2.length≠i:=by have:=S2.le; omega
   have m8:h8[h2.length]?=some (.cells Zdi (Zdg eR rows) false):=by rw [K48.eq _ (Own.lt m4) hm2i]; exact m4
   have hfl:(Zdg eR rows).length=24:=by rw [Zav Zqr,hrl]
   rw [Nat.zero_add,Int.toNat_natCast,Zbd m8 (by rw [hfl]; simp; omega)]
   simp only [Zar]
   rw [show ([Zat.int .u8 (u.hd:Int),Zat.slice au u.ps.length cu eu]:List Zat)=eR (Zat.int .u8 (u.hd:Int),Zat.slice au u.ps.length cu eu) from rfl,Ybt Zqr (by omega),Zbq (by omega)]
   have hset:∀ j,j≠h2.length→(h8.set h2.length (Zby.cells Zdi (Zdg eR (rows.set g (Zat.int .u8 (u.hd:Int),Zat.slice au u.ps.length cu eu))) false))[j]?=h8[j]?:=fun j hj=>Zbo (fun e=>hj e.symm)
   have old:∀ j,(j≠h2.length∧j≠i∧j < h4.length)→(h8.set h2.length (Zby.cells Zdi (Zdg eR (rows.set g (Zat.int .u8 (u.hd:Int),Zat.slice au u.ps.length cu eu))) false))[j]?=h4[j]?:=fun j hj=>by rw [hset j hj.1,K48.eq j hj.2.2 hj.2.1]
   have hup:∀ j,(j≠h2.length∧j≠i∧j < h4.length)→(j≠h2.length∧j≠i∧j < (h8.set h2.length (Zby.cells Zdi (Zdg eR (rows.set g (Zat.int .u8 (u.hd:Int),Zat.slice au u.ps.length cu eu))) false)).length):=fun j hj=>⟨hj.1,hj.2.1,by simp; omega⟩
   have i8:Rdr h8 i p7:=R7.same s8
   refine ⟨⟨by omega,by omega⟩,hR (g + 1) _ _ (by omega) ⟨by omega,by omega,(K4.trans K48).trans' (fun j hj=>Zbo (by have:=S2.le; omega)),⟨p7,by omega,by omega,?_⟩,by simp; omega,?_,(rt.agree old).mono hup,_,ts ++ [u],by simp [hrl],by simp [htl],?_,Zbx m8,?_⟩⟩
   ·refine i8.agree (fun j hj=>hset j (by have:=S2.le; omega)) (by simp)
   ·rw [hset _ (by omega),K48.eq _ (Own.lt n4) (by have:=s1.le; omega)]; exact n4
   ·intro w hw
    rcases List.mem_append.1 hw with hw | hw
    ·exact hts w hw
    ·simp at hw; subst hw; exact ⟨huok,by omega⟩
   ·intro k x w hx hw
    by_cases hk:k=g
    ·subst hk
     rw [List.getElem?_set_self (by omega)] at hx
     rw [List.getElem?_append_right (by omega)] at hw
     simp [htl] at hw
     cases hx; subst hw
     refine (hmu.agree (h':=h8.set h2.length (Zby.cells Zdi (Zdg eR (rows.set k (Zat.int .u8 (u.hd:Int),Zat.slice au u.ps.length cu eu))) false)) fun j hj=>hset j (by have:=hj.1; have:=K47.le; omega)).mono fun j hj=>⟨by have:=hj.1; have:=K47.le; omega,by have:=hj.1; have:=K47.le; have:=S2.le; omega,by simp; exact hj.2⟩
    ·rw [List.getElem?_set_ne (fun e=>hk e.symm)] at hx
     have hkg:k < g:=by
      have:=(List.getElem?_eq_some_iff.1 hw).1
      simp [htl] at this; omega
     rw [List.getElem?_append_left (by omega)] at hw
     exact ((hrep k x w hx hw).agree old).mono hup
  ·have hg12:g=12:=by omega
   subst hg12
   apply Zkj.A6x0i
   rw [Zbb n4]
   simp only [Zap,Zaf,Zao,Zas,Zah]
   have hget:∀ k,k < 6→(Zei[k]?).bind (Zgn (Zei.zip ts))=ts[k]?:=fun k hk=>by
    have hk6:k < Zei.length:=hk
    rw [List.getElem?_eq_getElem hk6,Option.bind_some]
    exact Yha Zei ts Zpw k hk6 (by omega)
   have hin:∀ v u,Zgn (Zei.zip ts) v=some u→v∈Zei∧u∈ts:=fun v u hu=>by
    have:=Yln hu
    exact ⟨(List.of_mem_zip this).1,(List.of_mem_zip this).2⟩
   have hW:Yov (fun j=>j≠h2.length∧j≠i∧j < h4.length) h4 h2.length (Zei.zip ts):=by
    refine ⟨rows,hrl,m4,fun k x hk hx=>?_⟩
    rw [hget k hk]
    have hkt:k < ts.length:=by omega
    rw [List.getElem?_eq_getElem hkt]
    exact hrep k x _ hx (List.getElem?_eq_getElem hkt)
   have hnv:∀ v,Zdp v=false→Zgn (Zei.zip ts) v=none:=fun v hv=>by
    cases hb:Zgn (Zei.zip ts) v with
    | none=>rfl
    | some u=>
     have h1:=(hin v u hb).1
     have:∀ x∈Zei,Zdp x=true:=by decide
     rw [this v h1] at hv; cases hv
   refine (Ybx _ (Nat.le_refl _) hok (fun j hj=>⟨hj.2.2,hj.1⟩) rt hW (fun v u hu=>(hts u (hin v u hu).2).1) hnv).mono ?_
   rintro x h5 ⟨s5,vs5,rfl,rt5⟩
   have hl5:(subst (Zgn (Zei.zip ts)) t).txt.length≤1048576:=by
    have:=Zum (f:=Zgn (Zei.zip ts)) (fun c u hu=>(hts u (hin c u hu).2).2) t
    rw [← hst] at this; omega
   have hok5:(subst (Zgn (Zei.zip ts)) t).ok=true:=Zwu ⟨hnv,fun v u hu=>(hts u (hin v u hu).2).1⟩ hok
   obtain ⟨a5,c5,e5,hsh5⟩:=rt5.shape
   subst hsh5
   simp only [Zdq,Zaf,Zas,Zah,Zao,Zax]
   rw [Zgb]
   simp only [Zar]
   generalize hh6:h5 ++ [Zby.cells Zak [.int .u8 ((subst (Zgn (Zei.zip ts)) t).hd:Int),.slice a5 (subst (Zgn (Zei.zip ts)) t).ps.length c5 e5] false]=h6
   have s6:Zba h5.length h5 h6:=by rw [← hh6]; exact Zam
   have n6:h6[h5.length]?=some (.cells Zak [.int .u8 ((subst (Zgn (Zei.zip ts)) t).hd:Int),.slice a5 (subst (Zgn (Zei.zip ts)) t).ps.length c5 e5] false):=by rw [← hh6]; simp
   rw [Zbb n6]
   simp only [Zap,Zaf,Zao,Zas,Zah]
   have rt6:=rt5.same s6
   refine (Zqe _ (Nat.le_refl _) hl5 rt6).mono ?_
   rintro v h7 ⟨rfl,s7⟩
   simp only [Zas]
   have K7:=((K4.trans (Zec.of_same s5)).trans (Zec.of_same s6)).trans (Zec.of_same s7)
   have R7:=((R4.same s5).same s6).same s7
   refine Zau (fun _=>leaf _ K7 p4 hp1 (by omega) R7) (fun hsm=>?_)
   rw [Zbb (s7.get n6 (Own.lt n6))]
   simp only [Zap,Zaf,Zao,Zas,Zah]
   refine (Zpn _ (Nat.le_refl _) hl5 hok5 (rt6.same s7)).mono ?_
   rintro v h8 ⟨rfl,s8⟩
   simp only [Zag]
   exact ⟨_,rfl,by omega,K7.trans (Zec.of_same s8),p4,hp1,by omega,R7.same s8⟩
 ·exact (hm.agree (h':=h3) fun j hj=>by rw [s3.eq j (by have:=hj.2; omega),s2.eq j hj.2]).mono fun j hj=>⟨by have:=hj.2; omega,by have:=hj.1; omega,by have:=hj.2; omega⟩
end Go.Sim
