/- A part of the proof of a statement of this seat: see the text that holds the theorem. No condition. -/
import Derived.Test.YtflfcofeedjblaaGreatDoorPTCDrawU
import Derived.Test.YtflfcofeedjblaaGreatDoorCFind
import Derived.Test.YtflfcofeedjblaaGreatDoorNm
import Derived.Test.YtflfcofeedjblaaGreatDoorCApply
import Derived.Test.YtflfcofeedjblaaGreatDoorPTCSApply
set_option linter.unusedVariables false
set_option linter.unusedSimpArgs false
set_option linter.all false
set_option linter.unusedVariables false
set_option maxRecDepth 100000
namespace Go.Sim
open Go Go.RowKit
def Zut (Q:QT) (a0:Pt) (x2:Int) (lh:Nat) (hX:Zaa) (aX:Pt) (nX cX:Nat) (eX:Bool):Prop:=
 Zbf a0 fun i_33 o_34=>Zbt (Zbb hX (.ptr (some (i_33,o_34 + 4))) [.slice aX nX cX eX]) fun h_35=>Zbf a0 fun i_36 o_37=>xSl (Zag h_35 (.ptr (some (i_36,o_37 + 3)))) fun a_38 n_39 c_40 e_41=>bcase (decide (((((n_39:Nat):Int)):Int) ≥ 300)) (Zbf a0 fun i_42 o_43=>Zbt (Zbb h_35 (.ptr (some (i_42,o_43 + 5))) [.str ([108,111,110,103])]) fun h_44=>Q (.str []) h_44) (Zbf a0 fun i_45 o_46=>xSl (Zag h_35 (.ptr (some (i_45,o_46 + 3)))) fun a_47 n_48 c_49 e_50=>Zcd (Zbe h_35 (.ptr (some (lh,0))) 2) fun cs_51=>Zai cs_51 fun c_52 r_53=>Zbd (some c_52) fun s_54=>Zai r_53 fun c_55 r_56=>Zbd (some c_55) fun s_57=>Zbq r_56 ((Zag h_35 (.ptr (some (i_45,o_46 + 3)))=Zag h_35 (.ptr (some (i_45,o_46 + 3))))∧Zcf (h_35 ++ [.cells Zab [.str s_54,.str s_57] false]) fun h_58=>(Zag h_58 (.ptr (some (i_45,o_46 + 3)))=Zag h_35 (.ptr (some (i_45,o_46 + 3))))∧Zci pg Zbo h_58 (.slice a_47 n_48 c_49 e_50) (.slice (some (List.length h_35,0)) 1 1 true) fun v_59 h_60=>xSl (some v_59) fun a_61 n_62 c_63 e_64=>Zbf a0 fun i_65 o_66=>Zbt (Zbb h_60 (.ptr (some (i_65,o_66 + 3))) [.slice a_61 n_62 c_63 e_64]) fun h_67=>bcase (decide ((x2:Int) > 30)) (Zbf a0 fun i_68 o_69=>Zbt (Zbb h_67 (.ptr (some (i_68,o_69 + 5))) [.str ([100,101,101,112])]) fun h_70=>Q (.str []) h_70) (Zcd (Zbe h_67 (.ptr (some (lh,0))) 2) fun cs_71=>Zai cs_71 fun c_72 r_73=>Zbd (some c_72) fun s_74=>Zai r_73 fun c_75 r_76=>Zbd (some c_75) fun s_77=>Zbq r_76 (Zak pg Zfz [.ptr a0,.agg [.str s_74,.str s_77]] h_67 fun v_78 h_79=>
 Zeb .i64 (some v_78) fun x_80=>bcase (decide ((x_80:Int) < 0)) (Q (.str []) h_79) (Zbf a0 fun i_81 o_82=>xSl (Zag h_79 (.ptr (some (i_81,o_82 + 0 + 1)))) fun a_83 n_84 c_85 e_86=>(0≤(x_80:Int)∧(x_80:Int) < (n_84:Nat))∧(Zbf a_83 fun i_87 o_88=>Zcd (Zbe h_79 (.ptr (some (i_87,o_88 + (Int.toNat x_80) * 3))) 3) fun cs_89=>Zai cs_89 fun c_90 r_91=>Zbd (some c_90) fun s_92=>Zai r_91 fun c_93 r_94=>Zbd (some c_93) fun s_95=>Zai r_94 fun c_96 r_97=>xSl (some c_96) fun a_98 n_99 c_100 e_101=>Zbq r_97 (Zbd (Zag h_79 (.ptr (some (lh,0 + 1)))) fun s_102=>(Zbe h_79 (.ptr (some (i_87,o_88 + (Int.toNat x_80) * 3))) 3=Zbe h_79 (.ptr (some (i_87,o_88 + (Int.toNat x_80) * 3))) 3)∧(Zag h_79 (.ptr (some (i_81,o_82 + 0 + 1)))=Zag h_79 (.ptr (some (i_81,o_82 + 0 + 1))))∧Zak pg Zjb [.agg [.str s_92,.str s_95,.slice a_98 n_99 c_100 e_101],.str s_102] h_79 fun v_103 h_104=>
 Zle v_103 fun cs_105=>Zai cs_105 fun c_106 r_107=>xSl (some c_106) fun a_108 n_109 c_110 e_111=>Zai r_107 fun c_112 r_113=>Zbz (some c_112) fun b_114=>Zbq r_113 ((Zag h_104 (.ptr (some (i_81,o_82 + 0 + 1)))=Zag h_79 (.ptr (some (i_81,o_82 + 0 + 1))))∧bcase (!b_114) (Zbf a0 fun i_115 o_116=>Zbt (Zbb h_104 (.ptr (some (i_115,o_116 + 5))) [.str ([98,105,103])]) fun h_117=>Q (.str []) h_117) (Zak pg Zhm [.int .i64 x_80] h_104 fun v_118 h_119=>
 Zbd (some v_118) fun s_120=>Zeo.L18 Q a0 x2 a_108 n_109 c_110 e_111 s_120 a_108 n_109 c_110 e_111 (((n_109:Nat):Int)) 0 h_119)))))))))
theorem Yfo (a0:Pt) (x1x0 x1x1:List Nat) (x2:Int) (h:Zaa) (Q:QT) (ht :
 Zcf (h ++ [.cells Zab [.str x1x0,.str x1x1] false]) fun h_0=>Zbf a0 fun i_1 o_2=>xSl (Zag h_0 (.ptr (some (i_1,o_2 + 4)))) fun a_3 n_4 c_5 e_6=>Zhw a_3 n_4 c_5 e_6 2 none (some (.int .i64 x2)) none fun v_7=>xSl (some v_7) fun a_8 n_9 c_10 e_11=>Zcd (Zbe h_0 (.ptr (some (List.length h,0))) 2) fun cs_12=>Zai cs_12 fun c_13 r_14=>Zbd (some c_13) fun s_15=>Zai r_14 fun c_16 r_17=>Zbd (some c_16) fun s_18=>Zbq r_17 ((Zcf (h_0 ++ [.cells Zab [] false]) fun h_19=>(Zbe h_19 (.ptr (some (List.length h,0))) 2=Zbe h_0 (.ptr (some (List.length h,0))) 2)∧(Zag h_19 (.ptr (some (i_1,o_2 + 4)))=Zag h_0 (.ptr (some (i_1,o_2 + 4))))∧(Zci pg Zbo h_19 (.slice (some (List.length h_0,0)) 0 0 true) (.slice a_8 n_9 c_10 e_11) fun v_20 h_21=>xSl (some v_20) fun a_22 n_23 c_24 e_25=>(Zbe h_21 (.ptr (some (List.length h,0))) 2=Zbe h_19 (.ptr (some (List.length h,0))) 2)∧(Zag h_21 (.ptr (some (i_1,o_2 + 4)))=Zag h_19 (.ptr (some (i_1,o_2 + 4))))∧Zcf (h_21 ++ [.cells Zab [.str s_15,.str s_18] false]) fun h_26=>(Zag h_26 (.ptr (some (i_1,o_2 + 4)))=Zag h_21 (.ptr (some (i_1,o_2 + 4))))∧Zci pg Zbo h_26 (.slice a_22 n_23 c_24 e_25) (.slice (some (List.length h_21,0)) 1 1 true) fun v_27 h_28=>xSl (some v_27) fun a_29 n_30 c_31 e_32=>(Zbe h_28 (.ptr (some (List.length h,0))) 2=Zbe h_26 (.ptr (some (List.length h,0))) 2)∧(Zag h_28 (.ptr (some (i_1,o_2 + 4)))=Zag h_26 (.ptr (some (i_1,o_2 + 4))))∧Zut Q a0 x2 (List.length h) h_28 a_29 n_30 c_31 e_32)∧(Zcf (h_19 ++ [.cells Zab [.str s_15,.str s_18] false]) fun h_121=>(Zag h_121 (.ptr (some (i_1,o_2 + 4)))=Zag h_19 (.ptr (some (i_1,o_2 + 4))))∧Zci pg Zbo h_121 (.slice (some (List.length h_0,0)) 0 0 true) (.slice a_8 n_9 c_10 e_11) fun v_122 h_123=>xSl (some v_122) fun a_124 n_125 c_126 e_127=>(Zbe h_123 (.ptr (some (List.length h,0))) 2=Zbe h_121 (.ptr (some (List.length h,0))) 2)∧(Zag h_123 (.ptr (some (i_1,o_2 + 4)))=Zag h_121 (.ptr (some (i_1,o_2 + 4))))∧Zci pg Zbo h_123 (.slice a_124 n_125 c_126 e_127) (.slice (some (List.length h_19,0)) 1 1 true) fun v_128 h_129=>xSl (some v_128) fun a_130 n_131 c_132 e_133=>(Zbe h_129 (.ptr (some (List.length h,0))) 2=Zbe h_123 (.ptr (some (List.length h,0))) 2)∧(Zag h_129 (.ptr (some (i_1,o_2 + 4)))=Zag h_123 (.ptr (some (i_1,o_2 + 4))))∧Zut Q a0 x2 (List.length h) h_129 a_130 n_131 c_132 e_133))∧(Zcf (h_0 ++ [.cells Zab [.str s_15,.str s_18] false]) fun h_222=>(Zag h_222 (.ptr (some (i_1,o_2 + 4)))=Zag h_0 (.ptr (some (i_1,o_2 + 4))))∧Zcf (h_222 ++ [.cells Zab [] false]) fun h_223=>(Zbe h_223 (.ptr (some (List.length h,0))) 2=Zbe h_222 (.ptr (some (List.length h,0))) 2)∧(Zag h_223 (.ptr (some (i_1,o_2 + 4)))=Zag h_222 (.ptr (some (i_1,o_2 + 4))))∧Zci pg Zbo h_223 (.slice (some (List.length h_222,0)) 0 0 true) (.slice a_8 n_9 c_10 e_11) fun v_224 h_225=>xSl (some v_224) fun a_226 n_227 c_228 e_229=>(Zbe h_225 (.ptr (some (List.length h,0))) 2=Zbe h_223 (.ptr (some (List.length h,0))) 2)∧(Zag h_225 (.ptr (some (i_1,o_2 + 4)))=Zag h_223 (.ptr (some (i_1,o_2 + 4))))∧Zci pg Zbo h_225 (.slice a_226 n_227 c_228 e_229) (.slice (some (List.length h_0,0)) 1 1 true) fun v_230 h_231=>xSl (some v_230) fun a_232 n_233 c_234 e_235=>(Zbe h_231 (.ptr (some (List.length h,0))) 2=Zbe h_225 (.ptr (some (List.length h,0))) 2)∧(Zag h_231 (.ptr (some (i_1,o_2 + 4)))=Zag h_225 (.ptr (some (i_1,o_2 + 4))))∧Zut Q a0 x2 (List.length h) h_231 a_232 n_233 c_234 e_235))):Zak pg Zgy [.ptr a0,.agg [.str x1x0,.str x1x1],.int .i64 x2] h Q:=
 Zeo.call a0 x1x0 x1x1 x2 h Q ht
end Go.Sim

set_option linter.unusedVariables false
set_option linter.unusedSimpArgs false
set_option maxRecDepth 20000
namespace Go.Sim
open Go Go.RowKit

theorem Yck {b:Nat} {h:Zaa} {a:Pt} {n c k:Nat} {e:Bool} {l:List Nd} {K:Zay→Prop} (r:Row b h a (n * 2) (Zdb eP l)) (hk:k≤n) (hc:n≤c) {z:Int} (hz:z=k)
  (hK:∀ a' c' e',Row b h a' (k * 2) (Zdb eP (l.take k))→k≤c'→(a'=none ∨ ∃ i o,a=some (i,o)∧a'=some (i,o))→K (.slice a' k c' e')):Zhw a n c e 2 none (some (.int .i64 z)) none K:=by
 subst hz
 have hl:l.length=n:=by have:=r.1; rw [Zat Zcr] at this; omega
 simp only [Zhw,Zlv]
 refine ⟨by omega,?_⟩
 split
 ·have h0:n=0:=by
   obtain ⟨h1,h2⟩:=r
   rcases h2 with h2 | ⟨i,o,t,all,ro,ha,_⟩
   ·omega
   ·cases ha
  have hk0:k=0:=by omega
  subst hk0
  exact ⟨⟨by trivial,by simp,.inl (by trivial)⟩,hK _ _ _ (by simpa using Row.nil) (by omega) (.inl rfl)⟩
 ·rename_i i o
  refine ⟨fun hlt=>?_,fun hlt=>?_⟩
  ·have e2:((k:Int) - 0).toNat=k:=by omega
   have e3:o + Int.toNat 0 * 2=o:=by simp
   have e4:((c:Int) - 0).toNat=c:=by omega
   rw [e2,e3,e4]
   exact hK _ _ _ (r.sl hk hl) (by omega) (.inr ⟨_,_,rfl,rfl⟩)
  ·have hk0:k=0:=by omega
   subst hk0
   exact hK _ _ _ (by simpa using Row.nil) (by omega) (.inl rfl)
structure Zxq (hb:Zaa) (i:Nat) (u v:Zay) (sp:Bool) (h:Zaa) (qa:Pt) (asked st:List Nd) (why:List Nat):Prop where
 same:Zbc hb.length hb h
 ge:hb.length≤i
 ob:∃ qn qc qe sa sn sc se,h[i]?=some (.cells Zdh [u,v,.bool sp,.slice qa qn qc qe,.slice sa sn sc se,.str why] false)∧Ybg hb.length h qa qn qc asked∧Row h.length h sa (sn * 2) (Zdb eP st)∧sn≤sc∧∀ j o,sn * 2≠0→sa=some (j,o)→j≠i∧∀ q,qa=some (q,0)→j≠q
 ne:∀ q,qa=some (q,0)→q≠i
section
variable {hb:Zaa} {i:Nat} {u v:Zay} {sp:Bool} {h:Zaa} {qa:Pt} {asked st:List Nd} {why:List Nat}
theorem Zxq.step {h':Zaa} (r:Zxq hb i u v sp h qa asked st why) (k:Zbc h.length h h'):Zxq hb i u v sp h' qa asked st why:=by
 obtain ⟨qn,qc,qe,sa,sn,sc,se,ho,hv,hr,hsc,hd⟩:=r.ob
 exact ⟨r.same.trans (k.mono r.same.le),r.ge,⟨qn,qc,qe,sa,sn,sc,se,k.get ho (Own.lt ho),hv.same k,hr.same' k,hsc,hd⟩,r.ne⟩
theorem Zxq.lt (r:Zxq hb i u v sp h qa asked st why):i < h.length:=by obtain ⟨_,_,_,_,_,_,_,ho,_⟩:=r.ob; exact Own.lt ho
theorem Zxq.low (r:Zxq hb i u v sp h qa asked st why):∀ q,qa=some (q,0)→hb.length≤q∧q < h.length:=by
 obtain ⟨qn,qc,qe,sa,sn,sc,se,ho,hv,_⟩:=r.ob
 exact fun q hq=>⟨hv.low q hq,hv.vec.lt' hq⟩
theorem Zxq.write {qa' sa:Pt} {qn qc sn sc:Nat} {qe se:Bool} {x:Zcb} {l st':List Nd} {why':List Nat} (sm:Zbc hb.length hb h) (ge:hb.length≤i) (ho:h[i]?=some x)
  (hv:Ybg hb.length h qa' qn qc l) (ne:∀ q,qa'=some (q,0)→q≠i) (hr:Row h.length h sa (sn * 2) (Zdb eP st')) (hsc:sn≤sc) (hd:∀ j o,sn * 2≠0→sa=some (j,o)→j≠i∧∀ q,qa'=some (q,0)→j≠q) :
  Zxq hb i u v sp (h.set i (.cells Zdh [u,v,.bool sp,.slice qa' qn qc qe,.slice sa sn sc se,.str why'] false)) qa' l st' why':=by
 refine ⟨⟨by simp; exact sm.le,fun j hj=>by rw [Zbw (by omega)]; exact sm.eq j hj⟩,ge,⟨qn,qc,qe,sa,sn,sc,se,Zce ho,⟨?_,hv.len,hv.low,hv.cap⟩,?_,hsc,hd⟩,ne⟩
 ·exact hv.vec.agree fun j hj=>Zbw (fun e=>ne j hj e.symm)
 ·exact (FrS.set (qa:=none)).row hr fun j o hn ha=>⟨(hd j o hn ha).1,fun q hq=>by cases hq⟩
theorem Zxq.reason (r:Zxq hb i u v sp h qa asked st why) (y:List Nat) {K:Zaa→Prop} (hK:∀ h',Zxq hb i u v sp h' qa asked st y→FrS i qa h h' qa→K h'):Zbt (Zbb h (.ptr (some (i,0 + 5))) [.str y]) K:=by
 obtain ⟨qn,qc,qe,sa,sn,sc,se,ho,hv,hr,hsc,hd⟩:=r.ob
 rw [Zbg ho (by simp)]
 simp only [Zas,putRow,Nat.zero_add,List.take_succ_cons,List.take_zero,List.length_cons,List.length_nil,List.drop_succ_cons,List.drop_zero,List.drop_nil,List.cons_append,List.nil_append,List.append_nil]
 exact hK _ (Zxq.write r.same r.ge ho hv r.ne hr hsc hd) FrS.set
def Ywt (hb:Zaa) (i:Nat) (u v:Zay) (sp:Bool) (d:Nat) (h:Zaa) (qa:Pt) (r:Fnd × List Nd) (x:Zay) (h':Zaa):Prop:=
 x=.str (Yxn r.1)∧∃ qa' st',Zxq hb i u v sp h' qa' r.2 st' (Yjh r.1)∧FrS i qa h h' qa'∧st'.length≤32∧(∀ s,r.1=.ok s→st'.length=d + 1)∧∀ y m,r.1=.no y m→y≠[]∧st'.getLast?=some m
end
theorem Yox {hb:Zaa} {a0 a1:Pt} {n0 c0 n1 c1:Nat} {e0 e1:Bool} {w:Wd} (r:Zkr hb a0 n0 c0 a1 n1 c1 w) (b:WB w) {sp:Bool} {h:Zaa} {i:Nat} {qa:Pt} {asked st:List Nd} {n:Nd}
  (rd:Zxq hb i (.slice a0 n0 c0 e0) (.slice a1 n1 c1 e1) sp h qa asked st []) (hw:Zcz w=true) (hnd:Zdq w n=true) :
  Zak pg Zfz [.ptr (some (i,0)),.agg [.str n.1,.str n.2]] h fun x h'=>x=.int .i64 (Zfa (wk w) sp n).1∧Zxq hb i (.slice a0 n0 c0 e0) (.slice a1 n1 c1 e1) sp h' qa asked st (if (Zfa (wk w) sp n).1 < 0 then (Zfa (wk w) sp n).2 else [])∧FrS i qa h h' qa∧((Zfa (wk w) sp n).1 < 0→(Zfa (wk w) sp n).2≠[])∧(¬ (Zfa (wk w) sp n).1 < 0→∃ k:Nat,(Zfa (wk w) sp n).1=k∧k < w.is.length):=by
 have hty:=Ydx hnd
 apply Zhx.call
 simp only [Zaw]
 generalize hh0:h ++ [Zcb.cells Zab [.str n.1,.str n.2] false]=h0
 have s0:Zbc h.length h h0:=by rw [← hh0]; exact Zal
 have p1:h0[h.length]?=some (.cells Zab [.str n.1,.str n.2] false):=by rw [← hh0]; simp
 have rd0:=rd.step s0
 obtain ⟨qn,qc,qe,sa,sn,sc,se,ho,hv,hr,hsc,hd⟩:=rd0.ob
 simp only [Zau,Zew ho (show 0 + 0 + 2≤_ by simp),Zaz p1,List.drop_zero,List.take_succ_cons,List.take_zero,Zao,Zae,Zam,Zaj,Zah,true_and]
 refine (Zvt (nd:=n) (r.same rd0.same) b (by omega)).mono ?_
 rintro v h4 ⟨s4,ca,cn,cc,ce,rfl,fc⟩
 have rd4:=rd0.step s4
 have F4:FrS i qa h h4 qa:=FrS.of_same (s0.cat s4)
 have o4:=s4.get ho (Own.lt ho)
 have q1:=s4.get p1 (Own.lt p1)
 have hcl:=fc.1
 have hcin:=Yfu w n
 have hpk:Zfa (wk w) sp n=match Zjl w n with | []=>(-1,Ykj) | [x]=>(x,[]) | l=>if sp && decide (0≤Zrc w l) then (Zrc w l,[]) else (-1,Zzj):=rfl
 simp only [Zaj,Zau]
 refine Zcw (fun hc0=>?_) (fun hc0=>?_)
 ·have hc:Zjl w n=[]:=List.eq_nil_of_length_eq_zero (by omega)
  have hpk:Zfa (wk w) sp n=(-1,Ykj):=by rw [hpk,hc]
  refine rd4.reason _ fun h5 rd5 F5=>?_
  rw [hpk]
  exact ⟨rfl,rd5,F4.trans F5,fun _=>by decide,fun h=>absurd (show (-1:Int) < 0 by omega) h⟩
 refine Zcw (fun hc1=>?_) (fun hc1=>?_)
 ·obtain ⟨ic,oc,hkc,rfl,_,hcell⟩:=Row.i64 (l:=Zjl w n) (by simpa using Zds.row Zre fc) (k:=0) (by omega)
  have hcell0:Zag h4 (.ptr (some (ic,oc + (Int.toNat 0) * 1)))=some (.int .i64 (Zjl w n)[0]):=hcell
  obtain ⟨k0,hk0,hk0l⟩:=hcin _ (List.getElem_mem hkc)
  have hpk:Zfa (wk w) sp n=((k0:Int),[]):=by
   rw [hpk,← hk0]
   match hc:Zjl w n,hkc with
   | [x],_=>rfl
   | [],hx=>simp at hx
   | x :: y :: l,_=>rw [hc] at hcl; simp at hcl; omega
  simp only [Zau,hcell0,Zax]
  rw [hpk,hk0]
  exact ⟨by omega,rfl,by simpa using rd4,F4,fun h=>absurd h (by simp),fun _=>⟨k0,rfl,hk0l⟩⟩
 have hpk:Zfa (wk w) sp n=if sp && decide (0≤Zrc w (Zjl w n)) then (Zrc w (Zjl w n),[]) else (-1,Zzj):=by
  rw [hpk]
  match hc:Zjl w n with
  | []=>rw [hc] at hcl; simp at hcl; omega
  | [x]=>rw [hc] at hcl; simp at hcl; omega
  | x :: y :: l=>rfl
 have many:∀ h5,Zxq hb i (.slice a0 n0 c0 e0) (.slice a1 n1 c1 e1) sp h5 qa asked st []→FrS i qa h h5 qa→Zfa (wk w) sp n=(-1,Zzj)→Zhx.J11 (fun x h'=>x=.int .i64 (Zfa (wk w) sp n).1∧Zxq hb i (.slice a0 n0 c0 e0) (.slice a1 n1 c1 e1) sp h' qa asked st (if (Zfa (wk w) sp n).1 < 0 then (Zfa (wk w) sp n).2 else [])∧FrS i qa h h' qa∧((Zfa (wk w) sp n).1 < 0→(Zfa (wk w) sp n).2≠[])∧(¬ (Zfa (wk w) sp n).1 < 0→∃ k:Nat,(Zfa (wk w) sp n).1=k∧k < w.is.length)) (some (i,0)) h5:=by
  intro h5 rd5 F5 hpk
  apply Zhx.J11i
  simp only [Zau]
  refine rd5.reason _ fun h6 rd6 F6=>?_
  rw [hpk]
  exact ⟨rfl,rd6,F5.trans F6,fun _=>by decide,fun h=>absurd (show (-1:Int) < 0 by omega) h⟩
 simp only [Zan o4,Nat.zero_add,List.getElem?_cons_succ,List.getElem?_cons_zero,Zaq]
 refine Zdj (fun hsp=>?_) (fun hsp=>?_)
 ·simp only [Zew o4 (show 0 + 2≤_ by simp),Zaz q1,List.drop_zero,List.take_succ_cons,List.take_zero,Zao,Zae,Zam,Zaj,Zah,true_and]
  refine (Ybh (nd:=n) (r.same rd4.same) b (by omega)).mono ?_
  rintro v h5 ⟨rfl,s5⟩
  have hm:Yor w n=Zrc w (Zjl w n):=by unfold Yor Zyb; rw [hw,hnd]; rfl
  rw [hm]
  simp only [Zax]
  refine Zar (fun hge=>?_) (fun hlt=>?_)
  ·have hpk:Zfa (wk w) sp n=(Zrc w (Zjl w n),[]):=by rw [hpk,hsp,if_pos (by simp; omega)]
   rw [hpk]
   refine ⟨rfl,?_,F4.trans (FrS.of_same s5),fun h=>absurd h (by simp only; omega),fun _=>?_⟩
   ·simp only
    rw [if_neg (by omega)]; exact rd4.step s5
   ·simp only
    unfold Zrc at hge ⊢
    cases hfi:(Zjl w n).find? (Yho w (Zjl w n)) with
    | none=>rw [hfi] at hge; simp at hge
    | some x=>exact hcin x (List.mem_of_find?_eq_some hfi)
  ·exact many h5 (rd4.step s5) (F4.trans (FrS.of_same s5)) (by rw [hpk,hsp,if_neg (by simp; omega)])
 ·exact many h4 rd4 F4 (by rw [hpk,hsp]; rfl)
end Go.Sim

set_option linter.unusedVariables false
set_option linter.unusedSimpArgs false
set_option maxRecDepth 20000
namespace Go.Sim
open Go Go.RowKit

def Yua (f:Nat) (hb:Zaa) (a0 a1:Pt) (n0 c0 n1 c1:Nat) (e0 e1:Bool) (w:Wd) (sp:Bool):Prop:=∀ {h:Zaa} {i:Nat} {qa:Pt} {asked st:List Nd} {n:Nd} {d:Nat},Zxq hb i (.slice a0 n0 c0 e0) (.slice a1 n1 c1 e1) sp h qa asked st []→asked.length≤300→Zdq w n=true→d + f=31→d≤st.length →
   Zak pg Zgy [.ptr (some (i,0)),.agg [.str n.1,.str n.2],.int .i64 (d:Int)] h (Ywt hb i (.slice a0 n0 c0 e0) (.slice a1 n1 c1 e1) sp d h qa (Zli (wk w) sp Zqx f asked n))
theorem Ywt.of {hb:Zaa} {i:Nat} {u v:Zay} {sp:Bool} {d:Nat} {h h0:Zaa} {qa qa0:Pt} {r:Fnd × List Nd} {x:Zay} {h':Zaa} (F:FrS i qa0 h0 h qa) (q:Ywt hb i u v sp d h qa r x h'):Ywt hb i u v sp d h0 qa0 r x h':=by
 obtain ⟨e,qa',st',a,f,z⟩:=q
 exact ⟨e,qa',st',a,F.trans f,z⟩
theorem Yum {g:Nat} (h:g < 3):sub [40,44,44] (g:Int) ((g + 1:Nat):Int)=[Yfj g]:=by
 match g,h with
 | 0,_=>rfl
 | 1,_=>rfl
 | 2,_=>rfl
theorem Ysv {hb:Zaa} {a0 a1:Pt} {n0 c0 n1 c1:Nat} {e0 e1:Bool} {w:Wd} (r:Zkr hb a0 n0 c0 a1 n1 c1 w) (b:WB w) (hw:Zcz w=true) (sp:Bool) (f:Nat)
  (ih:∀ f',f=f' + 1→Yua f' hb a0 a1 n0 c0 n1 c1 e0 e1 w sp) {h hX:Zaa} {i p1:Nat} {qa:Pt} {asked st st':List Nd} {n:Nd} {d qs cs:Nat} {es:Bool} (rd:Zxq hb i (.slice a0 n0 c0 e0) (.slice a1 n1 c1 e1) sp hX qa asked st []) (FX:FrS i qa h hX qa)
  (hal:asked.length≤300) (hnd:Zdq w n=true) (hf:d + f=31) (hstl:st'.length=d + 1) (hlast:st'.getLast?=some n) (hrow:Row hX.length hX (some (qs,0)) ((d + 1) * 2) (Zdb eP st')) (hqi:qs≠i) (hqq:∀ q,qa=some (q,0)→qs≠q) (hcs:d + 1≤cs)
  (hp1:hX[p1]?=some (.cells Zab [.str n.1,.str n.2] false)) (hpi:p1≠i) (hpq:∀ q,qa=some (q,0)→p1≠q) :
  Zut (Ywt hb i (.slice a0 n0 c0 e0) (.slice a1 n1 c1 e1) sp d h qa (Zli (wk w) sp Zqx f asked n)) (some (i,0)) (d:Int) p1 hX (some (qs,0)) (d + 1) cs es:=by
 unfold Zut
 have hty:=Ydx hnd
 have hl10:=Yag hw
 have hl1:=r.len1
 obtain ⟨qn,qc,qe,sa,sn,sc,se,ho,hv,hr,hsc,hdj⟩:=rd.ob
 have hlow:=rd.low
 have hil:=rd.lt
 have hnv:=hv.len
 simp only [Zau]
 rw [Zbg ho (by simp)]
 simp only [Zas,putRow,Nat.zero_add,List.take_succ_cons,List.take_zero,List.length_cons,List.length_nil,List.drop_succ_cons,List.drop_zero,List.drop_nil,List.cons_append,List.nil_append,List.append_nil]
 have rd1:Zxq hb i (.slice a0 n0 c0 e0) (.slice a1 n1 c1 e1) sp (hX.set i (.cells Zdh [.slice a0 n0 c0 e0,.slice a1 n1 c1 e1,.bool sp,.slice qa qn qc qe,.slice (some (qs,0)) (d + 1) cs es,.str []] false)) qa asked st' []:=
  Zxq.write rd.same rd.ge ho hv rd.ne hrow hcs fun j o hn ha=>by cases ha; exact ⟨hqi,hqq⟩
 have F1:FrS i qa h (hX.set i (.cells Zdh [.slice a0 n0 c0 e0,.slice a1 n1 c1 e1,.bool sp,.slice qa qn qc qe,.slice (some (qs,0)) (d + 1) cs es,.str []] false)) qa:=FX.trans FrS.set
 have o1:(hX.set i (.cells Zdh [.slice a0 n0 c0 e0,.slice a1 n1 c1 e1,.bool sp,.slice qa qn qc qe,.slice (some (qs,0)) (d + 1) cs es,.str []] false))[i]?=_:=Zce ho
 have p1':(hX.set i (.cells Zdh [.slice a0 n0 c0 e0,.slice a1 n1 c1 e1,.bool sp,.slice qa qn qc qe,.slice (some (qs,0)) (d + 1) cs es,.str []] false))[p1]?=some (.cells Zab [.str n.1,.str n.2] false):=by rw [Zbw hpi.symm]; exact hp1
 generalize hX.set i (.cells Zdh [.slice a0 n0 c0 e0,.slice a1 n1 c1 e1,.bool sp,.slice qa qn qc qe,.slice (some (qs,0)) (d + 1) cs es,.str []] false)=h1 at rd1 F1 o1 p1' ⊢
 -- an end
 have bad:∀ (y:List Nat) (h':Zaa) (qa':Pt) (asked':List Nd),y≠[]→Zxq hb i (.slice a0 n0 c0 e0) (.slice a1 n1 c1 e1) sp h' qa' asked' st' []→FrS i qa h h' qa'→Zli (wk w) sp Zqx f asked n=(.no y n,asked') →
   Zbt (Zbb h' (.ptr (some (i,0 + 5))) [.str y]) fun h''=>Ywt hb i (.slice a0 n0 c0 e0) (.slice a1 n1 c1 e1) sp d h qa (Zli (wk w) sp Zqx f asked n) (.str []) h'':=by
  intro y h' qa' asked' hy rd' F' he
  refine rd'.reason y fun h'' rd'' F''=>?_
  rw [he]
  exact ⟨rfl,qa',st',rd'',F'.trans F'',by omega,fun s hs=>(by cases hs),fun y' m hm=>by cases hm; exact ⟨hy,hlast⟩⟩
 simp only [Zan o1,List.getElem?_cons_succ,List.getElem?_cons_zero,Zaj]
 refine Zar (fun h300=>bad Yfr h1 qa asked (by decide) rd1 F1 (Zpd (by omega))) (fun h300=>?_)
 have h300':¬ 300≤asked.length:=by omega
 have hv1:Ybg hb.length h1 qa qn qc asked:=by
  obtain ⟨qn',qc',qe',sa',sn',sc',se',ho',hv',_⟩:=rd1.ob
  rw [o1] at ho'
  simp only [Option.some.injEq,Zcb.cells.injEq,List.cons.injEq,Zay.slice.injEq,true_and,and_true] at ho'
  obtain ⟨⟨rfl,rfl,rfl⟩,_⟩:=ho'
  exact hv'
 have hrow1:Row h1.length h1 (some (qs,0)) ((d + 1) * 2) (Zdb eP st'):=by
  obtain ⟨qn',qc',qe',sa',sn',sc',se',ho',_,hr',_⟩:=rd1.ob
  rw [o1] at ho'
  simp only [Option.some.injEq,Zcb.cells.injEq,List.cons.injEq,Zay.slice.injEq,true_and,and_true] at ho'
  obtain ⟨_,rfl,rfl,rfl,rfl⟩:=ho'
  exact hr'
 have hlow1:=rd1.low
 have hil1:=rd1.lt
 have s2:Zbc h1.length h1 (h1 ++ [Zcb.cells Zab [.str n.1,.str n.2] false]):=Zal
 simp only [Zaz p1',Zao,Zae,Zam,Zah,Zaw,true_and]
 refine ⟨by rw [Zan (s2.get o1 (Own.lt o1))]; rfl,?_⟩
 refine hv1.vec.pushN Zhi Zng Zni Znh (by rw [Zat Zcr,hv1.len]) rfl (by omega) rfl (by omega) (fun h3 hl3 hi3 hk3=>?_)
 have o3:h3[i]?=some (.cells Zdh [.slice a0 n0 c0 e0,.slice a1 n1 c1 e1,.bool sp,.slice qa qn qc qe,.slice (some (qs,0)) (d + 1) cs es,.str []] false):=by rw [hk3 i (Own.lt o1) fun q hq=>(rd1.ne q hq).symm]; exact o1
 have p3:h3[p1]?=some (.cells Zab [.str n.1,.str n.2] false):=by rw [hk3 p1 (Own.lt p1') hpq]; exact p1'
 have hqsl:qs < h1.length:=by
  rcases hrow1.2 with h0 | ⟨j,o,t,all,ro,ha,hj,_⟩
  ·omega
  ·cases ha; exact hj
 simp only [Zaj]
 rw [Zbg o3 (by simp)]
 simp only [Zas,putRow,List.take_succ_cons,List.take_zero,List.length_cons,List.length_nil,List.drop_succ_cons,List.drop_zero,List.drop_nil,List.cons_append,List.nil_append,List.append_nil]
 have F3:FrS i qa h1 h3 (some (h1.length + 1,0)):=⟨by omega,fun j hj hne hq=>hk3 j hj hq,.inr fun q hq=>by cases hq; omega⟩
 have rowl:Row h3.length h3 (some (qs,0)) ((d + 1) * 2) (Zdb eP st'):=F3.row hrow1 fun j o hn ha=>by cases ha; exact ⟨hqi,hqq⟩
 have rd4:Zxq hb i (.slice a0 n0 c0 e0) (.slice a1 n1 c1 e1) sp (h3.set i (.cells Zdh [.slice a0 n0 c0 e0,.slice a1 n1 c1 e1,.bool sp,.slice (some (h1.length + 1,0)) (qn + 1) (qn + 1) false,.slice (some (qs,0)) (d + 1) cs es,.str []] false)) (some (h1.length + 1,0)) (asked ++ [n]) st' []:=by
  have hle:=rd1.same.le
  refine Zxq.write ⟨by omega,fun j hj=>?_⟩ rd.ge o3 ⟨Vec.mk1 ?_,by rw [List.length_append,hnv]; rfl,fun q hq=>by cases hq; omega,Nat.le_refl _⟩ (fun q hq=>by cases hq; omega) rowl hcs (fun j o hn ha=>by cases ha; exact ⟨hqi,fun q hq=>by cases hq; omega⟩)
  ·rw [hk3 j (by omega) fun q hq=>by have:=(hlow1 q hq).1; omega]; exact rd1.same.eq j hj
  ·rw [hi3,Zgw]; rfl
 have F4:FrS i qa h (h3.set i (.cells Zdh [.slice a0 n0 c0 e0,.slice a1 n1 c1 e1,.bool sp,.slice (some (h1.length + 1,0)) (qn + 1) (qn + 1) false,.slice (some (qs,0)) (d + 1) cs es,.str []] false)) (some (h1.length + 1,0)):=(F1.trans F3).trans FrS.set
 have p4:(h3.set i (.cells Zdh [.slice a0 n0 c0 e0,.slice a1 n1 c1 e1,.bool sp,.slice (some (h1.length + 1,0)) (qn + 1) (qn + 1) false,.slice (some (qs,0)) (d + 1) cs es,.str []] false))[p1]?=some (.cells Zab [.str n.1,.str n.2] false):=by rw [Zbw hpi.symm]; exact p3
 have hp1l:=Own.lt p1'
 generalize h3.set i (.cells Zdh [.slice a0 n0 c0 e0,.slice a1 n1 c1 e1,.bool sp,.slice (some (h1.length + 1,0)) (qn + 1) (qn + 1) false,.slice (some (qs,0)) (d + 1) cs es,.str []] false)=h4 at rd4 F4 p4 ⊢
 refine Zar (fun hd=>?_) (fun hd=>?_)
 ·have:f=0:=by omega
  subst this
  exact bad Yto h4 _ _ (by decide) rd4 F4 (Zpc h300')
 obtain ⟨f',rfl⟩:∃ f',f=f' + 1:=⟨f - 1,by omega⟩
 have ih:=@ih f' rfl
 simp only [Zaz p4,Zao,Zae,Zam,Zah]
 refine (Yox r b rd4 hw hnd).mono ?_
 rintro v h5 ⟨rfl,rd5,F5,hneg,hpos⟩
 have F5':=F4.trans F5
 simp only [Zax]
 refine Zar (fun hlt=>?_) (fun hge=>?_)
 ·rw [if_pos hlt] at rd5
  rw [Zmf h300' hlt]
  exact ⟨rfl,_,st',rd5,F5',by omega,fun s hs=>(by cases hs),fun y m hm=>by cases hm; exact ⟨hneg hlt,hlast⟩⟩
 rw [if_neg hge] at rd5
 obtain ⟨k,hk,hkl⟩:=hpos hge
 have hqa4:∀ q,some (h1.length + 1,0)=some (q,0)→p1≠q:=fun q hq=>by cases hq; omega
 have p5:=F5.get p4 hpi hqa4
 obtain ⟨qn5,qc5,qe5,sa5,sn5,sc5,se5,o5,v5,r5,hsc5,hd5⟩:=rd5.ob
 obtain ⟨ii,oi,hki,na,nn,ncp,ne,rfl,_,hri,_,_,_,hrw,hnl⟩:=(r.same rd5.same).inst (k:=k) (by omega)
 have hbk:=b.is _ (List.getElem_mem hkl)
 rw [hk]
 simp only [Zan p5,Zan o5,Nat.zero_add,List.getElem?_cons_succ,List.getElem?_cons_zero,Zer,Zau,Zaj,Int.toNat_natCast,hri,Zao,Zae,Zam,Zah,true_and]
 refine ⟨by omega,?_⟩
 refine (Yqz (i:=w.is[k]) (t:=n.2) hrw (by omega) (by omega) (by omega) (fun p hp=>(hbk.2.2.2 p hp).2)).mono ?_
 rintro v h6 ⟨s6,ma,mn,mc,me,rfl,fm⟩
 have rd6:=rd5.step s6
 have F6:=F5'.trans (FrS.of_same s6)
 have p6:=s6.get p5 (Own.lt p5)
 have o6:=s6.get o5 (Own.lt o5)
 have hneeds:(wk w).needs (k:Int) n.2=Zjg w.is[k] n.2:=by show Zjg (Zpe w (k:Int)) n.2=_; rw [Zxh hkl]
 simp only [Zco,Zae,Zaj,Zaq,Zam,Zan o6,List.getElem?_cons_succ,List.getElem?_cons_zero,true_and]
 refine Zbs (fun hok=>?_) (fun hok=>?_)
 ·refine bad Yzg h6 _ _ (by decide) rd6 F6 (Zse h300' hge ?_)
  rw [hk,hneeds]
  cases hh:Zjg w.is[k] n.2 with
  | none=>rfl
  | some _=>rw [hh] at hok; cases hok
 obtain ⟨ms,hms⟩:=Option.isSome_iff_exists.1 hok
 have hms3:=Yco hw hkl hms
 rw [hms] at fm
 simp only [Option.getD_some] at fm
 have hmn:=fm.1
 have hask:=Zvg (k:=wk w) (sp:=sp) (dec:=Zqx) (f:=f') (n:=n) (asked:=asked) h300' hge (by rw [hk,hneeds]; exact hms)
 rw [hk] at hask
 have hask:Zli (wk w) sp Zqx (f' + 1) asked n=Zwx ms (Zhj w sp f' k asked n ms ms.length).1:=by rw [hask]; unfold Zhj; rw [List.take_length]
 refine (Yqt (by omega) (by omega)).mono ?_
 rintro v h7 ⟨rfl,s7⟩
 have rd7:=rd6.step s7
 have F7:=F6.trans (FrS.of_same s7)
 have p7:=s7.get p6 (Own.lt p6)
 have fm7:=fm.same s7
 have l7:=s7.le
 have hlow7:=rd7.low
 have hil7:=rd7.lt
 rw [Yhi (by omega),Int.toNat_natCast,Ysi (by omega)]
 simp only [Zah]
 have hlow6:=rd5.low
 have hil6:=rd5.lt
 refine Zeo.L18ind _ _ _ _ _ _ _ _ _ _ _ _ (J:=fun (g:Nat) x10 x8 h'=>x8=(g:Int)∧g≤mn∧(Zhj w sp f' k asked n ms g).1.1=.ok x10∧∃ qa' st2,Zxq hb i (.slice a0 n0 c0 e0) (.slice (some (ii,oi)) n1 c1 e1) sp h' qa' (Zhj w sp f' k asked n ms g).1.2 st2 []∧d + 1≤st2.length∧st2.length≤32∧FrS i (some (h1.length + 1,0)) h7 h' qa') (fun g=>mn - g) ?_ 0 _ _ _ ⟨rfl,by omega,rfl,_,st',rd7,by omega,by omega,FrS.refl _ _ _⟩
 rintro g x15 x8 h' ⟨rfl,hg,hout,qa',st2,rdg,hst2,hst32,Fg⟩ R hR
 obtain ⟨hb1,hb2⟩:=Zqn (w:=w) (sp:=sp) (f:=f') (k:=k) (n:=n) (ms:=ms) h300' g
 have hb2:=hb2 _ hout
 have hidx:=Yeh (by omega) hout
 unfold Zeo.L18t
 refine Zar (fun hlt=>?_) (fun hge=>?_)
 ·have fmg:Row h'.length h' ma (mn * 2) (Zdb eP ms):=Fg.row (fm7.row Zcr) fun j o hn ha=>by
   obtain ⟨_,h0 | ⟨j',hj',hb',hjj⟩⟩:=fm7
   ·omega
   ·rw [ha] at hj'
    cases hj'
    exact ⟨by omega,fun q hq=>by have:=(hlow6 q hq).2; omega⟩
  obtain ⟨im,om,hgl,rfl,_,hrm,_⟩:=fmg.pr (k:=g) (by omega)
  simp only [Zau,Int.toNat_natCast,hrm,Zao,Zae,Zam,Zah,Zaw]
  rw [Zfb]
  generalize hh8:h' ++ [Zcb.cells Zab [.str ms[g].1,.str ms[g].2] false]=h8
  have s8:Zbc h'.length h' h8:=by rw [← hh8]; exact Zal
  have o8:h8[h'.length]?=some (.cells Zab [.str ms[g].1,.str ms[g].2] false):=by rw [← hh8]; simp
  simp only [Zas,Zaz o8,Zao,Zae,Zam,Zah]
  refine ⟨by omega,?_⟩
  rw [Zbm (by omega)]
  refine (ih (n:=ms[g]) (rdg.step s8) hb1 (hms3.2 _ (List.getElem_mem hgl)) (by omega) hst2).mono ?_
  rintro v h9 ⟨rfl,qa9,st9,rd9,F9,h932,hok9,hno⟩
  have F9':=(Fg.trans (FrS.of_same s8)).trans F9
  have hsucc:=Ybn (w:=w) (sp:=sp) (f:=f') (k:=k) (asked:=asked) (n:=n) (ms:=ms) hgl
  have hPg:Zhj w sp f' k asked n ms g=((.ok x15,(Zhj w sp f' k asked n ms g).1.2),g):=Prod.ext (Prod.ext hout rfl) hidx
  rw [hPg] at hsucc
  unfold Zgf at hsucc
  simp only at hsucc
  obtain ⟨qn9,qc9,qe9,sa9,sn9,sc9,se9,o9,_⟩:=rd9.ob
  simp only [Zah,Zau,Zan o9,Nat.zero_add,List.getElem?_cons_succ,List.getElem?_cons_zero]
  rcases hr:Zli (wk w) sp Zqx f' (Zhj w sp f' k asked n ms g).1.2 ms[g] with ⟨x,a'⟩
  rw [hr] at hsucc rd9 hno hok9
  cases x with
  | no y m=>
   obtain ⟨hy,hl9⟩:=hno y m rfl
   simp only at hsucc
   have hall:=Yat hsucc
   refine Zbs (fun hd=>?_) (fun hd=>absurd (of_decide_eq_true hd) hy)
   rw [hask,hall]
   exact ⟨rfl,qa9,st9,rd9,F7.trans F9',h932,fun s hs=>(by cases hs),fun y' m' hm=>by cases hm; exact ⟨hy,hl9⟩⟩
  | ok dd=>
   refine Zbs (fun hd=>absurd rfl (of_decide_eq_false hd)) (fun hd=>?_)
   simp only at hsucc
   obtain ⟨hc1,hc2⟩:=Zqn (w:=w) (sp:=sp) (f:=f') (k:=k) (n:=n) (ms:=ms) h300' (g + 1)
   have hc2:=hc2 _ (by rw [hsucc])
   simp only [List.length_append,List.length_cons] at hc2
   have hl9:=hok9 dd rfl
   rw [Zbm (by omega),Yum (by omega)]
   refine ⟨⟨by omega,by omega,by simp; omega⟩,by simp; omega,by simp [Yxn]; omega,?_⟩
   refine hR (g + 1) _ _ _ (by omega) ⟨rfl,by omega,by rw [hsucc]; simp [Yxn],qa9,st9,by rw [hsucc]; exact rd9,by omega,h932,F9'⟩
 ·apply Zeo.A18x0i
  have:g=mn:=by omega
  subst this
  have hend:Zhj w sp f' k asked n ms ms.length=((.ok x15,(Zhj w sp f' k asked n ms g).1.2),g):=by rw [hmn]; exact Prod.ext (Prod.ext hout rfl) hidx
  have he:Zli (wk w) sp Zqx (f' + 1) asked n=(.ok (if ms=[] then x15 else x15 ++ [41]),(Zhj w sp f' k asked n ms g).1.2):=by rw [hask,hend]; rfl
  have fin:∀ t,t=(if ms=[] then x15 else x15 ++ [41])→Zeo.J27 (Ywt hb i (.slice a0 n0 c0 e0) (.slice (some (ii,oi)) n1 c1 e1) sp d h qa (Zli (wk w) sp Zqx (f' + 1) asked n)) (some (i,0)) (d:Int) t h':=by
   rintro t rfl
   apply Zeo.J27i
   obtain ⟨qn9,qc9,qe9,sa9,sn9,sc9,se9,o9,v9,r9,hsc9,hd9⟩:=rdg.ob
   have hsl9:st2.length=sn9:=by have:=r9.1; rw [Zat Zcr] at this; omega
   simp only [Zau,Zan o9,Nat.zero_add,List.getElem?_cons_succ,List.getElem?_cons_zero,Zaj]
   rw [Zbm (by omega)]
   refine Yck r9 (k:=d + 1) (by omega) hsc9 rfl fun a' c' e' hr' hc' hp'=>?_
   simp only [Zaj]
   rw [Zbg o9 (by simp)]
   simp only [Zas,putRow,List.take_succ_cons,List.take_zero,List.length_cons,List.length_nil,List.drop_succ_cons,List.drop_zero,List.drop_nil,List.cons_append,List.nil_append,List.append_nil]
   rw [he]
   refine ⟨rfl,qa',st2.take (d + 1),Zxq.write rdg.same rdg.ge o9 v9 rdg.ne hr' hc' ?_,(F7.trans Fg).trans FrS.set,by rw [List.length_take]; omega,fun s hs=>by rw [List.length_take]; omega,fun y m hm=>by cases hm⟩
   intro j o hn ha
   rcases hp' with rfl | ⟨i',o',e1,e2⟩
   ·cases ha
   ·rw [e2] at ha; cases ha
    exact hd9 _ _ (by omega) e1
  refine Zar (fun hpos=>⟨by simp; omega,?_⟩) (fun hpos=>?_)
  ·exact fin _ (by rw [if_neg (fun hm=>by rw [hm] at hmn; simp at hmn; omega)])
  ·exact fin _ (by rw [if_pos (List.eq_nil_of_length_eq_zero (by omega))])
end Go.Sim

set_option linter.unusedVariables false
set_option linter.unusedSimpArgs false
set_option maxRecDepth 20000
namespace Go.Sim
open Go Go.RowKit

theorem Ygc {hb:Zaa} {a0 a1:Pt} {n0 c0 n1 c1:Nat} {e0 e1:Bool} {w:Wd} (r:Zkr hb a0 n0 c0 a1 n1 c1 w) (b:WB w) (hw:Zcz w=true) (sp:Bool) (f:Nat)
  (ih:∀ f',f=f' + 1→Yua f' hb a0 a1 n0 c0 n1 c1 e0 e1 w sp):Yua f hb a0 a1 n0 c0 n1 c1 e0 e1 w sp:=by
 intro h i qa asked st n d rd hal hnd hf hd
 apply Yfo
 simp only [Zaw]
 generalize hh0:h ++ [Zcb.cells Zab [.str n.1,.str n.2] false]=h0
 have s0:Zbc h.length h h0:=by rw [← hh0]; exact Zal
 have p1:h0[h.length]?=some (.cells Zab [.str n.1,.str n.2] false):=by rw [← hh0]; simp
 have l0:h0.length=h.length + 1:=by rw [← hh0]; simp
 have rd0:=rd.step s0
 have hil:=rd.lt
 have hlow:=rd.low
 obtain ⟨qn,qc,qe,sa,sn,sc,se,ho,hv,hr,hsc,hdj⟩:=rd0.ob
 have hsn:st.length=sn:=by have:=hr.1; rw [Zat Zcr] at this; omega
 simp only [Zau,Zan ho,Nat.zero_add,List.getElem?_cons_succ,List.getElem?_cons_zero,Zaj]
 refine Yck hr (k:=d) (by omega) hsc rfl fun a' c' e' hr' hc' _=>?_
 have htl:(st.take d).length=d:=by rw [List.length_take]; omega
 generalize st.take d=tk at hr' htl
 have fin:∀ (hX:Zaa) (qs cs:Nat) (es:Bool),Zbc h0.length h0 hX→hX[qs]?=some (.cells Zab (Zdb eP tk ++ [.str n.1,.str n.2]) false)→h0.length≤qs→d + 1≤cs →
   Zut (Ywt hb i (.slice a0 n0 c0 e0) (.slice a1 n1 c1 e1) sp d h qa (Zli (wk w) sp Zqx f asked n)) (some (i,0)) (d:Int) h.length hX (some (qs,0)) (d + 1) cs es:=by
  intro hX qs cs es sX hqs hle hcs
  have hrow:Row hX.length hX (some (qs,0)) ((d + 1) * 2) (Zdb eP (tk ++ [n])):=
   ⟨by rw [Zat Zcr]; simp [htl],.inr ⟨_,_,_,_,_,rfl,Own.lt hqs,hqs,by simp [Zat Zcr,htl]; omega,by
    rw [List.drop_zero,List.take_of_length_le (by simp [Zat Zcr,htl]; omega)]; simp [Zdb,eP]⟩⟩
  exact Ysv r b hw sp f ih (rd0.step sX) (FrS.of_same (s0.cat sX)) hal hnd hf (by simp [htl]) (by simp) hrow (by omega) (fun q hq=>by have:=(hlow q hq).2; omega) hcs
   (sX.get p1 (Own.lt p1)) (by omega) (fun q hq=>by have:=(hlow q hq).2; omega)
 have hnn:(Zdb eP [n]).all Zay.leaf=true:=Zjw (enc:=eP) (fun _=>rfl) _
 simp only [Zaj,Zaz p1,Zao,Zae,Zam,Zah]
 refine ⟨⟨?_,?_,?_,?_⟩,?_⟩
 ·rw [Zaz (Zal.get p1 (Own.lt p1))]
 ·rw [Zan (Zal.get ho (Own.lt ho))]; rfl
 ·generalize hh1:h0 ++ [Zcb.cells Zab [] false]=h1
  have s1:Zbc h0.length h0 h1:=by rw [← hh1]; exact Zal
  have o1:h1[h0.length]?=some (.cells Zab [] false):=by rw [← hh1]; simp
  have l1:h1.length=h0.length + 1:=by rw [← hh1]; simp
  refine Vec.app0 (n:=0) o1 Zhi Zng Zni Znh (by simp) (hr'.same' s1).rowOf (Zjw (enc:=eP) (fun _=>rfl) _) (by omega) (fun h2 hl2 hi2 hk2=>?_)
  have S2:Zbc h0.length h0 h2:=⟨by omega,fun j hj=>by rw [hk2 j (by omega) (by omega)]; exact s1.eq j hj⟩
  have q2:=S2.get p1 (Own.lt p1)
  have z2:=S2.get ho (Own.lt ho)
  have s3:Zbc h2.length h2 (h2 ++ [Zcb.cells Zab [.str n.1,.str n.2] false]):=Zal
  have q3:=s3.get q2 (Own.lt q2)
  have z3:=s3.get z2 (Own.lt z2)
  simp only [Zaj,Nat.zero_add]
  refine ⟨by rw [Zaz q2,Zaz (s1.get p1 (Own.lt p1))],by rw [Zan z2,Zan (s1.get ho (Own.lt ho))],by rw [Zan z3,Zan z2],?_⟩
  have hV:Vec Zab h2 (some (h1.length,0)) d d (Zdb eP tk):=Vec.mk1 (by simpa using hi2)
  refine hV.pushN Zhi Zng Zni Znh (by rw [Zat Zcr,htl]) rfl (by omega) rfl (by omega) (fun h6 hl6 hi6 hk6=>?_)
  have S6:Zbc h0.length h0 h6:=⟨by omega,fun j hj=>by rw [hk6 j (by omega) fun q hq=>by cases hq; omega]; exact S2.eq j hj⟩
  simp only [Zaj]
  refine ⟨by rw [Zaz (S6.get p1 (Own.lt p1)),Zaz q3],by rw [Zan (S6.get ho (Own.lt ho)),Zan z3],?_⟩
  exact fin h6 _ _ _ S6 hi6 (by omega) (by omega)
 ·generalize hh1:h0 ++ [Zcb.cells Zab [] false]=h1
  have s1:Zbc h0.length h0 h1:=by rw [← hh1]; exact Zal
  have o1:h1[h0.length]?=some (.cells Zab [] false):=by rw [← hh1]; simp
  have l1:h1.length=h0.length + 1:=by rw [← hh1]; simp
  generalize hh2:h1 ++ [Zcb.cells Zab [.str n.1,.str n.2] false]=h2
  have s2:Zbc h1.length h1 h2:=by rw [← hh2]; exact Zal
  have b2:h2[h1.length]?=some (.cells Zab [.str n.1,.str n.2] false):=by rw [← hh2]; simp
  have l2:h2.length=h1.length + 1:=by rw [← hh2]; simp
  have S2:=s1.cat s2
  have o2:=s2.get o1 (Own.lt o1)
  have q2:=S2.get p1 (Own.lt p1)
  have z2:=S2.get ho (Own.lt ho)
  refine ⟨by rw [Zan z2,Zan (s1.get ho (Own.lt ho))],?_⟩
  refine Vec.app0 (n:=0) o2 Zhi Zng Zni Znh (by simp) (hr'.same' S2).rowOf (Zjw (enc:=eP) (fun _=>rfl) _) (by omega) (fun h3 hl3 hi3 hk3=>?_)
  have S3:Zbc h0.length h0 h3:=⟨by omega,fun j hj=>by rw [hk3 j (by omega) (by omega)]; exact S2.eq j hj⟩
  have q3:=S3.get p1 (Own.lt p1)
  have z3:=S3.get ho (Own.lt ho)
  have b3:h3[h1.length]?=some (.cells Zab [.str n.1,.str n.2] false):=by rw [hk3 _ (Own.lt b2) (by omega)]; exact b2
  simp only [Zaj,Nat.zero_add]
  refine ⟨by rw [Zaz q3,Zaz q2],by rw [Zan z3,Zan z2],?_⟩
  have hr3:Row h3.length h3 (some (h1.length,0)) (1 * 2) (Zdb eP [n]):=⟨rfl,.inr ⟨h1.length,0,_,_,_,rfl,Own.lt b3,b3,by simp,by simp [eP]⟩⟩
  have hi3:h3[h2.length]?=some (.cells Zab (Zdb eP tk) false):=by simpa using hi3
  refine Vec.app0 (n:=d) hi3 Zhi Zng Zni Znh (by rw [Zat Zcr,htl]) hr3.rowOf hnn (by omega) (fun h6 hl6 hi6 hk6=>?_)
  have S6:Zbc h0.length h0 h6:=⟨by omega,fun j hj=>by rw [hk6 j (by omega) (by omega)]; exact S3.eq j hj⟩
  simp only [Zaj]
  refine ⟨by rw [Zaz (S6.get p1 (Own.lt p1)),Zaz q3],by rw [Zan (S6.get ho (Own.lt ho)),Zan z3],?_⟩
  exact fin h6 _ _ _ S6 hi6 (by omega) (by omega)
 ·generalize hh1:h0 ++ [Zcb.cells Zab [.str n.1,.str n.2] false]=h1
  have s1:Zbc h0.length h0 h1:=by rw [← hh1]; exact Zal
  have b1:h1[h0.length]?=some (.cells Zab [.str n.1,.str n.2] false):=by rw [← hh1]; simp
  have l1:h1.length=h0.length + 1:=by rw [← hh1]; simp
  generalize hh2:h1 ++ [Zcb.cells Zab [] false]=h2
  have s2:Zbc h1.length h1 h2:=by rw [← hh2]; exact Zal
  have o2:h2[h1.length]?=some (.cells Zab [] false):=by rw [← hh2]; simp
  have l2:h2.length=h1.length + 1:=by rw [← hh2]; simp
  have S2:=s1.cat s2
  have b2:=s2.get b1 (Own.lt b1)
  have q1:=s1.get p1 (Own.lt p1)
  have z1:=s1.get ho (Own.lt ho)
  have q2:=S2.get p1 (Own.lt p1)
  have z2:=S2.get ho (Own.lt ho)
  refine ⟨by rw [Zan z1]; rfl,by rw [Zaz q2,Zaz q1],by rw [Zan z2,Zan z1],?_⟩
  refine Vec.app0 (n:=0) o2 Zhi Zng Zni Znh (by simp) (hr'.same' S2).rowOf (Zjw (enc:=eP) (fun _=>rfl) _) (by omega) (fun h3 hl3 hi3 hk3=>?_)
  have S3:Zbc h0.length h0 h3:=⟨by omega,fun j hj=>by rw [hk3 j (by omega) (by omega)]; exact S2.eq j hj⟩
  have q3:=S3.get p1 (Own.lt p1)
  have z3:=S3.get ho (Own.lt ho)
  have b3:h3[h0.length]?=some (.cells Zab [.str n.1,.str n.2] false):=by rw [hk3 _ (Own.lt b2) (by omega)]; exact b2
  simp only [Zaj,Nat.zero_add]
  refine ⟨by rw [Zaz q3,Zaz q2],by rw [Zan z3,Zan z2],?_⟩
  have hr3:Row h3.length h3 (some (h0.length,0)) (1 * 2) (Zdb eP [n]):=⟨rfl,.inr ⟨h0.length,0,_,_,_,rfl,Own.lt b3,b3,by simp,by simp [eP]⟩⟩
  have hi3:h3[h2.length]?=some (.cells Zab (Zdb eP tk) false):=by simpa using hi3
  refine Vec.app0 (n:=d) hi3 Zhi Zng Zni Znh (by rw [Zat Zcr,htl]) hr3.rowOf hnn (by omega) (fun h6 hl6 hi6 hk6=>?_)
  have S6:Zbc h0.length h0 h6:=⟨by omega,fun j hj=>by rw [hk6 j (by omega) (by omega)]; exact S3.eq j hj⟩
  simp only [Zaj]
  refine ⟨by rw [Zaz (S6.get p1 (Own.lt p1)),Zaz q3],by rw [Zan (S6.get ho (Own.lt ho)),Zan z3],?_⟩
  exact fin h6 _ _ _ S6 hi6 (by omega) (by omega)
theorem Ymw {hb:Zaa} {a0 a1:Pt} {n0 c0 n1 c1:Nat} {e0 e1:Bool} {w:Wd} (r:Zkr hb a0 n0 c0 a1 n1 c1 w) (b:WB w) (hw:Zcz w=true) (sp:Bool):∀ f,Yua f hb a0 a1 n0 c0 n1 c1 e0 e1 w sp
 | 0=>Ygc r b hw sp 0 fun f' h=>by omega
 | f + 1=>Ygc r b hw sp (f + 1) fun f' h=>by cases h; exact Ymw r b hw sp f
theorem Ync {h:Zaa} {a0 a1:Pt} {n0 c0 n1 c1:Nat} {e0 e1:Bool} {w:Wd} {nd:Nd} {sp:Bool} (r:Zkr h a0 n0 c0 a1 n1 c1 w) (b:WB w) (hnt:nd.2.length≤1048576) :
  Zak pg Zqt [.agg [.slice a0 n0 c0 e0,.slice a1 n1 c1 e1],.agg [.str nd.1,.str nd.2],.bool sp] h fun x h'=>∃ i x3 sa sn sc se st,x=.tup [.ptr (some (i,0)),.str (Yxn (Zjz w nd sp)),.bool (Zcz w && Zdq w nd)]∧Zbc h.length h h' ∧
   h'[i]?=some (.cells Zdh [.slice a0 n0 c0 e0,.slice a1 n1 c1 e1,.bool sp,x3,.slice sa sn sc se,.str (Yjh (Zjz w nd sp))] false)∧h.length≤i∧((Zcz w && Zdq w nd)=true→Row h'.length h' sa (sn * 2) (Zdb eP st)∧sn≤32∧∀ y m,Zjz w nd sp=.no y m→y≠[]∧st.getLast?=some m)∧∃ qa qn qc qe,x3=.slice qa qn qc qe∧Ybg h.length h' qa qn qc (Zwg w nd sp):=by
 apply Zvc.call
 simp only [Zaw]
 generalize hh0:h ++ [Zcb.cells Zac [.slice a0 n0 c0 e0,.slice a1 n1 c1 e1] false]=h0
 generalize hh1:h0 ++ [Zcb.cells Zab [.str nd.1,.str nd.2] false]=h1
 have s0:Zbc h.length h h0:=by rw [← hh0]; exact Zal
 have s1:Zbc h0.length h0 h1:=by rw [← hh1]; exact Zal
 have w0:h0[h.length]?=some (Zlu a0 n0 c0 e0 a1 n1 c1 e1):=by rw [← hh0]; simp [Zlu]
 have w1:=s1.get w0 (Own.lt w0)
 have p1:h1[h0.length]?=some (.cells Zab [.str nd.1,.str nd.2] false):=by rw [← hh1]; simp
 have l1:h1.length=h0.length + 1:=by rw [← hh1]; simp
 have l0:h0.length=h.length + 1:=by rw [← hh0]; simp
 rw [Zth w1]
 simp only [Zao,Zae,Zam,Zaj]
 generalize hh2:h1 ++ [Zcb.cells Zab [] false]=h2
 have s2:Zbc h1.length h1 h2:=by rw [← hh2]; exact Zal
 have o2:h2[h1.length]?=some (.cells Zab [] false):=by rw [← hh2]; simp
 have l2:h2.length=h1.length + 1:=by rw [← hh2]; simp
 generalize hh3:h2 ++ [Zcb.cells Zab [] false]=h3
 have s3:Zbc h2.length h2 h3:=by rw [← hh3]; exact Zal
 have o3:h3[h2.length]?=some (.cells Zab [] false):=by rw [← hh3]; simp
 have l3:h3.length=h2.length + 1:=by rw [← hh3]; simp
 generalize hh4:h3 ++ [Zcb.cells Zdh [.slice a0 n0 c0 e0,.slice a1 n1 c1 e1,.bool sp,.slice (some (h1.length,0)) 0 0 true,.slice (some (h2.length,0)) 0 0 true,.str []] false]=h4
 have s4:Zbc h3.length h3 h4:=by rw [← hh4]; exact Zal
 have z4:h4[h3.length]?=some (.cells Zdh [.slice a0 n0 c0 e0,.slice a1 n1 c1 e1,.bool sp,.slice (some (h1.length,0)) 0 0 true,.slice (some (h2.length,0)) 0 0 true,.str []] false):=by rw [← hh4]; simp
 have S14:=(s2.cat s3).cat s4
 have S4:=(s0.cat s1).cat S14
 have w4:=S14.get w1 (Own.lt w1)
 have p4:=S14.get p1 (Own.lt p1)
 have e4:=(s3.cat s4).get o2 (Own.lt o2)
 rw [Zth w4,Zaz p4]
 simp only [Zao,Zae,Zam,Zaj,Zah]
 refine (Zud (ct:=nd.1) (tt:=nd.2) (r.same S4) b hnt).mono ?_
 rintro v h5 ⟨rfl,s5⟩
 have S5:=S4.cat s5
 have p5:=s5.get p4 (Own.lt p4)
 have e5:=s5.get e4 (Own.lt e4)
 have z5:=s5.get z4 (Own.lt z4)
 have le5:=S5.le
 have rd:Zxq h h3.length (.slice a0 n0 c0 e0) (.slice a1 n1 c1 e1) sp h5 (some (h1.length,0)) [] [] []:=
  ⟨S5,by omega,⟨0,0,true,some (h2.length,0),0,0,true,z5,⟨Vec.mk1 e5,rfl,fun q hq=>by cases hq; omega,Nat.le_refl _⟩,by simpa using Row.nil,by omega,fun j o hn=>absurd rfl hn⟩,fun q hq=>by cases hq; omega⟩
 simp only [Zaq]
 refine Zbs (fun hc=>?_) (fun hc=>?_)
 ·have hf:Zjz w nd sp=.no Zty ([],[]):=by unfold Zjz; rw [hc]; rfl
  refine rd.reason _ fun h6 rd6 F6=>?_
  obtain ⟨qn,qc,qe,sa,sn,sc,se,ho,hv,_⟩:=rd6.ob
  have ha:Zwg w nd sp=[]:=by unfold Zwg; rw [hc]; rfl
  rw [hc,hf,ha]
  exact ⟨h3.length,_,sa,sn,sc,se,[],rfl,rd6.same,ho,by omega,fun hc=>(by cases hc),_,_,_,_,rfl,hv⟩
 rw [Zaz p5]
 simp only [Zao,Zae,Zam,Zah]
 have hc':=hc
 simp only [Bool.and_eq_true] at hc'
 refine (Ymw r b hc'.1 sp 31 (n:=nd) (d:=0) rd (by simp) hc'.2 (by omega) (by simp)).mono ?_
 rintro v h6 ⟨rfl,qa,st,rd6,F6,hst,_,hno⟩
 have hf:Zjz w nd sp=(Zli (wk w) sp Zqx 31 [] nd).1:=by unfold Zjz; rw [hc]; rfl
 have ha:Zwg w nd sp=(Zli (wk w) sp Zqx 31 [] nd).2:=by unfold Zwg; rw [hc]; rfl
 obtain ⟨qn,qc,qe,sa,sn,sc,se,ho,hv,hr,_⟩:=rd6.ob
 have hsl:st.length=sn:=by have:=hr.1; rw [Zat Zcr] at this; omega
 simp only [Zah]
 rw [hc,hf,ha]
 exact ⟨h3.length,_,sa,sn,sc,se,st,rfl,rd6.same,ho,by omega,fun _=>⟨hr,by omega,hno⟩,_,_,_,_,rfl,hv⟩
end Go.Sim

set_option linter.unusedVariables false
set_option linter.unusedSimpArgs false
set_option maxRecDepth 20000
namespace Go.Sim
open Go Go.RowKit

theorem Zrz:pg.underlying Zfq=some (.slice Zad):=by kernel_rfl
theorem Ych:pg.cellsOf Zad=3:=by kernel_rfl
theorem Yba:pg.okElem Zad=true:=by kernel_rfl
theorem Yby:pg.bytesOf Zad≤127:=Nat.le_of_ble_eq_true (by kernel_rfl)
theorem Yab:pg.underlying Zlb=some (.slice Zbj):=by kernel_rfl
theorem Ymh:pg.cellsOf Zbj=2:=by kernel_rfl
theorem Yml:pg.okElem Zbj=true:=by kernel_rfl
theorem Ylr:pg.bytesOf Zbj≤127:=Nat.le_of_ble_eq_true (by kernel_rfl)
theorem Zgr {h:Zaa} {i j:Nat} {t t':TypeId} {cs cs':List Zay} {ro ro':Bool} (hi:h[i]?=some (.cells t cs ro)) (hj:h[j]?=some (.cells t' cs' ro')) (hne:t≠t'):i≠j:=by
 rintro rfl; rw [hi] at hj; injection hj with hj; injection hj with hj _ _; exact hne hj
theorem Yrd {h:Zaa} {a:Pt} {n cp:Nat} {e:Bool} {i:Ins} (r:Row h.length h a (n * 2) (Zdb eP i.2)) (hn:n≤1048576) :
  Zak pg Zjv [.agg [.str i.1.1,.str i.1.2,.slice a n cp e]] h fun v h'=>∃ a' c' e',v=.agg [.str i.1.1,.str i.1.2,.slice a' n c' e']∧Zbc h.length h h'∧Zds Zab eP h.length h' a' n i.2∧a'≠none∧n≤c':=by
 have hl:i.2.length=n:=by have:=r.1; rw [Zat Zcr] at this; omega
 apply Znz.call
 simp only [Zaw]
 generalize hh0:h ++ [Zcb.cells Zad [.str i.1.1,.str i.1.2,.slice a n cp e] false]=h0
 generalize hh1:h0 ++ [Zcb.cells Zad [.str [],.str [],.slice none 0 0 true] false]=h1
 generalize hh2:h1 ++ [Zcb.cells Zab [] false]=h2
 have s0:Zbc h.length h h0:=by rw [← hh0]; exact Zal
 have s1:Zbc h0.length h0 h1:=by rw [← hh1]; exact Zal
 have s2:Zbc h1.length h1 h2:=by rw [← hh2]; exact Zal
 have l0:h0.length=h.length + 1:=by rw [← hh0]; simp
 have l1:h1.length=h0.length + 1:=by rw [← hh1]; simp
 have l2:h2.length=h1.length + 1:=by rw [← hh2]; simp
 have x0:h0[h.length]?=some (.cells Zad [.str i.1.1,.str i.1.2,.slice a n cp e] false):=by rw [← hh0]; simp
 have y1:h1[h0.length]?=some (.cells Zad [.str [],.str [],.slice none 0 0 true] false):=by rw [← hh1]; simp
 have z2:h2[h1.length]?=some (.cells Zab [] false):=by rw [← hh2]; simp
 have x2:=s2.get (s1.get x0 (by omega)) (by omega)
 have y2:=s2.get y1 (by omega)
 have S2:=(s0.cat s1).cat s2
 simp only [Zan x2,Nat.zero_add,List.getElem?_cons_succ,List.getElem?_cons_zero,Zaj]
 refine Vec.app0 (n:=0) z2 Zhi Zng Zni Znh (by simp) (r.same' S2).rowOf (Zjw (enc:=eP) (fun _=>rfl) i.2) (by omega) (fun h3 hl3 hi3 hk3=>?_)
 have x3:h3[h.length]?=some (.cells Zad [.str i.1.1,.str i.1.2,.slice a n cp e] false):=by rw [hk3 _ (by omega) (by omega)]; exact x2
 have y3:h3[h0.length]?=some (.cells Zad [.str [],.str [],.slice none 0 0 true] false):=by rw [hk3 _ (by omega) (by omega)]; exact y2
 simp only [Zaj,Nat.zero_add]
 rw [Zbg x3 (by simp)]
 simp only [Zas,putRow,List.take_succ_cons,List.take_zero,List.length_cons,List.length_nil,List.drop_succ_cons,List.drop_zero,List.drop_nil,List.cons_append,List.nil_append,List.append_nil]
 rw [Zpb (Zce x3)]
 simp only [Zao,Zae,Zam,Zah,Zaj]
 have y4:(h3.set h.length (Zcb.cells Zad [.str i.1.1,.str i.1.2,.slice (some (h2.length,0)) n n false] false))[h0.length]?=some (.cells Zad [.str [],.str [],.slice none 0 0 true] false):=by rw [Zbw (by omega)]; exact y3
 rw [Zbg y4 (by simp)]
 simp only [Zas,putRow,List.take_zero,List.length_cons,List.length_nil,List.drop_succ_cons,List.drop_zero,List.drop_nil,List.cons_append,List.nil_append,List.append_nil]
 rw [Zpb (Zce y4)]
 simp only [Zao,Zae,Zam,Zah,Zaj]
 refine ⟨_,_,_,rfl,⟨by simp; omega,fun j hj=>?_⟩,⟨hl,.inr ⟨h2.length,rfl,by omega,?_⟩⟩,by simp,Nat.le_refl _⟩
 ·rw [Zbw (by omega),Zbw (by omega),hk3 j (by omega) (by omega)]; exact S2.eq j hj
 ·rw [Zbw (by omega),Zbw (by omega),hi3]; simp
theorem Yki {h:Zaa} {a0 a:Pt} {n0 c0 n cp:Nat} {e:Bool} {w:Wd} (r:Zkr h a0 n0 c0 a n cp w) (b:WB w) :
  Zak pg Zhu [.slice a n cp e] h fun v h'=>∃ a' c' e' ys,v=.slice a' n c' e'∧n≤c'∧Zbc h.length h h'∧Zds Zad eN h.length h' a' n ys∧ys.length=w.is.length∧a'≠none ∧
   (∀ (k:Nat) (x:EI) (i:Ins),ys[k]?=some x→w.is[k]?=some i→x.c=i.1.1∧x.t=i.1.2∧Zds Zab eP h.length h' x.a x.n i.2) ∧
   (∀ (j k:Nat) (x y:EI),j≠k→ys[j]?=some x→ys[k]?=some y→x.n≠0→y.n≠0→x.a≠y.a)∧(∀ x∈ys,x.a≠none)∧∃ q,a'=some (q,0)∧h.length≤q∧h'[q]?=some (.cells Zad (Zdb eN ys) false):=by
 have hl:=r.len1
 have hli:=b.li
 apply Zfk.call
 simp only [Zaw]
 refine Zfk.L3ind (J:=fun (g:Nat) a3 n3 c3 e3 x9 h'=>x9=(g:Int)∧g≤n∧Zbc h.length h h'∧∃ (q:Nat) (ys:List EI),a3=some (q,0)∧n3=g∧g≤c3∧h.length≤q∧ys.length=g∧h'[q]?=some (.cells Zad (Zdb eN ys) false) ∧
   (∀ (k:Nat) (x:EI) (i:Ins),ys[k]?=some x→w.is[k]?=some i→x.c=i.1.1∧x.t=i.1.2∧Zds Zab eP h.length h' x.a x.n i.2) ∧
   (∀ (j k:Nat) (x y:EI),j≠k→ys[j]?=some x→ys[k]?=some y→x.n≠0→y.n≠0→x.a≠y.a)∧∀ x∈ys,x.a≠none) (m:=fun g=>n - g) (hr:=?_) (g:=0)
  (hj:=⟨rfl,by omega,Zbc.app (Nat.le_refl _) _,h.length,[],rfl,rfl,by omega,Nat.le_refl _,rfl,by simp,by simp,by simp,by simp⟩) ..
 rintro g a3 n3 c3 e3 x9 h' ⟨rfl,hg,hs,q,ys,rfl,rfl,hgc,hql,hy,ho,hrep,hsep,hnn⟩ R hR
 unfold Zfk.L3t
 refine Zar (fun hlt=>?_) (fun hge=>?_)
 ·obtain ⟨i0,o0,hgl,a2,n2,c2,e2,rfl,hb0,hr,_,_,_,hrow,hn2⟩:=(r.same hs).inst (k:=n3) (by omega)
  have hb:=b.is _ (List.getElem_mem hgl)
  simp only [Zau,Int.toNat_natCast,hr,Zao,Zae,Zam,Zah,Zaj,Zaw]
  refine ⟨by omega,?_⟩
  generalize hh1:h' ++ [Zcb.cells Zad [.str [],.str [],.slice none 0 0 true] false]=h1
  have s1:Zbc h'.length h' h1:=by rw [← hh1]; exact Zal
  have o1:h1[h'.length]?=some (.cells Zad [.str [],.str [],.slice none 0 0 true] false):=by rw [← hh1]; simp
  rw [Zbg o1 (by simp)]
  simp only [Zas,putRow,List.take_zero,List.length_cons,List.length_nil,List.drop_succ_cons,List.drop_zero,List.drop_nil,List.cons_append,List.nil_append,List.append_nil,Nat.zero_add]
  generalize hh2:h1.set h'.length (Zcb.cells Zad [.str w.is[n3].1.1,.str w.is[n3].1.2,.slice a2 n2 c2 e2] false)=h2
  have o2:h2[h'.length]?=some (.cells Zad [.str w.is[n3].1.1,.str w.is[n3].1.2,.slice a2 n2 c2 e2] false):=by rw [← hh2]; exact Zce o1
  have s2:Zbc h'.length h' h2:=by rw [← hh2]; exact s1.set' (Nat.le_refl _)
  rw [Zpb o2]
  simp only [Zao,Zae,Zam,Zah,Zaj]
  refine (Yrd (i:=w.is[n3]) (hrow.same' s2) (by omega)).mono ?_
  rintro v h3 ⟨a',c',e',rfl,s3,f3,hnn3,hc3⟩
  simp only [Zdt,Zae,Zam,Zah,Zaj,Zaw]
  have S3:=s2.cat s3
  have hol:=Own.lt ho
  have ho3:=S3.get ho hol
  have hle2:=s2.le
  have hle3:=s3.le
  have hlh:=hs.le
  refine (Vec.mk1 ho3).pushN Zrz Ych Yba Yby (by rw [Zat Zrs,hy]) rfl (by omega) rfl (by omega) (fun h4 hl4 hi4 hk4=>?_)
  simp only [Zaj]
  rw [Zbm (by omega)]
  have keep:∀ {a:Pt} {m:Nat} {l:List Nd} {b:Nat},Zds Zab eP b h3 a m l→Zds Zab eP b h4 a m l:=fun f=>⟨f.1,f.2.imp id fun ⟨j,ha,hbj,hc⟩=>⟨j,ha,hbj,by rw [hk4 j (Own.lt hc) (fun j' hj'=>by cases hj'; exact Zgr hc ho3 (by decide))]; exact hc⟩⟩
  refine hR (n3 + 1) _ _ _ _ _ _ (by omega) ⟨rfl,by omega,⟨by omega,fun j hj=>?_⟩,h3.length + 1,ys ++ [⟨w.is[n3].1.1,w.is[n3].1.2,a',n2,c',e'⟩],rfl,rfl,Nat.le_refl _,by omega,by simp [hy],by rw [hi4]; simp [eN],?_,?_,fun x hx=>?_⟩
  ·rw [hk4 j (by omega) (fun j' hj'=>by cases hj'; omega),S3.eq j (by omega)]; exact hs.eq j hj
  ·intro k x j hx hj
   by_cases hk:k < n3
   ·rw [List.getElem?_append_left (by omega)] at hx
    obtain ⟨p1,p2,p3⟩:=hrep k x j hx hj
    exact ⟨p1,p2,keep (p3.same S3)⟩
   ·have hkg:k=n3:=by have:=(List.getElem?_eq_some_iff.1 hx).1; simp at this; omega
    subst hkg
    rw [List.getElem?_append_right (by omega)] at hx
    simp [hy] at hx
    subst hx
    rw [List.getElem?_eq_getElem hgl] at hj
    cases hj
    exact ⟨rfl,rfl,keep ⟨f3.1,f3.2.imp id fun ⟨j,ha,hbj,hc⟩=>⟨j,ha,by omega,hc⟩⟩⟩
  ·have old:∀ (k:Nat) (x:EI),k < n3→ys[k]?=some x→x.n≠0→n2≠0→x.a≠a':=by
    intro k x hk hx h0 h2' he
    obtain ⟨_,_,p3⟩:=hrep k x w.is[k] hx (List.getElem?_eq_getElem (by omega))
    obtain ⟨_,p3⟩:=p3
    obtain ⟨_,f3'⟩:=f3
    rcases p3 with p3 | ⟨j,ha,_,hc⟩
    ·exact h0 p3
    ·rcases f3' with f3' | ⟨j',ha',hb',_⟩
     ·exact h2' f3'
     ·rw [ha,ha'] at he; cases he; have:=Own.lt hc; omega
   intro j k x y hjk hx hy' h0 h0'
   by_cases hj:j < n3 <;> by_cases hk:k < n3
   ·rw [List.getElem?_append_left (by omega)] at hx hy'
    exact hsep j k x y hjk hx hy' h0 h0'
   ·have hkg:k=n3:=by have:=(List.getElem?_eq_some_iff.1 hy').1; simp at this; omega
    subst hkg
    rw [List.getElem?_append_left (by omega)] at hx
    rw [List.getElem?_append_right (by omega)] at hy'
    simp [hy] at hy'
    subst hy'
    exact old j x hj hx h0 h0'
   ·have hjg:j=n3:=by have:=(List.getElem?_eq_some_iff.1 hx).1; simp at this; omega
    subst hjg
    rw [List.getElem?_append_left (by omega)] at hy'
    rw [List.getElem?_append_right (by omega)] at hx
    simp [hy] at hx
    subst hx
    exact fun he=>old k y hk hy' h0' h0 he.symm
   ·have:=(List.getElem?_eq_some_iff.1 hx).1
    have:=(List.getElem?_eq_some_iff.1 hy').1
    simp at *
    omega
  ·rcases List.mem_append.1 hx with hx | hx
   ·exact hnn x hx
   ·rw [List.mem_singleton] at hx; subst hx; exact hnn3
 ·apply Zfk.A3x0i
  have:n3=n:=by omega
  subst this
  exact ⟨_,_,_,ys,rfl,hgc,hs,⟨hy,.inr ⟨q,rfl,hql,ho⟩⟩,by omega,by simp,hrep,hsep,hnn,q,rfl,hql,ho⟩
theorem Zyw {h:Zaa} {a0 a1:Pt} {n0 c0 n1 c1:Nat} {e0 e1:Bool} {w:Wd} (r:Zkr h a0 n0 c0 a1 n1 c1 w) (b:WB w) :
  Zak pg Zjh [.agg [.slice a0 n0 c0 e0,.slice a1 n1 c1 e1]] h fun v h'=>∃ b0 d0 f0 b1 d1 f1 ys,v=.agg [.slice b0 n0 d0 f0,.slice b1 n1 d1 f1]∧Zbc h.length h h'∧Zvr h.length h' b0 n0 b1 n1 ys w∧n0≤d0∧n1≤d1∧b0≠none∧b1≠none∧∃ q,b1=some (q,0)∧h.length≤q∧h'[q]?=some (.cells Zad (Zdb eN ys) false):=by
 have hl0:=r.len0
 have hlc:=b.lc
 apply Zqj.call
 simp only [Zaw]
 generalize hh0:h ++ [Zcb.cells Zac [.slice a0 n0 c0 e0,.slice a1 n1 c1 e1] false]=h0
 generalize hh1:h0 ++ [Zcb.cells Zac [.slice none 0 0 true,.slice none 0 0 true] false]=h1
 generalize hh2:h1 ++ [Zcb.cells Zbj [] false]=h2
 have s0:Zbc h.length h h0:=by rw [← hh0]; exact Zal
 have s1:Zbc h0.length h0 h1:=by rw [← hh1]; exact Zal
 have s2:Zbc h1.length h1 h2:=by rw [← hh2]; exact Zal
 have l0:h0.length=h.length + 1:=by rw [← hh0]; simp
 have l1:h1.length=h0.length + 1:=by rw [← hh1]; simp
 have l2:h2.length=h1.length + 1:=by rw [← hh2]; simp
 have x0:h0[h.length]?=some (.cells Zac [.slice a0 n0 c0 e0,.slice a1 n1 c1 e1] false):=by rw [← hh0]; simp
 have y1:h1[h0.length]?=some (.cells Zac [.slice none 0 0 true,.slice none 0 0 true] false):=by rw [← hh1]; simp
 have z2:h2[h1.length]?=some (.cells Zbj [] false):=by rw [← hh2]; simp
 have x2:=s2.get (s1.get x0 (by omega)) (by omega)
 have y2:=s2.get y1 (by omega)
 have S2:=(s0.cat s1).cat s2
 simp only [Zan x2,Nat.zero_add,List.getElem?_cons_succ,List.getElem?_cons_zero,Zaj]
 refine Vec.app0 (n:=0) z2 Yab Ymh Yml Ylr (by simp) ((r.same S2).cls.rowOf) (Zjw (enc:=eP) (fun _=>rfl) w.cs) (by omega) (fun h3 hl3 hi3 hk3=>?_)
 have x3:h3[h.length]?=some (.cells Zac [.slice a0 n0 c0 e0,.slice a1 n1 c1 e1] false):=by rw [hk3 _ (by omega) (by omega)]; exact x2
 have y3:h3[h0.length]?=some (.cells Zac [.slice none 0 0 true,.slice none 0 0 true] false):=by rw [hk3 _ (by omega) (by omega)]; exact y2
 have S3:Zbc h.length h h3:=⟨by omega,fun j hj=>by rw [hk3 j (by omega) (by omega)]; exact S2.eq j hj⟩
 simp only [Zaj,Nat.zero_add]
 rw [Zbg x3 (by simp)]
 simp only [Zas,putRow,List.take_zero,List.length_cons,List.length_nil,List.drop_succ_cons,List.drop_zero,List.drop_nil,List.cons_append,List.nil_append,List.append_nil]
 generalize hh4:h3.set h.length (Zcb.cells Zac [.slice (some (h2.length,0)) n0 n0 false,.slice a1 n1 c1 e1] false)=h4
 have x4:h4[h.length]?=some (.cells Zac [.slice (some (h2.length,0)) n0 n0 false,.slice a1 n1 c1 e1] false):=by rw [← hh4]; exact Zce x3
 have y4:h4[h0.length]?=some (.cells Zac [.slice none 0 0 true,.slice none 0 0 true] false):=by rw [← hh4,Zbw (by omega)]; exact y3
 have z4:h4[h2.length]?=some (.cells Zbj (Zdb eP w.cs) false):=by rw [← hh4,Zbw (by omega),hi3]; simp
 have S4:Zbc h.length h h4:=by rw [← hh4]; exact S3.set' (Nat.le_refl _)
 have l4:h4.length=h3.length:=by rw [← hh4]; simp
 simp only [Zan x4,List.getElem?_cons_succ,List.getElem?_cons_zero,Zaj]
 refine (Yki (r.same S4) b).mono ?_
 rintro v h5 ⟨b1,d1,f1,ys,rfl,hd1,s5,g5,hyl,hbn,hrep,hsep,hnn,qq,hqq1,hqq2,hqq3⟩
 simp only [Zaj]
 have l5:=s5.le
 have x5:=s5.get x4 (by omega)
 have y5:=s5.get y4 (by omega)
 have z5:=s5.get z4 (by omega)
 rw [Zbg x5 (by simp)]
 simp only [Zas,putRow,List.take_succ_cons,List.take_zero,List.length_cons,List.length_nil,List.drop_succ_cons,List.drop_zero,List.drop_nil,List.cons_append,List.nil_append,List.append_nil]
 rw [Zaz (Zce x5)]
 simp only [Zao,Zae,Zam,Zaj]
 have y6:(h5.set h.length (Zcb.cells Zac [.slice (some (h2.length,0)) n0 n0 false,.slice b1 n1 d1 f1] false))[h0.length]?=some (.cells Zac [.slice none 0 0 true,.slice none 0 0 true] false):=by rw [Zbw (by omega)]; exact y5
 rw [Zbg y6 (by simp)]
 simp only [Zas,putRow,List.take_zero,List.length_cons,List.length_nil,List.drop_succ_cons,List.drop_zero,List.drop_nil,List.cons_append,List.nil_append,List.append_nil]
 rw [Zaz (Zce y6)]
 simp only [Zao,Zae,Zam,Zaj]
 have kp:∀ j,h2.length≤j→((h5.set h.length (Zcb.cells Zac [.slice (some (h2.length,0)) n0 n0 false,.slice b1 n1 d1 f1] false)).set h0.length (Zcb.cells Zac [.slice (some (h2.length,0)) n0 n0 false,.slice b1 n1 d1 f1] false))[j]?=h5[j]?:=fun j hj=>by rw [Zbw (by omega),Zbw (by omega)]
 refine ⟨_,_,_,_,_,_,ys,rfl,⟨by simp; omega,fun j hj=>?_⟩,⟨⟨hl0,.inr ⟨h2.length,rfl,by omega,by rw [kp _ (Nat.le_refl _)]; exact z5⟩⟩,g5.keep (by omega) fun j hj _=>kp j (by omega),hyl,fun k x i hx hi=>?_,hsep,hnn,by simp⟩,Nat.le_refl _,hd1,by simp,hbn,qq,hqq1,by omega,by rw [kp qq (by omega)]; exact hqq3⟩
 ·rw [Zbw (by omega),Zbw (by omega),s5.eq j (by omega)]; exact S4.eq j hj
 ·obtain ⟨p1,p2,p3⟩:=hrep k x i hx hi
  exact ⟨p1,p2,p3.keep (by omega) fun j hj _=>kp j (by omega)⟩
end Go.Sim

set_option linter.unusedSimpArgs false
set_option linter.unusedVariables false
namespace Go.Sim
section
variable {k:Wk} {sp:Bool} {dec:Int→List Nat}
theorem Ygf {g:List Nd→Nd→Fnd × List Nd} {G:(List Nd→Nd→Fnd × List Nd)→Nat→Prop} (hg:∀ a m s a',g a m=(.ok s,a')→∃ δ,a'=a ++ δ∧∀ g' a2,G g' 0→a2.length≤a.length→g' a2 m=(.ok s,a2 ++ δ)) :
  ∀ (l:List Nd) (out:List Nat) (a:List Nd) (i:Nat) (out':List Nat) (a':List Nd) (i':Nat),l.foldl (Zgf g) ((.ok out,a),i)=((.ok out',a'),i') →
   ∃ δ,a'=a ++ δ∧∀ g' a2,G g' 0→a2.length≤a.length→l.foldl (Zgf g') ((.ok out,a2),i)=((.ok out',a2 ++ δ),i')
 | [],out,a,i,out',a',i',h=>by
  simp only [List.foldl_nil,Prod.mk.injEq,Fnd.ok.injEq] at h
  obtain ⟨⟨rfl,rfl⟩,rfl⟩:=h
  exact ⟨[],by simp,fun g' a2 _ _=>by simp⟩
 | m :: l,out,a,i,out',a',i',h=>by
  simp only [List.foldl_cons] at h
  rcases hr:g a m with ⟨r1,r2⟩
  cases r1 with
  | no y x=>
   have h1:Zgf g ((.ok out,a),i) m=((.no y x,r2),i):=by unfold Zgf; simp only; rw [hr]
   rw [h1,Zrx] at h; cases h
  | ok s=>
   have h1:Zgf g ((.ok out,a),i) m=((.ok (out ++ Yfj i :: s),r2),i + 1):=by unfold Zgf; simp only; rw [hr]
   rw [h1] at h
   obtain ⟨δ1,rfl,k1⟩:=hg a m s r2 hr
   obtain ⟨δ2,rfl,k2⟩:=Ygf hg l _ _ _ _ _ _ h
   refine ⟨δ1 ++ δ2,by simp,fun g' a2 hG ha=>?_⟩
   simp only [List.foldl_cons]
   have h2:Zgf g' ((.ok out,a2),i) m=((.ok (out ++ Yfj i :: s),a2 ++ δ1),i + 1):=by unfold Zgf; simp only; rw [k1 g' a2 hG ha]
   rw [h2,k2 g' (a2 ++ δ1) hG (by simp; omega),List.append_assoc]
theorem Yld:∀ (f:Nat) (asked:List Nd) (n:Nd) (s:List Nat) (a':List Nd),Zli k sp dec f asked n=(.ok s,a') →
  ∃ δ,a'=asked ++ δ∧∀ f' a2,f≤f'→a2.length≤asked.length→Zli k sp dec f' a2 n=(.ok s,a2 ++ δ)
 | f,asked,n,s,a',h=>by
  by_cases h3:300≤asked.length
  ·rw [Zpd h3] at h; cases h
  ·match f with
   | 0=>rw [Zpc h3] at h; cases h
   | f + 1=>
    by_cases hx:(Zfa k sp n).1 < 0
    ·rw [Zmf h3 hx] at h; cases h
    ·cases hn:k.needs (Zfa k sp n).1 n.2 with
     | none=>rw [Zse h3 hx hn] at h; cases h
     | some ms=>
      rw [Zvg h3 hx hn] at h
      rcases hr:ms.foldl (Zgf (Zli k sp dec f)) ((.ok (dec (Zfa k sp n).1),asked ++ [n]),0) with ⟨⟨r1,r2⟩,r3⟩
      rw [hr] at h
      cases r1 with
      | no y x=>cases h
      | ok out=>
       simp only [Zwx,Prod.mk.injEq,Fnd.ok.injEq] at h
       obtain ⟨hs,rfl⟩:=h
       obtain ⟨δ,rfl,key⟩:=Ygf (G:=fun g' _=>∃ f',f≤f'∧g'=Zli k sp dec f') (fun a m s a' hm=>by
        obtain ⟨δ,h1,h2⟩:=Yld f a m s a' hm
        refine ⟨δ,h1,fun g' a2 hG ha=>?_⟩
        obtain ⟨f',hf,rfl⟩:=hG
        exact h2 f' a2 hf ha) ms _ _ _ _ _ _ hr
       refine ⟨n :: δ,by simp,fun f' a2 hf ha=>?_⟩
       match f' with
       | 0=>omega
       | f' + 1=>
        rw [Zvg (by omega) hx hn,key (Zli k sp dec f') (a2 ++ [n]) ⟨f',by omega,rfl⟩ (by simp; omega)]
        simp only [Zwx]
        rw [hs]; simp
theorem Ynb {g:List Nd→Nd→Fnd × List Nd} {R:Nd→Prop} (hg:∀ a m s a',g a m=(.ok s,a')→∃ δ,a'=a ++ δ∧∀ x∈δ,R x):∀ (l:List Nd) (out:List Nat) (a:List Nd) (i:Nat) (out':List Nat) (a':List Nd) (i':Nat),
  l.foldl (Zgf g) ((.ok out,a),i)=((.ok out',a'),i')→∃ δ,a'=a ++ δ∧∀ x∈δ,R x
 | [],out,a,i,out',a',i',h=>by
  simp only [List.foldl_nil,Prod.mk.injEq,Fnd.ok.injEq] at h
  obtain ⟨⟨rfl,rfl⟩,rfl⟩:=h
  exact ⟨[],by simp,by simp⟩
 | m :: l,out,a,i,out',a',i',h=>by
  simp only [List.foldl_cons] at h
  rcases hr:g a m with ⟨r1,r2⟩
  cases r1 with
  | no y x=>
   have h1:Zgf g ((.ok out,a),i) m=((.no y x,r2),i):=by unfold Zgf; simp only; rw [hr]
   rw [h1,Zrx] at h; cases h
  | ok s=>
   have h1:Zgf g ((.ok out,a),i) m=((.ok (out ++ Yfj i :: s),r2),i + 1):=by unfold Zgf; simp only; rw [hr]
   rw [h1] at h
   obtain ⟨δ1,rfl,k1⟩:=hg a m s r2 hr
   obtain ⟨δ2,rfl,k2⟩:=Ynb hg l _ _ _ _ _ _ h
   exact ⟨δ1 ++ δ2,by simp,fun x hx=>(List.mem_append.1 hx).elim (k1 x) (k2 x)⟩
theorem Yrj (B:Nat):∀ (f:Nat),f≤B→∀ (asked:List Nd) (n:Nd) (s:List Nat) (a':List Nd),Zli k sp dec f asked n=(.ok s,a')→∃ δ,a'=asked ++ δ∧∀ x∈δ,∃ p,(Zli k sp dec B [] x).1=.ok p
 | f,hf,asked,n,s,a',h=>by
  have hme:∃ p,(Zli k sp dec B [] n).1=.ok p:=by
   obtain ⟨δ,_,h2⟩:=Yld f asked n s a' h
   exact ⟨s,by rw [h2 B [] hf (by simp)]⟩
  by_cases h3:300≤asked.length
  ·rw [Zpd h3] at h; cases h
  ·match f with
   | 0=>rw [Zpc h3] at h; cases h
   | f + 1=>
    by_cases hx:(Zfa k sp n).1 < 0
    ·rw [Zmf h3 hx] at h; cases h
    ·cases hn:k.needs (Zfa k sp n).1 n.2 with
     | none=>rw [Zse h3 hx hn] at h; cases h
     | some ms=>
      rw [Zvg h3 hx hn] at h
      rcases hr:ms.foldl (Zgf (Zli k sp dec f)) ((.ok (dec (Zfa k sp n).1),asked ++ [n]),0) with ⟨⟨r1,r2⟩,r3⟩
      rw [hr] at h
      cases r1 with
      | no y x=>cases h
      | ok out=>
       simp only [Zwx,Prod.mk.injEq,Fnd.ok.injEq] at h
       obtain ⟨hs,rfl⟩:=h
       obtain ⟨δ,rfl,key⟩:=Ynb (R:=fun x=>∃ p,(Zli k sp dec B [] x).1=.ok p) (fun a m s a' hm=>Yrj B f (by omega) a m s a' hm) ms _ _ _ _ _ _ hr
       exact ⟨n :: δ,by simp,fun x hx=>(List.mem_cons.1 hx).elim (fun e=>e ▸ hme) (key x)⟩
theorem Yie {g:List Nd→Nd→Fnd × List Nd} (hg:∀ a m y x a',g a m=(.no y x,a')→y=Yfr ∨ a'.getLast?=some x):∀ (l:List Nd) (out:List Nat) (a:List Nd) (i:Nat) (y:List Nat) (x:Nd) (a':List Nd) (i':Nat),
  l.foldl (Zgf g) ((.ok out,a),i)=((.no y x,a'),i')→y=Yfr ∨ a'.getLast?=some x
 | [],out,a,i,y,x,a',i',h=>by simp at h
 | m :: l,out,a,i,y,x,a',i',h=>by
  simp only [List.foldl_cons] at h
  rcases hr:g a m with ⟨r1,r2⟩
  cases r1 with
  | no y' x'=>
   have h1:Zgf g ((.ok out,a),i) m=((.no y' x',r2),i):=by unfold Zgf; simp only; rw [hr]
   rw [h1,Zrx] at h
   simp only [Prod.mk.injEq,Fnd.no.injEq] at h
   obtain ⟨⟨⟨rfl,rfl⟩,rfl⟩,rfl⟩:=h
   exact hg a m _ _ _ hr
  | ok s=>
   have h1:Zgf g ((.ok out,a),i) m=((.ok (out ++ Yfj i :: s),r2),i + 1):=by unfold Zgf; simp only; rw [hr]
   rw [h1] at h
   exact Yie hg l _ _ _ _ _ _ _ h
theorem Yln:∀ (f:Nat) (asked:List Nd) (n:Nd) (y:List Nat) (x:Nd) (a':List Nd),Zli k sp dec f asked n=(.no y x,a')→y=Yfr ∨ a'.getLast?=some x
 | f,asked,n,y,x,a',h=>by
  by_cases h3:300≤asked.length
  ·rw [Zpd h3] at h; cases h; exact .inl rfl
  ·match f with
   | 0=>rw [Zpc h3] at h; cases h; exact .inr (by simp)
   | f + 1=>
    by_cases hx:(Zfa k sp n).1 < 0
    ·rw [Zmf h3 hx] at h; cases h; exact .inr (by simp)
    ·cases hn:k.needs (Zfa k sp n).1 n.2 with
     | none=>rw [Zse h3 hx hn] at h; cases h; exact .inr (by simp)
     | some ms=>
      rw [Zvg h3 hx hn] at h
      rcases hr:ms.foldl (Zgf (Zli k sp dec f)) ((.ok (dec (Zfa k sp n).1),asked ++ [n]),0) with ⟨⟨r1,r2⟩,r3⟩
      rw [hr] at h
      cases r1 with
      | ok out=>cases h
      | no y' x'=>
       cases h
       exact Yie (fun a m y x a' hm=>Yln f a m y x a' hm) ms _ _ _ _ _ _ _ hr
theorem Ylf {g:List Nd→Nd→Fnd × List Nd} (hg:∀ a m,∃ δ,(g a m).2=a ++ δ):∀ (l:List Nd) (z:(Fnd × List Nd) × Nat),∃ δ,(l.foldl (Zgf g) z).1.2=z.1.2 ++ δ
 | [],z=>⟨[],by simp⟩
 | m :: l,z=>by
  simp only [List.foldl_cons]
  obtain ⟨δ2,h2⟩:=Ylf hg l (Zgf g z m)
  have h1:∃ δ,(Zgf g z m).1.2=z.1.2 ++ δ:=by
   obtain ⟨⟨x,a⟩,q⟩:=z
   cases x with
   | no y n=>exact ⟨[],by simp [Zgf]⟩
   | ok out=>
    obtain ⟨δ,h⟩:=hg a m
    refine ⟨δ,?_⟩
    unfold Zgf
    simp only
    rcases hr:g a m with ⟨r1,r2⟩
    rw [hr] at h
    cases r1 <;> exact h
  obtain ⟨δ1,h1⟩:=h1
  exact ⟨δ1 ++ δ2,by rw [h2,h1]; simp⟩
theorem Yqy:∀ (f:Nat) (asked:List Nd) (n:Nd),∃ δ,(Zli k sp dec f asked n).2=asked ++ δ∧(asked.length < 300→∃ δ',δ=n :: δ')
 | f,asked,n=>by
  by_cases h3:300≤asked.length
  ·rw [Zpd h3]; exact ⟨[],by simp,fun h=>by omega⟩
  ·match f with
   | 0=>rw [Zpc h3]; exact ⟨[n],rfl,fun _=>⟨[],rfl⟩⟩
   | f + 1=>
    by_cases hx:(Zfa k sp n).1 < 0
    ·rw [Zmf h3 hx]; exact ⟨[n],rfl,fun _=>⟨[],rfl⟩⟩
    ·cases hn:k.needs (Zfa k sp n).1 n.2 with
     | none=>rw [Zse h3 hx hn]; exact ⟨[n],rfl,fun _=>⟨[],rfl⟩⟩
     | some ms=>
      rw [Zvg h3 hx hn]
      obtain ⟨δ,hδ⟩:=Ylf (g:=Zli k sp dec f) (fun a m=>(Yqy f a m).imp fun δ h=>h.1) ms ((.ok (dec (Zfa k sp n).1),asked ++ [n]),0)
      refine ⟨n :: δ,?_,fun _=>⟨δ,rfl⟩⟩
      generalize List.foldl (Zgf (Zli k sp dec f)) ((.ok (dec (Zfa k sp n).1),asked ++ [n]),0) ms=r at hδ
      obtain ⟨⟨r1,r2⟩,r3⟩:=r
      simp only at hδ
      subst hδ
      cases r1 <;> simp [Zwx]
end
end Go.Sim

namespace Go.Sim
def Yzz (y:List Nat):Prop:=y=Yfr ∨ y=Yto ∨ y=Ykj ∨ y=Zzj ∨ y=Yzg
section
variable {k:Wk} {sp:Bool} {dec:Int→List Nat}
theorem Ywi {n:Nd} (h:(Zfa k sp n).1 < 0) (hm:∀ l,k.most l < 0 ∨ True):(Zfa k sp n).2=Ykj ∨ (Zfa k sp n).2=Zzj ∨ ∃ x,k.cand n=[x]∧x < 0:=by
 unfold Zfa at *
 split
 ·exact .inl rfl
 ·rename_i x hx; rw [hx] at h; simp only at h; exact .inr (.inr ⟨x,hx,h⟩)
 ·rename_i h1 h2
  split
  ·rename_i hc
   simp only [Bool.and_eq_true,decide_eq_true_eq] at hc
   split at h
   ·rename_i hx; exact absurd hx h1
   ·rename_i x hx; exact absurd hx (h2 x)
   ·rw [if_pos (by simpa using hc)] at h; simp only at h; omega
  ·exact .inr (.inl rfl)
theorem Ylk {g:List Nd→Nd→Fnd × List Nd} (hg:∀ a m y x,(g a m).1=.no y x→Yzz y):∀ (l:List Nd) (z:(Fnd × List Nd) × Nat),(∀ y x,z.1.1=.no y x→Yzz y)→∀ y x,(l.foldl (Zgf g) z).1.1=.no y x→Yzz y
 | [],z,h,y,x,hy=>h y x hy
 | m :: l,z,h,y,x,hy=>by
  simp only [List.foldl_cons] at hy
  refine Ylk hg l _ (fun y x hy=>?_) y x hy
  obtain ⟨⟨r,a⟩,q⟩:=z
  cases r with
  | no y' n=>exact h y x hy
  | ok out=>
   unfold Zgf at hy
   simp only at hy
   rcases hgm:g a m with ⟨d,a'⟩
   rw [hgm] at hy
   cases d with
   | no y' n=>simp only [Fnd.no.injEq] at hy; obtain ⟨rfl,rfl⟩:=hy; exact hg a m _ _ (by rw [hgm])
   | ok d=>cases hy
theorem Ypn (hk:∀ n x,x∈k.cand n→0≤x):∀ (f:Nat) (asked:List Nd) (n:Nd) (y:List Nat) (x:Nd),(Zli k sp dec f asked n).1=.no y x→Yzz y
 | f,asked,n,y,x,h=>by
  by_cases h3:300≤asked.length
  ·rw [Zpd h3] at h; cases h; exact .inl rfl
  ·match f with
   | 0=>rw [Zpc h3] at h; cases h; exact .inr (.inl rfl)
   | f + 1=>
    by_cases hx:(Zfa k sp n).1 < 0
    ·rw [Zmf h3 hx] at h
     cases h
     rcases Ywi hx (fun _=>.inr trivial) with e | e | ⟨x,hc,hx0⟩
     ·rw [e]; exact .inr (.inr (.inl rfl))
     ·rw [e]; exact .inr (.inr (.inr (.inl rfl)))
     ·have:=hk n x (by rw [hc]; simp); omega
    ·cases hn:k.needs (Zfa k sp n).1 n.2 with
     | none=>rw [Zse h3 hx hn] at h; cases h; exact .inr (.inr (.inr (.inr rfl)))
     | some ms=>
      rw [Zvg h3 hx hn] at h
      have key:=Ylk (g:=Zli k sp dec f) (fun a m y x hy=>Ypn hk f a m y x hy) ms ((.ok (dec (Zfa k sp n).1),asked ++ [n]),0) (fun y x hy=>by cases hy)
      generalize (ms.foldl (Zgf (Zli k sp dec f)) ((.ok (dec (Zfa k sp n).1),asked ++ [n]),0)).1=z at h key
      obtain ⟨r,a⟩:=z
      cases r with
      | ok out=>cases h
      | no y' x'=>exact key y x h
end
theorem Yyi {y:List Nat} (h:Yzz y):y≠[]:=by rcases h with rfl | rfl | rfl | rfl | rfl <;> decide
end Go.Sim

set_option linter.unusedSimpArgs false
set_option linter.unusedVariables false
namespace Go.Sim
section
variable {k:Wk} {sp:Bool} {dec:Int→List Nat}
theorem Ymj (P:Nd→Prop) {g:List Nd→Nd→Fnd × List Nd} (hg:∀ a m,P m→(∀ x∈a,P x)→∀ x∈(g a m).2,P x):∀ (l:List Nd) (z:(Fnd × List Nd) × Nat),(∀ m∈l,P m)→(∀ x∈z.1.2,P x)→∀ x∈(l.foldl (Zgf g) z).1.2,P x
 | [],z,_,h=>h
 | m :: l,z,hl,h=>by
  simp only [List.foldl_cons]
  refine Ymj P hg l _ (fun m hm=>hl m (List.mem_cons_of_mem _ hm)) ?_
  obtain ⟨⟨r,a⟩,q⟩:=z
  cases r with
  | no y' n=>exact h
  | ok out=>
   have:=hg a m (hl m List.mem_cons_self) h
   unfold Zgf
   simp only
   rcases hgm:g a m with ⟨d,a'⟩
   rw [hgm] at this
   cases d with
   | no y' n=>exact this
   | ok d=>exact this
theorem Yqf (P:Nd→Prop) (hP:∀ n ms,P n→¬ (Zfa k sp n).1 < 0→k.needs (Zfa k sp n).1 n.2=some ms→∀ m∈ms,P m) :
  ∀ (f:Nat) (asked:List Nd) (n:Nd),P n→(∀ x∈asked,P x)→∀ x∈(Zli k sp dec f asked n).2,P x
 | f,asked,n,hn0,ha=>by
  have h1:∀ x∈asked ++ [n],P x:=fun x hx=>by
   rcases List.mem_append.1 hx with hx | hx
   ·exact ha x hx
   ·rw [List.mem_singleton.1 hx]; exact hn0
  by_cases h3:300≤asked.length
  ·rw [Zpd h3]; exact ha
  ·match f with
   | 0=>rw [Zpc h3]; exact h1
   | f + 1=>
    by_cases hx:(Zfa k sp n).1 < 0
    ·rw [Zmf h3 hx]; exact h1
    ·cases hn:k.needs (Zfa k sp n).1 n.2 with
     | none=>rw [Zse h3 hx hn]; exact h1
     | some ms=>
      rw [Zvg h3 hx hn]
      have key:=Ymj P (g:=Zli k sp dec f) (fun a m hm h=>Yqf P hP f a m hm h) ms ((.ok (dec (Zfa k sp n).1),asked ++ [n]),0) (hP n ms hn0 hx hn) h1
      generalize (ms.foldl (Zgf (Zli k sp dec f)) ((.ok (dec (Zfa k sp n).1),asked ++ [n]),0)).1=z at key ⊢
      obtain ⟨r,a⟩:=z
      cases r with
      | ok out=>exact key
      | no y' x'=>exact key
end
end Go.Sim

set_option linter.unusedVariables false
set_option linter.unusedSimpArgs false
set_option maxRecDepth 20000
namespace Go.Sim
open Go Go.RowKit

theorem Yuy {w:Wd} {n:Nd} (h:¬ (Zfa (wk w) false n).1 < 0):∃ k:Nat,(Zfa (wk w) false n).1=k∧k < w.is.length:=by
 unfold Zfa at h ⊢
 have e:(wk w).cand n=Zjl w n:=rfl
 rw [e] at h ⊢
 match hcw:Zjl w n with
 | []=>rw [hcw] at h; simp at h
 | [x]=>
  obtain ⟨k,hk,hxk,_⟩:=Yji (f:=Zpa n) (l:=w.is) (x:=x) (show x∈Zjl w n by rw [hcw]; simp)
  exact ⟨k,hxk,hk⟩
 | x :: y :: r=>rw [hcw] at h; simp at h
theorem Yxu {w:Wd} {nd:Nd}:∀ x∈Zwg w nd false,Zdq w x=true:=by
 unfold Zwg
 split
 ·rename_i hc
  simp only [Bool.and_eq_true] at hc
  refine Yqf (fun x=>Zdq w x=true) (fun n ms hn hx hms=>?_) 31 [] nd hc.2 (fun x hx=>by cases hx)
  obtain ⟨k,hk,hkl⟩:=Yuy hx
  rw [hk] at hms
  exact (Yco hc.1 hkl (by have:=hms; rw [show (wk w).needs (k:Int) n.2=Zjg (Zpe w (k:Int)) n.2 from rfl,Zxh hkl] at this; exact this)).2
 ·intro x hx; cases hx
theorem Ywg {w:Wd} {nd:Nd} {sp:Bool}:(Zwg w nd sp).length≤300:=by
 unfold Zwg
 split
 ·exact (Ybo (k:=wk w) (sp:=sp) (dec:=Zqx) (fun x=>by simp [Zqx]) 31 [] nd (by simp)).2.1
 ·simp
theorem Ypy {w:Wd} {nd:Nd} {sp:Bool} (h:(Zcz w && Zdq w nd)=true):∃ δ,Zwg w nd sp=nd :: δ:=by
 unfold Zwg
 rw [if_pos h]
 obtain ⟨δ,h1,h2⟩:=Yqy (k:=wk w) (sp:=sp) (dec:=Zqx) 31 [] nd
 obtain ⟨δ',rfl⟩:=h2 (by simp)
 exact ⟨δ',by rw [h1]; rfl⟩
theorem Yvi {w:Wd} {nd:Nd} {s:List Nat} (h:Zjz w nd false=.ok s):∀ x∈Zwg w nd false,Xbg w x=true:=by
 have hok:=Yxu (w:=w) (nd:=nd)
 unfold Zjz at h
 split at h
 ·rename_i hc
  intro x hx
  have hx2:=hok x hx
  unfold Zwg at hx
  rw [if_pos hc] at hx
  obtain ⟨δ,h1,h2⟩:=Yrj (k:=wk w) (sp:=false) (dec:=Zqx) 31 31 (Nat.le_refl _) [] nd s (Zli (wk w) false Zqx 31 [] nd).2 (Prod.ext h rfl)
  rw [h1] at hx
  obtain ⟨p,hp⟩:=h2 x (by simpa using hx)
  simp only [Bool.and_eq_true] at hc
  unfold Xbg Zjz
  rw [hc.1,hx2]
  simp only [Bool.and_self,if_true,hp,Yjh,decide_true]
 ·cases h
theorem Ysc {w:Wd} {nd m:Nd} {y:List Nat} (hc:(Zcz w && Zdq w nd)=true) (h:Zjz w nd false=.no y m):y=Yfr ∨ (Zwg w nd false).getLast?=some m:=by
 unfold Zjz at h
 unfold Zwg
 rw [if_pos hc] at h ⊢
 exact Yln 31 [] nd y m _ (Prod.ext h rfl)
def Ywp (w:Wd) (nd:Nd) (h:Zaa) (v:Zay) (h':Zaa):Prop:=Zbc h.length h h'∧∃ a n c e,v=.tup [.slice a n c e,.bool (Zcz w && Zdq w nd)]∧Row h'.length h' a (n * 2) (Zdb eP (Zwg w nd false))
theorem Yyd {h:Zaa} {b:Nat} {a:Pt} {n c:Nat} {e:Bool} {l:List Nd} (f:Ybg b h a n c l):Zak pg Zfn [.slice a n c e] h fun v h'=>h'=h∧∃ a' c' e',v=.slice a' n c' e'∧Row h.length h a' (n * 2) (Zdb eP l):=by
 apply Zhg.call
 have hr:=f.row
 have hnc:n≤c:=f.cap
 simp only [Zhw,Zlv]
 refine ⟨by omega,?_⟩
 split
 ·have h0:n=0:=by
   obtain ⟨h1,h2⟩:=hr
   rcases h2 with h2 | ⟨i,o,t,all,ro,ha,_⟩
   ·omega
   ·cases ha
  subst h0
  refine ⟨by simp,?_⟩
  simp only [Zaj]
  exact ⟨by trivial,_,_,_,rfl,by simpa using hr⟩
 ·rename_i j o
  have e1:(((n:Nat):Int) - 0).toNat=n:=by omega
  have e2:o + Int.toNat 0 * 2=o:=by simp
  refine ⟨fun hl=>?_,fun hl=>?_⟩
  ·simp only [Zaj,e1,e2]
   exact ⟨by trivial,_,_,_,rfl,hr⟩
  ·have h0:n=0:=by omega
   subst h0
   simp only [Zaj]
   refine ⟨by trivial,none,_,_,rfl,?_⟩
   have hl0:l=[]:=List.eq_nil_of_length_eq_zero f.len
   subst hl0
   simpa using Row.nil
theorem Ylb {h:Zaa} {a0 a1:Pt} {n0 c0 n1 c1:Nat} {e0 e1:Bool} {w:Wd} {nd:Nd} (r:Zkr h a0 n0 c0 a1 n1 c1 w) (b:WB w) :
  Zak pg Zpm [.agg [.slice a0 n0 c0 e0,.slice a1 n1 c1 e1],.agg [.str nd.1,.str nd.2]] h (Ywp w nd h):=by
 apply Ztw.call
 simp only [Zaw]
 generalize hh0:h ++ [Zcb.cells Zac [.slice a0 n0 c0 e0,.slice a1 n1 c1 e1] false]=h0
 generalize hh1:h0 ++ [Zcb.cells Zab [.str nd.1,.str nd.2] false]=h1
 have s0:Zbc h.length h h0:=by rw [← hh0]; exact Zal
 have s1:Zbc h0.length h0 h1:=by rw [← hh1]; exact Zal
 have w0:h0[h.length]?=some (.cells Zac [.slice a0 n0 c0 e0,.slice a1 n1 c1 e1] false):=by rw [← hh0]; simp
 have w1:=s1.get w0 (Own.lt w0)
 have p1:h1[h0.length]?=some (.cells Zab [.str nd.1,.str nd.2] false):=by rw [← hh1]; simp
 rw [Zaz w1,Zaz p1]
 simp only [Zao,Zae,Zam,Zaj,Zah]
 refine (Zvw (nd:=nd) (sp:=false) (r.same (s0.cat s1)) b).mono ?_
 rintro v h2 ⟨i,fl,x4,x7,rfl,s2,ho,_,hno,qa,qn,qc,qe,rfl,hv⟩
 have hw:decide (Yjh (Zjz w nd false)=Zty)=!(Zcz w && Zdq w nd):=by
  cases hf:Zjz w nd false with
  | ok s=>
   have:(Zcz w && Zdq w nd)=true:=by
    cases hc:Zcz w && Zdq w nd with
    | true=>rfl
    | false=>unfold Zjz at hf; rw [hc] at hf; cases hf
   rw [this]; rfl
  | no y m=>
   rcases (hno y m hf).2 with ⟨hc,rfl⟩ | ⟨hc,hy,_⟩
   ·rw [hc]; rfl
   ·rw [hc]; simp [Yjh,hy]
 have S2:=(s0.cat s1).cat s2
 simp only [Zco,Zae,Zer,Zah,Zam]
 refine Zar (fun hy=>?_) (fun hy=>?_)
 ·have hno:(Zcz w && Zdq w nd)=false:=by
   have:decide (Yjh (Zjz w nd false)=Zty)=true:=decide_eq_true hy
   rw [this] at hw
   cases hq:(Zcz w && Zdq w nd) with
   | false=>rfl
   | true=>rw [hq] at hw; cases hw
  exact ⟨S2,none,0,0,true,by rw [hno],by unfold Zwg; rw [hno]; simpa using Row.nil⟩
 ·have hyes:(Zcz w && Zdq w nd)=true:=by
   have:decide (Yjh (Zjz w nd false)=Zty)=false:=decide_eq_false hy
   rw [this] at hw
   cases hq:(Zcz w && Zdq w nd) with
   | true=>rfl
   | false=>rw [hq] at hw; cases hw
  simp only [Zau,Zan ho,Nat.zero_add,List.getElem?_cons_succ,List.getElem?_cons_zero,Zaj]
  refine (Yyd hv).mono ?_
  rintro v h3 ⟨rfl,a',c',e',rfl,hr⟩
  simp only [Zaj]
  exact ⟨S2,_,_,_,_,by rw [hyes],hr⟩
theorem Yhn {h:Zaa} {a0 a1:Pt} {n0 c0 n1 c1:Nat} {e0 e1:Bool} {w:Wd} {nd:Nd} (r:Zkr h a0 n0 c0 a1 n1 c1 w) (b:WB w) (hnt:nd.2.length≤1048576) :
  Zak pg Zpi [.agg [.slice a0 n0 c0 e0,.slice a1 n1 c1 e1],.agg [.str nd.1,.str nd.2]] h (Ywp w nd h):=by
 apply Ztr.call
 simp only [Zaw]
 generalize hh0:h ++ [Zcb.cells Zac [.slice a0 n0 c0 e0,.slice a1 n1 c1 e1] false]=h0
 generalize hh1:h0 ++ [Zcb.cells Zab [.str nd.1,.str nd.2] false]=h1
 have s0:Zbc h.length h h0:=by rw [← hh0]; exact Zal
 have s1:Zbc h0.length h0 h1:=by rw [← hh1]; exact Zal
 have l1:h1.length=h0.length + 1:=by rw [← hh1]; simp
 have l0:h0.length=h.length + 1:=by rw [← hh0]; simp
 have w0:h0[h.length]?=some (.cells Zac [.slice a0 n0 c0 e0,.slice a1 n1 c1 e1] false):=by rw [← hh0]; simp
 have w1:=s1.get w0 (Own.lt w0)
 have p1:h1[h0.length]?=some (.cells Zab [.str nd.1,.str nd.2] false):=by rw [← hh1]; simp
 rw [Zaz w1]
 simp only [Zao,Zae,Zam,Zaj]
 refine (Zyw (r.same (s0.cat s1)) b).mono ?_
 rintro v h2 ⟨b0,d0,f0,b1,d1,f1,ys,rfl,s2,fr,hd0,hd1,_⟩
 have w2:=s2.get w1 (Own.lt w1)
 have p2:=s2.get p1 (Own.lt p1)
 have S2:=(s0.cat s1).cat s2
 have l2:=s2.le
 simp only [Zdt,Zae,Zaj,Zam]
 rw [Zbg w2 (by simp)]
 simp only [Zas,putRow,List.take_zero,List.length_cons,List.length_nil,List.drop_succ_cons,List.drop_zero,List.drop_nil,List.cons_append,List.nil_append,List.append_nil,Nat.zero_add]
 have w3:=Zce w2 (x:=.cells Zac [.slice b0 n0 d0 f0,.slice b1 n1 d1 f1] false)
 have p3:(h2.set h.length (.cells Zac [.slice b0 n0 d0 f0,.slice b1 n1 d1 f1] false))[h0.length]?=some (.cells Zab [.str nd.1,.str nd.2] false):=by rw [Zbw (by omega)]; exact p2
 have fr3:=fr.mid (lo:=h.length) (hi:=h1.length) (h':=h2.set h.length (.cells Zac [.slice b0 n0 d0 f0,.slice b1 n1 d1 f1] false)) ((Mid.refl _ _ _).set (by omega) (by omega)) (by omega)
 have S3:Zbc h.length h (h2.set h.length (.cells Zac [.slice b0 n0 d0 f0,.slice b1 n1 d1 f1] false)):=⟨by simp; exact S2.le,fun j hj=>by rw [Zbw (by omega)]; exact S2.eq j hj⟩
 generalize h2.set h.length (.cells Zac [.slice b0 n0 d0 f0,.slice b1 n1 d1 f1] false)=h3 at w3 p3 fr3 S3 ⊢
 rw [Zaz w3,Zaz p3]
 simp only [Zao,Zae,Zam,Zaj,Zah]
 refine (Ync (sp:=false) (nd:=nd) (fr3.rep hd0 hd1) b hnt).mono ?_
 rintro v h4 ⟨i,x3,sa,sn,sc,se,st,rfl,s4,ho,_,_,qa,qn,qc,qe,rfl,hv⟩
 simp only [Zco,Zae,Zer,Zah,Zam,Zaq,Zau,Zan ho,Nat.zero_add,List.getElem?_cons_succ,List.getElem?_cons_zero,Zaj]
 exact ⟨S3.cat s4,_,_,_,_,rfl,hv.row⟩
end Go.Sim
