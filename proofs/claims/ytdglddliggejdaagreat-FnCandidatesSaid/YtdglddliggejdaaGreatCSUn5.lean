/- A part of the proof of a statement of this seat: see the text that holds the theorem. No condition. -/
import Derived.Test.YtdglddliggejdaaGreatPTCMatch
import Derived.Test.YtdglddliggejdaaGreatCSUn
import Derived.Test.YtdglddliggejdaaGreatNm
import Derived.Test.YtdglddliggejdaaGreatPTCSApply2
import Derived.Test.YtdglddliggejdaaGreatCSMatch
set_option linter.unusedVariables false
set_option linter.unusedSimpArgs false
set_option linter.all false
set_option linter.unusedVariables false
set_option linter.unusedSimpArgs false
set_option maxRecDepth 20000
namespace Go.Sim
open Go Go.RowKit

theorem Yru {h h':Zaa} {a:Pt} {m:Nat} {cs:List Zas} (r:Row h.length h a m cs) (hl:h.length≤h'.length) (hh:∀ j o,m≠0→a=some (j,o)→j < h.length→h'[j]?=h[j]?):Row h'.length h' a m cs:=by
 obtain ⟨hc,r⟩:=r
 by_cases h0:m=0
 ·exact ⟨hc,.inl h0⟩
 ·refine ⟨hc,r.imp id ?_⟩
  rintro ⟨i,o,t,all,ro,ha,hi,hg,x⟩
  exact ⟨i,o,t,all,ro,ha,by omega,by rw [hh i o h0 ha hi]; exact hg,x⟩
theorem Ykd {f:Ty→Bool} {l:List Ty} {g:Nat} (hg:g < l.length):(l.take (g + 1)).any f=((l.take g).any f || f l[g]):=by
 rw [List.take_succ_eq_append_getElem hg,List.any_append]; simp
def Zsu (c:Nat):Nat:=(Zqx Zgm c).toNat
theorem Yrm {a b:Ty} (ha:okL Ztl a=true) (hb:okL Ztl b=true) (h:a.hd=b.hd):a.ps.length=b.ps.length:=by
 have no:∀ c,Ztl c=true→c≠108∧c≠109∧c≠112:=fun c hc=>⟨fun e=>by rw [e] at hc; exact absurd hc (by decide),fun e=>by rw [e] at hc; exact absurd hc (by decide),fun e=>by rw [e] at hc; exact absurd hc (by decide)⟩
 cases a with
 | k c=>
  have:=no c ha
  cases b with
  | k d=>rfl
  | u d y=>simp only [okL,Bool.and_eq_true,Bool.or_eq_true,beq_iff_eq,Ty.hd] at hb h; omega
  | w d y z=>simp only [okL,Bool.and_eq_true,beq_iff_eq,Ty.hd] at hb h; omega
 | u c x=>
  cases b with
  | k d=>have:=no d hb; simp only [okL,Bool.and_eq_true,Bool.or_eq_true,beq_iff_eq,Ty.hd] at ha h; omega
  | u d y=>rfl
  | w d y z=>simp only [okL,Bool.and_eq_true,Bool.or_eq_true,beq_iff_eq,Ty.hd] at ha hb h; omega
 | w c x y=>
  cases b with
  | k d=>have:=no d hb; simp only [okL,Bool.and_eq_true,beq_iff_eq,Ty.hd] at ha h; omega
  | u d y=>simp only [okL,Bool.and_eq_true,Bool.or_eq_true,beq_iff_eq,Ty.hd] at ha hb h; omega
  | w d y z=>rfl
section
variable {S:Nat→Prop} {i:Nat} {σ:Nat→Option Ty} {F:Nat→Ty}
theorem Yey (rs:Rsv V12 σ F) (hdom:∀ c u,σ c=some u→V12 c=true∧okL Ztl u=true) {v:Nat} (hv:V12 v=true) (hv0:σ v=none):∀ (M:Nat) {h:Zaa} {t:Ty} {vs:List Zas},(sb V12 F t).size≤M→Zsn S h i σ→(∀ j,S j→j < h.length∧j≠i)→okL Ztl t=true→Zew S h t vs →
  Zah pg Zdt [.ptr (some (i,0)),.int .u8 (v:Int),.agg vs] h fun x h'=>x=.bool (occ v (sb V12 F t))∧Zbe h.length h h':=by
 intro M
 induction M with
 | zero=>intro h t vs hM; have:=Zuc (sb V12 F t); omega
 | succ M ih=>
 intro h t vs hM m hSi ht r
 obtain ⟨a,c,e,rfl⟩:=r.shape
 obtain ⟨n,t',hw,ht',heq⟩:=rs.walked (fun t=>okL Ztl t=true) (fun c t h=>(hdom c t h).2) ht
 have hend:=hw.end_
 have hil:=m.lt
 apply Zhl.call
 simp only [Zax]
 generalize hh0:h ++ [Zcc.cells Zab [.int .u8 (t.hd:Int),.slice a t.ps.length c e] false]=h0
 have s0:Zbe h.length h h0:=by rw [← hh0]; exact Zao
 have o0:h0[h.length]?=some (.cells Zab [.int .u8 (t.hd:Int),.slice a t.ps.length c e] false):=by rw [← hh0]; simp
 have l0:h0.length=h.length + 1:=by rw [← hh0]; simp
 rw [Zbk o0]
 simp only [Zau,Zaj,Zar,Zaq,Zaf]
 refine (Zsv (m.same s0) (fun j hj=>⟨by have:=(hSi j hj).1; omega,(hSi j hj).2⟩) hdom ht hw (r.same s0)).mono ?_
 rintro v1 h1 ⟨s1,vs1,rfl,r1⟩
 obtain ⟨a1,c1,e1,vts,rfl,row1,hS1,hvl,hvp⟩:=r1.parts
 have o1:=s1.get o0 (Own.lt o0)
 have hl1:=s1.le
 simp only [Zde,Zaj,Zar,Zaq,Zaf]
 rw [Zba o1 (by simp)]
 simp only [Zat,putRow,List.take_zero,List.length_cons,List.length_nil,List.drop_succ_cons,List.drop_zero,List.drop_nil,List.cons_append,List.nil_append,List.append_nil,Nat.zero_add]
 generalize hh2:h1.set h.length (.cells Zab [.int .u8 (t'.hd:Int),.slice a1 t'.ps.length c1 e1] false)=h2
 have o2:h2[h.length]?=some (.cells Zab [.int .u8 (t'.hd:Int),.slice a1 t'.ps.length c1 e1] false):=by rw [← hh2]; exact Zbv o1
 have l2:h2.length=h1.length:=by rw [← hh2]; simp
 have k2:∀ j,j≠h.length→h2[j]?=h1[j]?:=fun j hj=>by rw [← hh2]; exact Zbl fun e=>hj e.symm
 have S2:Zbe h.length h h2:=⟨by omega,fun j hj=>by rw [k2 j (by omega),s1.eq j (by omega)]; exact s0.eq j hj⟩
 have row2:Row h2.length h2 a1 (t'.ps.length * 2) vts.flatten:=Yru row1 (by omega) fun j o h0 ha _=>k2 j (by have:=(hSi j (hS1 j o (by omega) ha)).1; omega)
 have hvp2:∀ (k:Nat) (w:List Zas) (x:Ty),vts[k]?=some w→t'.ps[k]?=some x→Zew S h2 x w:=fun k w x h1' h2'=>(hvp k w x h1' h2').agree fun j hj=>k2 j (by have:=(hSi j hj).1; omega)
 simp only [Zak o2,List.getElem?_cons_zero,List.getElem?_cons_succ,Zaq,Zaf]
 rw [heq]
 refine Zcs (fun he=>?_) (fun hne=>?_)
 ·have hh:t'.hd=v:=by omega
  have:=Zos ht' (by rw [hh]; exact hv)
  rw [hh] at this
  rw [this,rs.var hv0]
  exact ⟨by simp [occ],S2⟩
 ·have hne':t'.hd≠v:=fun e=>hne (by rw [e])
  have hany:occ v (sb V12 F t')=t'.ps.any fun p=>occ v (sb V12 F p):=by
   cases hv':V12 t'.hd with
   | false=>exact Yee (.inr hv') hv F
   | true=>
    have hk:=Zos ht' hv'
    rw [hk]
    have hno:=hend t'.hd hk
    rw [rs.var hno]
    simp [occ,Ty.ps,hne']
  rw [hany]
  refine Zhl.L5ind (J:=fun (g:Nat) x19 h'=>x19=(g:Int)∧g≤t'.ps.length∧Zbe h2.length h2 h'∧(t'.ps.take g).any (fun p=>occ v (sb V12 F p))=false) (m:=fun g=>t'.ps.length - g) (hr:=?_) (g:=0) (hj:=⟨rfl,by omega,Zbe.refl _ _,by simp⟩)
  rintro g x19 h3 ⟨rfl,hg,S3,hk⟩ R hR
  unfold Zhl.L5t
  refine Zav (fun hlt=>?_) (fun hge=>?_)
  ·have hg':g < t'.ps.length:=by omega
   obtain ⟨j,o,a2,c2,e2,rfl,hr,hkr⟩:=Zew.get (row2.same' S3) hvl (fun k w x h1 h2=>(hvp2 k w x h1 h2).same S3) hg'
   simp only [Zaw,Int.toNat_natCast,hr,Zau,Zaj,Zar,Zaq,Zaf,Zax]
   rw [Zgk]
   simp only [Zat]
   rw [Yfm]
   simp only [Zau,Zaj,Zar,Zaq,Zaf]
   have hm:=List.getElem_mem hg'
   have hsz:=Zqc (V:=V12) hm F
   rw [heq] at hM
   have hps2:t'.ps.length≤2:=by cases t' <;> simp [Ty.ps]
   have s4:Zbe h3.length h3 (h3 ++ [.cells Zab [.int .u8 (t'.ps[g].hd:Int),.slice a2 t'.ps[g].ps.length c2 e2] false]):=Zao
   have SS:=(S2.cat S3).cat s4
   refine ⟨by omega,(ih (by omega) (m.same SS) (fun j hj=>⟨by have:=(hSi j hj).1; have:=SS.le; omega,(hSi j hj).2⟩) (Ykw ht' _ hm) (hkr.same s4)).mono ?_⟩
   rintro x h5 ⟨rfl,s5⟩
   simp only [Zap]
   refine Zdb (fun hb=>?_) (fun hb=>?_)
   ·refine ⟨?_,SS.cat s5⟩
    have:(t'.ps.any fun p=>occ v (sb V12 F p))=true:=List.any_eq_true.2 ⟨_,hm,hb⟩
    rw [this]
   ·rw [Zbt (by omega)]
    exact hR (g + 1) _ _ (by omega) ⟨rfl,by omega,(S3.cat s4).cat s5,by rw [Ykd hg',hk,hb]; rfl⟩
  ·apply Zhl.A5x0i
   have:g=t'.ps.length:=by omega
   subst this
   rw [List.take_length] at hk
   exact ⟨by rw [hk],S2.cat S3⟩
def Zqr (S:Nat→Prop) (i:Nat) (P:Ty→Prop) (σ:Nat→Option Ty) (F:Nat→Ty) (a b:Ty) (h:Zaa) (v:Zas) (h':Zaa):Prop:=
 Zdp i h h'∧((v=.bool true∧∃ σ' F',Zsn S h' i σ'∧Rsv V12 σ' F'∧(∀ θ,Sol V12 σ' θ ↔ Sol V12 σ θ∧sb V12 θ a=sb V12 θ b)∧Inc Zsu V12 σ'∧(∀ c t,σ' c=some t→P (.k c)∧P t)∧((σ'=σ∧F'=F) ∨ unb Zgm σ' < unb Zgm σ)) ∨
  (v=.bool false∧∀ θ,Sol V12 σ θ→sb V12 θ a≠sb V12 θ b))
theorem Zqr.walk {P:Ty→Prop} (rs:Rsv V12 σ F) {a b a' b':Ty} {n n':Nat} (hw:Wlk σ n a a') (hw':Wlk σ n' b b') {h h':Zaa} {v:Zas} (u:Zqr S i P σ F a' b' h v h'):Zqr S i P σ F a b h v h':=by
 have key:∀ θ,Sol V12 σ θ→(sb V12 θ a=sb V12 θ b ↔ sb V12 θ a'=sb V12 θ b'):=fun θ hs=>by rw [hw.sbS rs hs,hw'.sbS rs hs]
 obtain ⟨K,u⟩:=u
 refine ⟨K,u.imp ?_ ?_⟩
 ·rintro ⟨e,σ',F',h1,h2,h3,h4⟩
  exact ⟨e,σ',F',h1,h2,fun θ=>(h3 θ).trans (and_congr_right fun hs=>(key θ hs).symm),h4⟩
 ·rintro ⟨e,h1⟩
  exact ⟨e,fun θ hs he=>h1 θ hs ((key θ hs).1 he)⟩
theorem Zqr.symm {P:Ty→Prop} {a b:Ty} {h h':Zaa} {v:Zas} (u:Zqr S i P σ F a b h v h'):Zqr S i P σ F b a h v h':=by
 obtain ⟨K,u⟩:=u
 refine ⟨K,u.imp ?_ ?_⟩
 ·rintro ⟨e,σ',F',h1,h2,h3,h4⟩
  exact ⟨e,σ',F',h1,h2,fun θ=>(h3 θ).trans (and_congr_right fun _=>eq_comm),h4⟩
 ·rintro ⟨e,h1⟩
  exact ⟨e,fun θ hs he=>h1 θ hs he.symm⟩
end
end Go.Sim

set_option linter.unusedVariables false
set_option linter.unusedSimpArgs false
set_option maxRecDepth 20000
namespace Go.Sim
open Go Go.RowKit

def Zva (Q:QT) (a0:Pt) (l l0:Nat) (x_52 x_55:Int) (h_54:Zaa):Prop:=
 bcase (decide ((x_52:Int) ≥ 0)) (bcase ((x_52:Int) == x_55) (Q (.bool true) h_54) (bcase (decide ((x_52:Int) ≥ 0)) (bcase (decide ((x_55:Int) < 0)) (Zck .u8 (Zai h_54 (.ptr (some (l,0 + 0)))) fun x_56=>Zcb (Zan h_54 (.ptr (some (l0,0))) 2) fun cs_57=>Zag cs_57 fun c_58 r_59=>Zck .u8 (some c_58) fun x_60=>Zag r_59 fun c_61 r_62=>xSl (some c_61) fun a_63 n_64 c_65 e_66=>Zbu r_62 (Zah pg Zdt [.ptr a0,.int .u8 x_56,.agg [.int .u8 x_60,.slice a_63 n_64 c_65 e_66]] h_54 fun v_67 h_68=>
 Zbr (some v_67) fun b_69=>bcase b_69 (Q (.bool false) h_68) (Zbi a0 fun i_70 o_71=>Zcb (Zan h_68 (.ptr (some (l0,0))) 2) fun cs_72=>Zag cs_72 fun c_73 r_74=>Zck .u8 (some c_73) fun x_75=>Zag r_74 fun c_76 r_77=>xSl (some c_76) fun a_78 n_79 c_80 e_81=>Zbu r_77 ((0≤(x_52:Int)∧(x_52:Int) < (12:Nat))∧(Zbx (Zbb h_68 (.ptr (some (i_70,o_71 + (Int.toNat x_52) * 2))) [.int .u8 x_75,.slice a_78 n_79 c_80 e_81]) fun h_82=>Q (.bool true) h_82))))) (bcase (decide ((x_52:Int) < x_55)) (Zck .u8 (Zai h_54 (.ptr (some (l,0 + 0)))) fun x_83=>Zcb (Zan h_54 (.ptr (some (l0,0))) 2) fun cs_84=>Zag cs_84 fun c_85 r_86=>Zck .u8 (some c_85) fun x_87=>Zag r_86 fun c_88 r_89=>xSl (some c_88) fun a_90 n_91 c_92 e_93=>Zbu r_89 (Zah pg Zdt [.ptr a0,.int .u8 x_83,.agg [.int .u8 x_87,.slice a_90 n_91 c_92 e_93]] h_54 fun v_94 h_95=>
 Zbr (some v_94) fun b_96=>bcase b_96 (Q (.bool false) h_95) (Zbi a0 fun i_97 o_98=>Zcb (Zan h_95 (.ptr (some (l0,0))) 2) fun cs_99=>Zag cs_99 fun c_100 r_101=>Zck .u8 (some c_100) fun x_102=>Zag r_101 fun c_103 r_104=>xSl (some c_103) fun a_105 n_106 c_107 e_108=>Zbu r_104 ((0≤(x_52:Int)∧(x_52:Int) < (12:Nat))∧(Zbx (Zbb h_95 (.ptr (some (i_97,o_98 + (Int.toNat x_52) * 2))) [.int .u8 x_102,.slice a_105 n_106 c_107 e_108]) fun h_109=>Q (.bool true) h_109))))) (bcase (decide ((x_55:Int) ≥ 0)) (Zcb (Zan h_54 (.ptr (some (l0,0))) 2) fun cs_110=>Zag cs_110 fun c_111 r_112=>Zck .u8 (some c_111) fun x_113=>Zag r_112 fun c_114 r_115=>xSl (some c_114) fun a_116 n_117 c_118 e_119=>Zbu r_115 (Zcb (Zan h_54 (.ptr (some (l,0))) 2) fun cs_120=>Zag cs_120 fun c_121 r_122=>Zck .u8 (some c_121) fun x_123=>Zag r_122 fun c_124 r_125=>xSl (some c_124) fun a_126 n_127 c_128 e_129=>Zbu r_125 (Zah pg Zdn [.ptr a0,.agg [.int .u8 x_113,.slice a_116 n_117 c_118 e_119],.agg [.int .u8 x_123,.slice a_126 n_127 c_128 e_129]] h_54 fun v_130 h_131=>
 Zbr (some v_130) fun b_132=>Q (.bool b_132) h_131))) (Zck .u8 (Zai h_54 (.ptr (some (l,0 + 0)))) fun x_133=>Zck .u8 (Zai h_54 (.ptr (some (l0,0 + 0)))) fun x_134=>bcase (!((x_133:Int) == x_134)) (Q (.bool false) h_54) (Zeq.J15 Q l 0 a0 (l0) 0 h_54))))) (bcase (decide ((x_55:Int) ≥ 0)) (Zcb (Zan h_54 (.ptr (some (l0,0))) 2) fun cs_135=>Zag cs_135 fun c_136 r_137=>Zck .u8 (some c_136) fun x_138=>Zag r_137 fun c_139 r_140=>xSl (some c_139) fun a_141 n_142 c_143 e_144=>Zbu r_140 (Zcb (Zan h_54 (.ptr (some (l,0))) 2) fun cs_145=>Zag cs_145 fun c_146 r_147=>Zck .u8 (some c_146) fun x_148=>Zag r_147 fun c_149 r_150=>xSl (some c_149) fun a_151 n_152 c_153 e_154=>Zbu r_150 (Zah pg Zdn [.ptr a0,.agg [.int .u8 x_138,.slice a_141 n_142 c_143 e_144],.agg [.int .u8 x_148,.slice a_151 n_152 c_153 e_154]] h_54 fun v_155 h_156=>
 Zbr (some v_155) fun b_157=>Q (.bool b_157) h_156))) (Zck .u8 (Zai h_54 (.ptr (some (l,0 + 0)))) fun x_158=>Zck .u8 (Zai h_54 (.ptr (some (l0,0 + 0)))) fun x_159=>bcase (!((x_158:Int) == x_159)) (Q (.bool false) h_54) (Zeq.J15 Q l 0 a0 (l0) 0 h_54))))) (bcase (decide ((x_52:Int) ≥ 0)) (bcase (decide ((x_55:Int) < 0)) (Zck .u8 (Zai h_54 (.ptr (some (l,0 + 0)))) fun x_160=>Zcb (Zan h_54 (.ptr (some (l0,0))) 2) fun cs_161=>Zag cs_161 fun c_162 r_163=>Zck .u8 (some c_162) fun x_164=>Zag r_163 fun c_165 r_166=>xSl (some c_165) fun a_167 n_168 c_169 e_170=>Zbu r_166 (Zah pg Zdt [.ptr a0,.int .u8 x_160,.agg [.int .u8 x_164,.slice a_167 n_168 c_169 e_170]] h_54 fun v_171 h_172=>
 Zbr (some v_171) fun b_173=>bcase b_173 (Q (.bool false) h_172) (Zbi a0 fun i_174 o_175=>Zcb (Zan h_172 (.ptr (some (l0,0))) 2) fun cs_176=>Zag cs_176 fun c_177 r_178=>Zck .u8 (some c_177) fun x_179=>Zag r_178 fun c_180 r_181=>xSl (some c_180) fun a_182 n_183 c_184 e_185=>Zbu r_181 ((0≤(x_52:Int)∧(x_52:Int) < (12:Nat))∧(Zbx (Zbb h_172 (.ptr (some (i_174,o_175 + (Int.toNat x_52) * 2))) [.int .u8 x_179,.slice a_182 n_183 c_184 e_185]) fun h_186=>Q (.bool true) h_186))))) (bcase (decide ((x_52:Int) < x_55)) (Zck .u8 (Zai h_54 (.ptr (some (l,0 + 0)))) fun x_187=>Zcb (Zan h_54 (.ptr (some (l0,0))) 2) fun cs_188=>Zag cs_188 fun c_189 r_190=>Zck .u8 (some c_189) fun x_191=>Zag r_190 fun c_192 r_193=>xSl (some c_192) fun a_194 n_195 c_196 e_197=>Zbu r_193 (Zah pg Zdt [.ptr a0,.int .u8 x_187,.agg [.int .u8 x_191,.slice a_194 n_195 c_196 e_197]] h_54 fun v_198 h_199=>
 Zbr (some v_198) fun b_200=>bcase b_200 (Q (.bool false) h_199) (Zbi a0 fun i_201 o_202=>Zcb (Zan h_199 (.ptr (some (l0,0))) 2) fun cs_203=>Zag cs_203 fun c_204 r_205=>Zck .u8 (some c_204) fun x_206=>Zag r_205 fun c_207 r_208=>xSl (some c_207) fun a_209 n_210 c_211 e_212=>Zbu r_208 ((0≤(x_52:Int)∧(x_52:Int) < (12:Nat))∧(Zbx (Zbb h_199 (.ptr (some (i_201,o_202 + (Int.toNat x_52) * 2))) [.int .u8 x_206,.slice a_209 n_210 c_211 e_212]) fun h_213=>Q (.bool true) h_213))))) (bcase (decide ((x_55:Int) ≥ 0)) (Zcb (Zan h_54 (.ptr (some (l0,0))) 2) fun cs_214=>Zag cs_214 fun c_215 r_216=>Zck .u8 (some c_215) fun x_217=>Zag r_216 fun c_218 r_219=>xSl (some c_218) fun a_220 n_221 c_222 e_223=>Zbu r_219 (Zcb (Zan h_54 (.ptr (some (l,0))) 2) fun cs_224=>Zag cs_224 fun c_225 r_226=>Zck .u8 (some c_225) fun x_227=>Zag r_226 fun c_228 r_229=>xSl (some c_228) fun a_230 n_231 c_232 e_233=>Zbu r_229 (Zah pg Zdn [.ptr a0,.agg [.int .u8 x_217,.slice a_220 n_221 c_222 e_223],.agg [.int .u8 x_227,.slice a_230 n_231 c_232 e_233]] h_54 fun v_234 h_235=>
 Zbr (some v_234) fun b_236=>Q (.bool b_236) h_235))) (Zck .u8 (Zai h_54 (.ptr (some (l,0 + 0)))) fun x_237=>Zck .u8 (Zai h_54 (.ptr (some (l0,0 + 0)))) fun x_238=>bcase (!((x_237:Int) == x_238)) (Q (.bool false) h_54) (Zeq.J15 Q l 0 a0 (l0) 0 h_54))))) (bcase (decide ((x_55:Int) ≥ 0)) (Zcb (Zan h_54 (.ptr (some (l0,0))) 2) fun cs_239=>Zag cs_239 fun c_240 r_241=>Zck .u8 (some c_240) fun x_242=>Zag r_241 fun c_243 r_244=>xSl (some c_243) fun a_245 n_246 c_247 e_248=>Zbu r_244 (Zcb (Zan h_54 (.ptr (some (l,0))) 2) fun cs_249=>Zag cs_249 fun c_250 r_251=>Zck .u8 (some c_250) fun x_252=>Zag r_251 fun c_253 r_254=>xSl (some c_253) fun a_255 n_256 c_257 e_258=>Zbu r_254 (Zah pg Zdn [.ptr a0,.agg [.int .u8 x_242,.slice a_245 n_246 c_247 e_248],.agg [.int .u8 x_252,.slice a_255 n_256 c_257 e_258]] h_54 fun v_259 h_260=>
 Zbr (some v_259) fun b_261=>Q (.bool b_261) h_260))) (Zck .u8 (Zai h_54 (.ptr (some (l,0 + 0)))) fun x_262=>Zck .u8 (Zai h_54 (.ptr (some (l0,0 + 0)))) fun x_263=>bcase (!((x_262:Int) == x_263)) (Q (.bool false) h_54) (Zeq.J15 Q l 0 a0 (l0) 0 h_54))))
section
variable {S:Nat→Prop} {i:Nat} {σ:Nat→Option Ty} {F:Nat→Ty}
theorem Ztw {Q:QT} (rs:Rsv V12 σ F) (hdom:∀ c u,σ c=some u→V12 c=true∧okL Ztl u=true) {h:Zaa} {a b a' b':Ty} {n n':Nat} {va vb:List Zas} (m:Zsn S h i σ) (hSi:∀ j,S j→j < h.length∧j≠i) (hao:okL Ztl a=true) (hbo:okL Ztl b=true) (hw:Wlk σ n a a') (hw':Wlk σ n' b b') (ra:Zew S h a va) (rb:Zew S h b vb)
  (hK:∀ (hX:Zaa) (pa pb:Pt) (ca cb:Nat) (ea eb:Bool),Zbe h.length h hX→hX[h.length]?=some (.cells Zab [.int .u8 (a'.hd:Int),.slice pa a'.ps.length ca ea] false)→hX[h.length + 1]?=some (.cells Zab [.int .u8 (b'.hd:Int),.slice pb b'.ps.length cb eb] false) →
   Zew S hX a' [.int .u8 (a'.hd:Int),.slice pa a'.ps.length ca ea]→Zew S hX b' [.int .u8 (b'.hd:Int),.slice pb b'.ps.length cb eb]→Zsn S hX i σ→Zva Q (some (i,0)) h.length (h.length + 1) (Zqx Zgm a'.hd) (Zqx Zgm b'.hd) hX) :
  Zah pg Zdn [.ptr (some (i,0)),.agg va,.agg vb] h Q:=by
 obtain ⟨aa,ca,ea,rfl⟩:=ra.shape
 obtain ⟨ab,cb,eb,rfl⟩:=rb.shape
 have hil:=m.lt
 apply Zeq.call
 simp only [Zax]
 generalize hh0:h ++ [Zcc.cells Zab [.int .u8 (a.hd:Int),.slice aa a.ps.length ca ea] false]=h0
 generalize hh1:h0 ++ [Zcc.cells Zab [.int .u8 (b.hd:Int),.slice ab b.ps.length cb eb] false]=h1
 have s0:Zbe h.length h h0:=by rw [← hh0]; exact Zao
 have s1:Zbe h0.length h0 h1:=by rw [← hh1]; exact Zao
 have l0:h0.length=h.length + 1:=by rw [← hh0]; simp
 have l1:h1.length=h.length + 2:=by rw [← hh1]; simp [l0]
 have oa0:h0[h.length]?=some (.cells Zab [.int .u8 (a.hd:Int),.slice aa a.ps.length ca ea] false):=by rw [← hh0]; simp
 have oa:=s1.get oa0 (Own.lt oa0)
 have ob:h1[h0.length]?=some (.cells Zab [.int .u8 (b.hd:Int),.slice ab b.ps.length cb eb] false):=by rw [← hh1]; simp
 have S1:=s0.cat s1
 have hSi':∀ hX:Zaa,h.length≤hX.length→∀ j,S j→j < hX.length∧j≠i:=fun hX hl j hj=>⟨by have:=(hSi j hj).1; omega,(hSi j hj).2⟩
 rw [Zbk oa]
 simp only [Zau,Zaj,Zar,Zaq,Zaf]
 refine (Zsv (m.same S1) (hSi' h1 (by omega)) hdom hao hw (ra.same S1)).mono ?_
 rintro v h2 ⟨s2,va',rfl,ra2⟩
 obtain ⟨pa,pca,pea,rfl⟩:=ra2.shape
 have oa2:=s2.get oa (Own.lt oa)
 have ob2:=s2.get ob (Own.lt ob)
 have l2:=s2.le
 simp only [Zde,Zaj,Zar,Zaq,Zaf]
 rw [Zba oa2 (by simp)]
 simp only [Zat,putRow,List.take_zero,List.length_cons,List.length_nil,List.drop_succ_cons,List.drop_zero,List.drop_nil,List.cons_append,List.nil_append,List.append_nil,Nat.zero_add]
 generalize hh3:h2.set h.length (.cells Zab [.int .u8 (a'.hd:Int),.slice pa a'.ps.length pca pea] false)=h3
 have oa3:h3[h.length]?=some (.cells Zab [.int .u8 (a'.hd:Int),.slice pa a'.ps.length pca pea] false):=by rw [← hh3]; exact Zbv oa2
 have l3:h3.length=h2.length:=by rw [← hh3]; simp
 have k3:∀ j,j≠h.length→h3[j]?=h2[j]?:=fun j hj=>by rw [← hh3]; exact Zbl fun e=>hj e.symm
 have ob3:h3[h0.length]?=some (.cells Zab [.int .u8 (b.hd:Int),.slice ab b.ps.length cb eb] false):=by rw [k3 _ (by omega)]; exact ob2
 have S3:Zbe h.length h h3:=⟨by omega,fun j hj=>by rw [k3 j (by omega),s2.eq j (by omega)]; exact S1.eq j hj⟩
 rw [Zbk ob3]
 simp only [Zau,Zaj,Zar,Zaq,Zaf]
 refine (Zsv (m.same S3) (hSi' h3 (by omega)) hdom hbo hw' (rb.same S3)).mono ?_
 rintro v h4 ⟨s4,vb',rfl,rb4⟩
 obtain ⟨pb,pcb,peb,rfl⟩:=rb4.shape
 have oa4:=s4.get oa3 (Own.lt oa3)
 have ob4:=s4.get ob3 (Own.lt ob3)
 have l4:=s4.le
 simp only [Zde,Zaj,Zar,Zaq,Zaf]
 rw [Zba ob4 (by simp)]
 simp only [Zat,putRow,List.take_zero,List.length_cons,List.length_nil,List.drop_succ_cons,List.drop_zero,List.drop_nil,List.cons_append,List.nil_append,List.append_nil,Nat.zero_add]
 generalize hh5:h4.set h0.length (.cells Zab [.int .u8 (b'.hd:Int),.slice pb b'.ps.length pcb peb] false)=h5
 have ob5:h5[h0.length]?=some (.cells Zab [.int .u8 (b'.hd:Int),.slice pb b'.ps.length pcb peb] false):=by rw [← hh5]; exact Zbv ob4
 have l5:h5.length=h4.length:=by rw [← hh5]; simp
 have k5:∀ j,j≠h0.length→h5[j]?=h4[j]?:=fun j hj=>by rw [← hh5]; exact Zbl fun e=>hj e.symm
 have oa5:h5[h.length]?=some (.cells Zab [.int .u8 (a'.hd:Int),.slice pa a'.ps.length pca pea] false):=by rw [k5 _ (by omega)]; exact oa4
 have S5:Zbe h.length h h5:=⟨by omega,fun j hj=>by rw [k5 j (by omega),s4.eq j (by omega)]; exact S3.eq j hj⟩
 have ra5:Zew S h5 a' [.int .u8 (a'.hd:Int),.slice pa a'.ps.length pca pea]:=ra2.agree fun j hj=>by
  have:=(hSi j hj).1
  rw [S5.eq j this,← S3.eq j this,k3 j (by omega)]
 have rb5:Zew S h5 b' [.int .u8 (b'.hd:Int),.slice pb b'.ps.length pcb peb]:=rb4.agree fun j hj=>k5 j (by have:=(hSi j hj).1; omega)
 simp only [Zak oa5,Zak ob5,List.getElem?_cons_zero,Zaq]
 refine (Zki a'.hd).mono ?_
 rintro v h6 ⟨rfl,rfl⟩
 simp only [Zaq]
 refine ⟨by rw [Zak ob5]; rfl,?_⟩
 refine (Zki b'.hd).mono ?_
 rintro v h7 ⟨rfl,rfl⟩
 simp only [Zaq]
 rw [l0] at ob5
 refine ⟨by trivial,?_⟩
 have key:=hK h7 pa pb pca pcb pea peb S5 oa5 ob5 ra5 rb5 (m.same S5)
 unfold Zva at key
 rw [l0]
 simp only [Zak oa5,Zak ob5,Nat.zero_add,List.getElem?_cons_zero,Zaq] at key ⊢
 exact key
theorem Ztm {P:Ty→Prop} (rs:Rsv V12 σ F) (hi:Inc Zsu V12 σ) (hP:∀ t,P t→okL Ztl t=true) (hσ:∀ c t,σ c=some t→P (.k c)∧P t) {h:Zaa} {a b b':Ty} {x n n':Nat} {va vb:List Zas} (m:Zsn S h i σ) (hSi:∀ j,S j→j < h.length∧j≠i)
  (ha:P a) (hb:P b) (hx:P (.k x)) (hb':P b') (hw:Wlk σ n a (.k x)) (hw':Wlk σ n' b b') (hxv:V12 x=true) (hle:V12 b'.hd=true→Zsu x < Zsu b'.hd) (ra:Zew S h a va) (rb:Zew S h b vb) :
  Zah pg Zdn [.ptr (some (i,0)),.agg va,.agg vb] h (Zqr S i P σ F a b h):=by
 have hdom:∀ c u,σ c=some u→V12 c=true∧okL Ztl u=true:=fun c u h=>⟨rs.dom c u h,hP u (hσ c u h).2⟩
 have hx0:σ x=none:=hw.end_ x rfl
 have hbend:=hw'.end_
 have hbok:=hP b' hb'
 refine Zah.mono (Q:=Zqr S i P σ F (.k x) b' h) ?_ (fun v h' u=>u.walk rs hw hw')
 refine Ztw rs hdom m hSi (hP a ha) (hP b hb) hw hw' ra rb fun hX pa pb ca cb ea eb S5 oa ob ra5 rb5 mX=>?_
 obtain ⟨k,hk,hkv,hix⟩:=Zpn hxv
 have hrk:Zsu x=k:=by unfold Zsu; rw [hix]; rfl
 have hbc:∀ c,b'=.k c→σ c=none∧c≠x:=fun c e=>⟨hbend c e,fun e'=>by
  subst e'; subst e
  have:=hle (by simpa [Ty.hd] using hxv)
  simp [Ty.hd] at this⟩
 have hSX:∀ j,S j→j < hX.length∧j≠i:=fun j hj=>⟨by have:=(hSi j hj).1; have:=S5.le; omega,(hSi j hj).2⟩
 have hil:=m.lt
 have fin:∀ (Q:QT),(∀ v h',Zqr S i P σ F (.k x) b' h v h'→Q v h')→(Zck .u8 (Zai hX (.ptr (some (h.length,0 + 0)))) fun x_56=>Zcb (Zan hX (.ptr (some (h.length + 1,0))) 2) fun cs_57=>Zag cs_57 fun c_58 r_59=>Zck .u8 (some c_58) fun x_60=>Zag r_59 fun c_61 r_62=>xSl (some c_61) fun a_63 n_64 c_65 e_66=>Zbu r_62 (Zah pg Zdt [.ptr (some (i,0)),.int .u8 x_56,.agg [.int .u8 x_60,.slice a_63 n_64 c_65 e_66]] hX fun v_67 h_68=>
   Zbr (some v_67) fun b_69=>bcase b_69 (Q (.bool false) h_68) (Zbi (some (i,0)) fun i_70 o_71=>Zcb (Zan h_68 (.ptr (some (h.length + 1,0))) 2) fun cs_72=>Zag cs_72 fun c_73 r_74=>Zck .u8 (some c_73) fun x_75=>Zag r_74 fun c_76 r_77=>xSl (some c_76) fun a_78 n_79 c_80 e_81=>Zbu r_77 ((0≤((k:Nat):Int)∧((k:Nat):Int) < (12:Nat))∧(Zbx (Zbb h_68 (.ptr (some (i_70,o_71 + (Int.toNat (k:Int)) * 2))) [.int .u8 x_75,.slice a_78 n_79 c_80 e_81]) fun h_82=>Q (.bool true) h_82))))):=by
  intro Q hQ
  rw [Zbk ob]
  simp only [Zak oa,Nat.zero_add,List.getElem?_cons_zero,Zaq,Zau,Zaj,Zar,Zaf]
  refine (Yey rs hdom (v:=x) hxv hx0 _ (Nat.le_refl _) mX hSX hbok rb5).mono ?_
  rintro v h6 ⟨rfl,s6⟩
  have K6:Zdp i h h6:=⟨(S5.cat s6).le,fun j hj _=>(S5.cat s6).eq j hj⟩
  simp only [Zap]
  refine Zdb (fun ho=>?_) (fun ho=>?_)
  ·refine hQ _ _ ⟨K6,.inr ⟨rfl,fun θ hs he=>Ynf rs hx0 hxv hbc ho θ ⟨hs,?_⟩⟩⟩
   rw [← he,sb,if_pos hxv]
  ·have ob6:=s6.get ob (Own.lt ob)
   rw [Zbk ob6]
   obtain ⟨h7,hst,K7,m7⟩:=(mX.same s6).put (fun j hj=>(hSi j hj).2) hkv (rb5.same s6)
   simp only [Zaw,Zau,Zaj,Zar,Zaq,Zaf,Int.toNat_natCast]
   rw [hst]
   simp only [Zat]
   obtain ⟨r2,hsol⟩:=rs.bind hx0 hxv hbc ho
   refine ⟨by omega,hQ _ _ ⟨K6.trans K7,.inl ⟨rfl,_,_,m7,r2,fun θ=>?_,hi.bind fun d hd hdv=>?_,fun c t hc=>?_,.inr (Yrp hx0 (List.mem_of_getElem? hkv))⟩⟩⟩
   ·rw [hsol θ,sb,if_pos hxv]
   ·have:=hle (by rw [hd]; exact hdv)
    rw [hd] at this; exact this
   ·unfold upd at hc
    split at hc
    ·rename_i e; cases hc; rw [e]; exact ⟨hx,hb'⟩
    ·exact hσ c t hc
 unfold Zva
 have hix':Zqx Zgm (Ty.k x).hd=(k:Int):=hix
 rw [hix']
 refine Zav (fun _=>?_) (fun h=>absurd (by omega:(k:Int) ≥ 0) h)
 cases hv:V12 b'.hd with
 | false=>
  rw [Zwi hbok hv]
  refine Zcs (fun h=>by omega) (fun _=>?_)
  refine Zav (fun _=>?_) (fun h=>absurd (by omega:(k:Int) ≥ 0) h)
  refine Zav (fun _=>fin _ fun v h' u=>u) (fun h=>absurd (by omega) h)
 | true=>
  obtain ⟨k',hk',hkv',hix2⟩:=Zpn hv
  have hrk':Zsu b'.hd=k':=by unfold Zsu; rw [hix2]; rfl
  have hlt:=hle hv
  rw [hix2]
  refine Zcs (fun h=>by omega) (fun _=>?_)
  refine Zav (fun _=>?_) (fun h=>absurd (by omega:(k:Int) ≥ 0) h)
  refine Zav (fun h=>by omega) (fun _=>?_)
  refine Zav (fun _=>fin _ fun v h' u=>u) (fun h=>absurd (by omega) h)
end
end Go.Sim

set_option linter.unusedVariables false
set_option linter.unusedSimpArgs false
set_option maxRecDepth 20000
namespace Go.Sim
open Go Go.RowKit

theorem Yji {i:Nat} {h h':Zaa} (s:Zbe h.length h h'):Zdp i h h':=⟨s.le,fun j hj _=>s.eq j hj⟩
theorem You {h h':Zaa} {i j:Nat} {x:Zcc} (K:Zdp i h h') (hj:h[j]?=some x) (hi:j≠i):h'[j]?=some x:=by rw [K.eq j (Own.lt hj) hi]; exact hj
section
variable {S:Nat→Prop} {i:Nat} {P:Ty→Prop}
theorem Zqr.base {σ:Nat→Option Ty} {F:Nat→Ty} {a b:Ty} {h hX h':Zaa} {v:Zas} (s:Zbe h.length h hX) (u:Zqr S i P σ F a b hX v h'):Zqr S i P σ F a b h v h':=⟨(Yji s).trans u.1,u.2⟩
theorem Yjq (hP:∀ t,P t→okL Ztl t=true) (hPs:∀ t,P t→∀ p∈t.ps,P p):∀ (U K:Nat) {σ:Nat→Option Ty} {F:Nat→Ty} {h:Zaa} {a b:Ty} {va vb:List Zas},unb Zgm σ≤U→(sb V12 F a).size≤K→Rsv V12 σ F→Inc Zsu V12 σ→(∀ c t,σ c=some t→P (.k c)∧P t) →
  Zsn S h i σ→(∀ j,S j→j < h.length∧j≠i)→P a→P b→Zew S h a va→Zew S h b vb→Zah pg Zdn [.ptr (some (i,0)),.agg va,.agg vb] h (Zqr S i P σ F a b h):=by
 intro U
 induction U using Nat.strongRecOn with
 | ind U ihU=>
 intro K
 induction K using Nat.strongRecOn with
 | ind K ihK=>
 intro σ F h a b va vb hU hK rs hi hσ m hSi ha hb ra rb
 have hdom:∀ c u,σ c=some u→V12 c=true∧okL Ztl u=true:=fun c u h=>⟨rs.dom c u h,hP u (hσ c u h).2⟩
 obtain ⟨n,a',hw,ha',heqa⟩:=rs.walked P (fun c t h=>(hσ c t h).2) ha
 obtain ⟨n',b',hw',hb',heqb⟩:=rs.walked P (fun c t h=>(hσ c t h).2) hb
 have hao:=hP a' ha'
 have hbo:=hP b' hb'
 have haend:=hw.end_
 have hbend:=hw'.end_
 have hil:=m.lt
 cases hva:V12 a'.hd with
 | true=>
  have hak:=Zos hao hva
  obtain ⟨k,hk,hkv,hix⟩:=Zpn hva
  have hrk:Zsu a'.hd=k:=by unfold Zsu; rw [hix]; rfl
  cases hvb:V12 b'.hd with
  | false=>
   rw [hak] at hw
   exact Ztm rs hi hP hσ m hSi ha hb (by rw [← hak]; exact ha') hb' hw hw' hva (fun h=>by rw [hvb] at h; cases h) ra rb
  | true=>
   have hbk:=Zos hbo hvb
   obtain ⟨k',hk',hkv',hix'⟩:=Zpn hvb
   have hrk':Zsu b'.hd=k':=by unfold Zsu; rw [hix']; rfl
   rcases Nat.lt_trichotomy k k' with hlt | heq | hgt
   ·rw [hak] at hw
    exact Ztm rs hi hP hσ m hSi ha hb (by rw [← hak]; exact ha') hb' hw hw' hva (fun _=>by omega) ra rb
   ·have hab:a'=b':=by
     rw [heq,hkv'] at hkv
     rw [hak,hbk,Option.some.inj hkv]
    refine Zah.mono (Q:=Zqr S i P σ F a' b' h) ?_ (fun v h' u=>u.walk rs hw hw')
    refine Ztw rs hdom m hSi (hP a ha) (hP b hb) hw hw' ra rb fun hX pa pb ca cb ea eb S5 oa ob ra5 rb5 mX=>?_
    unfold Zva
    rw [hix,hix']
    refine Zav (fun _=>?_) (fun h=>absurd (by omega:(k:Int) ≥ 0) h)
    refine Zcs (fun _=>?_) (fun h=>absurd (by omega) h)
    exact ⟨Yji S5,.inl ⟨rfl,σ,F,mX,rs,fun θ=>⟨fun h=>⟨h,by rw [hab]⟩,And.left⟩,hi,hσ,.inl ⟨rfl,rfl⟩⟩⟩
   ·refine Zah.mono (Q:=Zqr S i P σ F a' b' h) ?_ (fun v h' u=>u.walk rs hw hw')
    refine Ztw rs hdom m hSi (hP a ha) (hP b hb) hw hw' ra rb fun hX pa pb ca cb ea eb S5 oa ob ra5 rb5 mX=>?_
    unfold Zva
    rw [hix,hix']
    refine Zav (fun _=>?_) (fun h=>absurd (by omega:(k:Int) ≥ 0) h)
    refine Zcs (fun h=>by omega) (fun _=>?_)
    refine Zav (fun _=>?_) (fun h=>absurd (by omega:(k:Int) ≥ 0) h)
    refine Zav (fun h=>by omega) (fun _=>?_)
    refine Zav (fun h=>by omega) (fun _=>?_)
    refine Zav (fun _=>?_) (fun h=>absurd (by omega) h)
    rw [Zbk oa,Zbk ob]
    simp only [Zau,Zaj,Zar,Zaq,Zaf]
    have hb2:=hb'
    rw [hbk] at hb2
    have wb:Wlk σ 0 b' (.k b'.hd):=by rw [← hbk]; exact .stop hbend
    refine (Ztm (S:=S) (va:=[.int .u8 (b'.hd:Int),.slice pb b'.ps.length cb eb]) (vb:=[.int .u8 (a'.hd:Int),.slice pa a'.ps.length ca ea]) rs hi hP hσ mX (fun j hj=>⟨by have:=(hSi j hj).1; have:=S5.le; omega,(hSi j hj).2⟩) hb' ha' hb2 ha' wb (.stop haend) hvb (fun _=>by omega) rb5 ra5).mono ?_
    rintro v h6 u
    have hu:=u.symm.base S5
    obtain ⟨_,⟨rfl,_⟩ | ⟨rfl,_⟩⟩:=id u
    ·simp only [Zap]; exact hu
    ·simp only [Zap]; exact hu
 | false=>
  refine Zah.mono (Q:=Zqr S i P σ F a' b' h) ?_ (fun v h' u=>u.walk rs hw hw')
  refine Ztw rs hdom m hSi (hP a ha) (hP b hb) hw hw' ra rb fun hX pa pb ca cb ea eb S5 oa ob ra5 rb5 mX=>?_
  have hSX:∀ j,S j→j < hX.length∧j≠i:=fun j hj=>⟨by have:=(hSi j hj).1; have:=S5.le; omega,(hSi j hj).2⟩
  unfold Zva
  rw [Zwi hao hva]
  refine Zav (fun h=>by omega) (fun _=>?_)
  refine Zav (fun h=>by omega) (fun _=>?_)
  cases hvb:V12 b'.hd with
  | true=>
   have hbk:=Zos hbo hvb
   obtain ⟨k',hk',hkv',hix'⟩:=Zpn hvb
   rw [hix']
   refine Zav (fun _=>?_) (fun h=>absurd (by omega) h)
   rw [Zbk oa,Zbk ob]
   simp only [Zau,Zaj,Zar,Zaq,Zaf]
   have hb2:=hb'
   rw [hbk] at hb2
   have wb:Wlk σ 0 b' (.k b'.hd):=by rw [← hbk]; exact .stop hbend
   refine (Ztm (S:=S) (va:=[.int .u8 (b'.hd:Int),.slice pb b'.ps.length cb eb]) (vb:=[.int .u8 (a'.hd:Int),.slice pa a'.ps.length ca ea]) rs hi hP hσ mX hSX hb' ha' hb2 ha' wb (.stop haend) hvb (fun h=>by rw [hva] at h; cases h) rb5 ra5).mono ?_
   rintro v h6 u
   have hu:=u.symm.base S5
   obtain ⟨_,⟨rfl,_⟩ | ⟨rfl,_⟩⟩:=id u
   ·simp only [Zap]; exact hu
   ·simp only [Zap]; exact hu
  | false=>
   rw [Zwi hbo hvb]
   refine Zav (fun h=>by omega) (fun _=>?_)
   simp only [Zak oa,Zak ob,Nat.zero_add,List.getElem?_cons_zero,Zaq]
   refine Zgi (fun hne=>?_) (fun he=>?_)
   ·exact ⟨Yji S5,.inr ⟨rfl,fun θ _=>Yoa (.inr hva) (.inr hvb) fun e=>hne (by rw [e])⟩⟩
   have hh:a'.hd=b'.hd:=by omega
   have hlen:=Yrm hao hbo hh
   have hps2:a'.ps.length≤2:=by cases a' <;> simp [Ty.ps]
   obtain ⟨_,_,_,vas,heqv,rowa,hSa,hval,hvas⟩:=id ra5.parts
   simp only [List.cons.injEq,Zas.slice.injEq,true_and,and_true] at heqv
   obtain ⟨rfl,rfl,rfl⟩:=heqv
   obtain ⟨_,_,_,vbs,heqv,rowb,hSb,hvbl,hvbs⟩:=id rb5.parts
   simp only [List.cons.injEq,Zas.slice.injEq,true_and,and_true] at heqv
   obtain ⟨rfl,rfl,rfl⟩:=heqv
   have hparts:∀ θ:Nat→Ty,sb V12 θ a'=sb V12 θ b' ↔ ∀ (j:Nat) (p q:Ty),a'.ps[j]?=some p→b'.ps[j]?=some q→sb V12 θ p=sb V12 θ q:=fun θ=>Yov (.inr hva) (.inr hvb) hh hlen
   apply Zeq.J15i
   simp only [Zak oa,Nat.zero_add,List.getElem?_cons_succ,List.getElem?_cons_zero,Zaf]
   refine Zeq.L16ind (J:=fun (g:Nat) x68 h'=>x68=(g:Int)∧g≤a'.ps.length∧Zdp i hX h'∧∃ σg Fg,Zsn S h' i σg∧Rsv V12 σg Fg∧(∀ θ,Sol V12 σg θ ↔ Sol V12 σ θ∧∀ (j:Nat) (p q:Ty),j < g→a'.ps[j]?=some p→b'.ps[j]?=some q→sb V12 θ p=sb V12 θ q)∧Inc Zsu V12 σg∧(∀ c t,σg c=some t→P (.k c)∧P t)∧((σg=σ∧Fg=F) ∨ unb Zgm σg < unb Zgm σ)) (m:=fun g=>a'.ps.length - g) (hr:=?_) (g:=0)
    (hj:=⟨rfl,by omega,Zdp.refl _ _,σ,F,mX,rs,fun θ=>⟨fun h=>⟨h,fun j p q hj=>by omega⟩,And.left⟩,hi,hσ,.inl ⟨rfl,rfl⟩⟩)
   rintro g x68 h3 ⟨rfl,hg,K3,σg,Fg,mg,rg,hsol,hig,hσg,hcase⟩ R hR
   unfold Zeq.L16t
   have hX5:=S5.le
   refine Zav (fun hlt=>?_) (fun hge=>?_)
   ·have hga:g < a'.ps.length:=by omega
    have hgb:g < b'.ps.length:=by omega
    have oa3:=You K3 oa (by omega)
    have ob3:=You K3 ob (by omega)
    obtain ⟨ja,ofa,a3,c3,e3,rfl,hra,hka⟩:=Zew.get (rowa.keepAt (i:=i) (fun j o h0 e=>(hSi j (hSa j o (by omega) e)).2) K3) hval (fun k w x h1 h2=>(hvas k w x h1 h2).keep fun j hj hl=>K3.eq j hl (hSi j hj).2) hga
    obtain ⟨jb,ofb,a4,c4,e4,rfl,hrb,hkb⟩:=Zew.get (rowb.keepAt (i:=i) (fun j o h0 e=>(hSi j (hSb j o (by omega) e)).2) K3) hvbl (fun k w x h1 h2=>(hvbs k w x h1 h2).keep fun j hj hl=>K3.eq j hl (hSi j hj).2) hgb
    simp only [Zak oa3,Zak ob3,Nat.zero_add,List.getElem?_cons_succ,List.getElem?_cons_zero,Zaf,Zaw,Int.toNat_natCast,hra,hrb,Zau,Zaj,Zar,Zaq,true_and]
    have hma:=List.getElem_mem hga
    have hmb:=List.getElem_mem hgb
    have hpg:a'.ps[g]?=some a'.ps[g]:=List.getElem?_eq_getElem hga
    have hqg:b'.ps[g]?=some b'.ps[g]:=List.getElem?_eq_getElem hgb
    have hS3:∀ j,S j→j < h3.length∧j≠i:=fun j hj=>⟨by have:=(hSX j hj).1; have:=K3.le; omega,(hSi j hj).2⟩
    have hrec:Zah pg Zdn [.ptr (some (i,0)),.agg [.int .u8 (a'.ps[g].hd:Int),.slice a3 a'.ps[g].ps.length c3 e3],.agg [.int .u8 (b'.ps[g].hd:Int),.slice a4 b'.ps[g].ps.length c4 e4]] h3 (Zqr S i P σg Fg a'.ps[g] b'.ps[g] h3):=by
     rcases hcase with ⟨rfl,rfl⟩ | hlt'
     ·have:=Zqc (V:=V12) hma Fg
      rw [heqa] at hK
      exact ihK _ (by omega) hU (Nat.le_refl _) rg hig hσg mg hS3 (hPs a' ha' _ hma) (hPs b' hb' _ hmb) hka hkb
     ·exact ihU (unb Zgm σg) (by omega) _ (Nat.le_refl _) (Nat.le_refl _) rg hig hσg mg hS3 (hPs a' ha' _ hma) (hPs b' hb' _ hmb) hka hkb
    refine ⟨by omega,by omega,hrec.mono ?_⟩
    rintro v h4 ⟨K4,⟨rfl,σ',F',m',r',hsol',hi',hσ',hc'⟩ | ⟨rfl,hno⟩⟩
    ·have oa4:=You K4 oa3 (by omega)
     simp only [Zap,Bool.not_true,Zbj,Zak oa4,List.getElem?_cons_succ,List.getElem?_cons_zero,true_and]
     rw [Zbt (by omega)]
     refine hR (g + 1) _ _ (by omega) ⟨rfl,by omega,K3.trans K4,σ',F',m',r',fun θ=>?_,hi',hσ',?_⟩
     ·rw [hsol' θ,hsol θ]
      constructor
      ·rintro ⟨⟨h1,h2⟩,h3⟩
       refine ⟨h1,fun j p q hj hp hq=>?_⟩
       by_cases e:j=g
       ·subst e; rw [hpg] at hp; rw [hqg] at hq; cases hp; cases hq; exact h3
       ·exact h2 j p q (by omega) hp hq
      ·rintro ⟨h1,h2⟩
       exact ⟨⟨h1,fun j p q hj=>h2 j p q (by omega)⟩,h2 g _ _ (by omega) hpg hqg⟩
     ·rcases hc' with ⟨rfl,rfl⟩ | hc'
      ·exact hcase
      ·rcases hcase with ⟨rfl,rfl⟩ | hcase
       ·exact .inr hc'
       ·exact .inr (by omega)
    ·have oa4:=You K4 oa3 (by omega)
     simp only [Zap,Bool.not_false,Zby,Zak oa4,List.getElem?_cons_succ,List.getElem?_cons_zero,true_and]
     refine ⟨(Yji S5).trans (K3.trans K4),.inr ⟨rfl,fun θ hs he=>?_⟩⟩
     have hall:=(hparts θ).1 he
     exact hno θ ((hsol θ).2 ⟨hs,fun j p q _=>hall j p q⟩) (hall g _ _ hpg hqg)
   ·apply Zeq.A16x1i
    have:g=a'.ps.length:=by omega
    subst this
    refine ⟨(Yji S5).trans K3,.inl ⟨rfl,σg,Fg,mg,rg,fun θ=>?_,hig,hσg,hcase⟩⟩
    rw [hsol θ,hparts θ]
    exact and_congr_right fun _=>⟨fun h j p q hp hq=>h j p q (List.getElem?_eq_some_iff.1 hp).1 hp hq,fun h j p q _=>h j p q⟩
end
end Go.Sim

set_option linter.unusedVariables false
set_option linter.unusedSimpArgs false
set_option maxRecDepth 20000
namespace Go.Sim
open Go Go.RowKit

end Go.Sim

set_option linter.unusedVariables false
set_option linter.unusedSimpArgs false
set_option maxRecDepth 20000
namespace Go.Sim
open Go Go.RowKit

theorem Zew.below {S:Nat→Prop} {h:Zaa}:∀ {t:Ty} {v:List Zas},Zew S h t v→Zew (fun j=>S j∧j < h.length) h t v
 | .k d,_,h=>h
 | .u d x,_,⟨j,c,e,r,hv,sj,hj,hr⟩=>⟨j,c,e,r,hv,⟨sj,Own.lt hj⟩,hj,hr.below⟩
 | .w d x y,_,⟨j,c,e,r,r',hv,sj,hj,hr,hr'⟩=>⟨j,c,e,r,r',hv,⟨sj,Own.lt hj⟩,hj,hr.below,hr'.below⟩
theorem Yow {f:Nat→Option Ty} {t:Ty} (h:f t.hd=none ∨ t.ps≠[]):(subst f t).hd=t.hd∧(subst f t).ps=t.ps.map (subst f):=by
 cases t with
 | k c=>
  have:f c=none:=by rcases h with h | h; exact h; exact absurd rfl h
  simp [subst,this,Ty.hd,Ty.ps]
 | u c a=>simp [subst,Ty.hd,Ty.ps]
 | w c a b=>simp [subst,Ty.hd,Ty.ps]
theorem Zsp:pg.underlying Zgh=some (.slice Zab):=by kernel_rfl
theorem Zxh:pg.cellsOf Zab=2:=by kernel_rfl
theorem Zxb:pg.okElem Zab=true:=by kernel_rfl
theorem Zyg:pg.bytesOf Zab≤127:=Nat.le_of_ble_eq_true (by kernel_rfl)
theorem Zqb {vs:List (List Zas)} (h:∀ v∈vs,v.length=2):vs.flatten.length=vs.length * 2:=by
 rw [List.length_flatten]
 induction vs with
 | nil=>rfl
 | cons v vs ih=>
  have h1:=h v (by simp)
  have h2:=ih (fun x hx=>h x (by simp [hx]))
  simp only [List.map_cons,List.sum_cons,List.length_cons]; omega
theorem Ygw:∀ (N:Nat) {t:Ty} {S:Nat→Prop} {h:Zaa} {vt:List Zas} {i:Nat} {m:Bd},t.size≤N→t.ok=true→(∀ j,S j→j < h.length∧j≠i)→Zew S h t vt→Yny S h i m→(∀ v u,Zfl m v=some u→u.ok=true)→(∀ v,Zbd v=false→Zfl m v=none) →
  Zah pg Znn [.ptr (some (i,0)),.agg vt] h fun x h'=>Zbe h.length h h'∧∃ vs,x=.agg vs∧Zew (fun j=>S j ∨ h.length≤j) h' (subst (Zfl m) t) vs
 | 0,t,S,h,vt,i,m,hN,_,_,_,_,_,_=>by have:=t.size_ps; omega
 | N + 1,t,S,h,vt,i,m,hN,ht,hSi,rt,rm,hmo,hmn=>by
  obtain ⟨at',ct,et,vts,rfl,rowt,hSt,hvtl,hvt⟩:=id rt.parts
  have hps2:t.ps.length≤2:=by cases t <;> simp [Ty.ps]
  have hil:=rm.lt
  apply Zhp.call
  simp only [Zax]
  generalize hh0:h ++ [Zcc.cells Zab [.int .u8 (t.hd:Int),.slice at' t.ps.length ct et] false]=h0
  generalize hh1:h0 ++ [Zcc.cells Zab [.int .u8 0,.slice none 0 0 true] false]=h1
  have s0:Zbe h.length h h0:=by rw [← hh0]; exact Zao
  have s1:Zbe h0.length h0 h1:=by rw [← hh1]; exact Zao
  have o0:h0[h.length]?=some (.cells Zab [.int .u8 (t.hd:Int),.slice at' t.ps.length ct et] false):=by rw [← hh0]; simp
  have oa:=s1.get o0 (Own.lt o0)
  have oz:h1[h0.length]?=some (.cells Zab [.int .u8 0,.slice none 0 0 true] false):=by rw [← hh1]; simp
  have S1:=s0.cat s1
  have l0:h0.length=h.length + 1:=by rw [← hh0]; simp
  have l1:h1.length=h.length + 2:=by rw [← hh1]; simp [l0]
  simp only [Zak oa,Nat.zero_add,List.getElem?_cons_succ,List.getElem?_cons_zero,Zaq]
  refine (Zki t.hd).mono ?_
  rintro v h2 ⟨rfl,rfl⟩
  have rm1:=rm.same S1
  simp only [Zaq,Zaw]
  -- nothing stands for the letter
  have main:Zfl m t.hd=none→Zhp.J4 (fun x h'=>Zbe h.length h h'∧∃ vs,x=.agg vs∧Zew (fun j=>S j ∨ h.length≤j) h' (subst (Zfl m) t) vs) h.length 0 (some (i,0)) h0.length 0 h2:=by
   intro hno
   obtain ⟨hsh,hsp⟩:=Yow (f:=Zfl m) (t:=t) (.inl hno)
   apply Zhp.J4i
   simp only [Zak oa,Nat.zero_add,List.getElem?_cons_succ,List.getElem?_cons_zero,Zaq,Zax]
   generalize hh3:h2 ++ [Zcc.cells Zab [] false]=h3
   have s3:Zbe h2.length h2 h3:=by rw [← hh3]; exact Zao
   have o3:h3[h2.length]?=some (.cells Zab [] false):=by rw [← hh3]; simp
   have l3:h3.length=h2.length + 1:=by rw [← hh3]; simp
   rw [Zgk]
   generalize hh4:h3 ++ [Zcc.cells Zab [.int .u8 (t.hd:Int),.slice (some (h2.length,0)) 0 0 true] false]=h4
   have s4:Zbe h3.length h3 h4:=by rw [← hh4]; exact Zao
   have o4:h4[h3.length]?=some (.cells Zab [.int .u8 (t.hd:Int),.slice (some (h2.length,0)) 0 0 true] false):=by rw [← hh4]; simp
   have l4:h4.length=h3.length + 1:=by rw [← hh4]; simp
   have oa4:=s4.get (s3.get oa (Own.lt oa)) (by have:=Own.lt oa; omega)
   have oz4:=s4.get (s3.get oz (Own.lt oz)) (by have:=Own.lt oz; omega)
   have o34:=s4.get o3 (Own.lt o3)
   have S4:=(S1.cat s3).cat s4
   simp only [Zat,Zak oa4,List.getElem?_cons_succ,List.getElem?_cons_zero,Zaf]
   refine Zhp.L6ind _ _ _ _ _ _ _ _ _ _ _ (J:=fun (g:Nat) x35 h'=>x35=(g:Int)∧g≤t.ps.length∧Zbe h.length h h'∧h4.length≤h'.length∧h'[h0.length]?=some (.cells Zab [.int .u8 0,.slice none 0 0 true] false) ∧
    ∃ (a:Pt) (cp:Nat) (e:Bool) (vs:List (List Zas)),h'[h3.length]?=some (.cells Zab [.int .u8 (t.hd:Int),.slice a g cp e] false)∧vs.length=g∧Vec Zab h' a g cp vs.flatten∧(∀ j,a=some (j,0)→j=h2.length ∨ h4.length≤j) ∧
     ∀ (k:Nat) (v:List Zas) (x:Ty),vs[k]?=some v→t.ps[k]?=some x→Zew (fun j=>(S j ∨ h4.length≤j)∧∀ j0,a=some (j0,0)→j≠j0) h' (subst (Zfl m) x) v)
    (fun g=>t.ps.length - g) ?_ 0 _ _ ⟨rfl,by omega,S4,Nat.le_refl _,oz4,some (h2.length,0),0,true,[],o4,rfl,Vec.mk1 (by simpa using o34),fun j hj=>by cases hj; exact .inl rfl,by simp⟩
   rintro g x35 h' ⟨rfl,hg,hS,hl4,hz,a,cp,e,vs,ho,hvl,hv,ha,hp⟩ R hR
   unfold Zhp.L6t
   have hz2:∀ v∈vs,v.length=2:=fun v hv=>by
    obtain ⟨k,hk,rfl⟩:=List.mem_iff_getElem.1 hv
    exact (hp k vs[k] (t.ps[k]'(by omega)) (List.getElem?_eq_getElem hk) (List.getElem?_eq_getElem (by omega))).len
   refine Zav (fun hlt=>?_) (fun hge=>?_)
   ·have hgt:g < t.ps.length:=by omega
    obtain ⟨jt,oft,a4,c4,e4,rfl,hrt,hkt⟩:=Zew.get (rowt.same' hS) hvtl (fun k w x h1 h2=>(hvt k w x h1 h2).same hS) hgt
    simp only [Zaw,Int.toNat_natCast,hrt,Zau,Zaj,Zar,Zaq,Zaf,Zax]
    rw [Zgk]
    generalize hq:h' ++ [Zcc.cells Zab [.int .u8 (t.ps[g].hd:Int),.slice a4 t.ps[g].ps.length c4 e4] false]=hq'
    have sq:Zbe h'.length h' hq':=by rw [← hq]; exact Zao
    have oq:=sq.get ho (Own.lt ho)
    simp only [Zat,Zak oq,Nat.zero_add,List.getElem?_cons_succ,List.getElem?_cons_zero,Zaf]
    rw [← hq,Yfm,hq]
    simp only [Zau,Zaj,Zar,Zaq,Zaf,true_and]
    have hmt:=List.getElem_mem hgt
    have h1:=Ty.size_part hmt
    have hlq:=sq.le
    have hSle:=hS.le
    refine ⟨by omega,(Ygw N (by omega) (Ty.ok_ps ht _ hmt) (S:=S) (fun j hj=>⟨by have:=(hSi j hj).1; omega,(hSi j hj).2⟩) (hkt.same sq) (rm.same (hS.cat sq)) hmo hmn).mono ?_⟩
    rintro v h5 ⟨s5,nv,rfl,hn5⟩
    obtain ⟨na,nc,ne,hnv⟩:=hn5.shape
    rw [hnv] at hn5
    have o5:=s5.get oq (Own.lt oq)
    simp only [hnv,Zde,Zaj,Zar,Zaq,Zaf,Zak o5,List.getElem?_cons_succ,List.getElem?_cons_zero,true_and]
    have hc6:Zai (h5 ++ [Zcc.cells Zab [.int .u8 ((subst (Zfl m) t.ps[g]).hd:Int),.slice na (subst (Zfl m) t.ps[g]).ps.length nc ne] false]) (.ptr (some (h3.length,1)))=some (.slice a g cp e):=by rw [Zak (Zft o5)]; rfl
    refine ⟨by rw [hc6],?_⟩
    have v5:=(hv.same sq).same s5
    have hl5:=s5.le
    refine v5.pushN Zsp Zxh Zxb Zyg (by rw [Zqb hz2]; omega) rfl (by omega) rfl (by omega) (fun h7 hl7 hi7 hk7=>?_)
    simp only [Zaf]
    have hz5:=s5.get (sq.get hz (Own.lt hz)) (by have:=Own.lt hz; omega)
    have ha5:∀ j,a=some (j,0)→j=h2.length ∨ h4.length≤j:=ha
    have o7:h7[h3.length]?=some (.cells Zab [.int .u8 (t.hd:Int),.slice a g cp e] false):=by
     rw [hk7 _ (Own.lt o5) fun j hj=>by rcases ha j hj with hh | hh <;> omega]; exact o5
    rw [Zba o7 (by simp)]
    simp only [Zat,putRow,List.take_succ_cons,List.take_zero,List.length_cons,List.length_nil,List.drop_succ_cons,List.drop_nil,List.cons_append,List.nil_append,List.append_nil]
    rw [Zbt (by omega)]
    have hS5:=(hS.cat sq).cat s5
    have h7o:∀ j,j < h5.length→(∀ j0,a=some (j0,0)→j≠j0)→j≠h3.length→(h7.set h3.length (Zcc.cells Zab [.int .u8 (t.hd:Int),.slice (some (h5.length + 1,0)) (g + 1) (g + 1) false] false))[j]?=h5[j]?:=fun j hj hne hne2=>by rw [Zbl (by omega),hk7 j hj hne]
    refine hR (g + 1) _ _ (by omega) ⟨rfl,by omega,⟨by simp; omega,fun j hj=>?_⟩,by simp; omega,?_,some (h5.length + 1,0),g + 1,false,vs ++ [[.int .u8 ((subst (Zfl m) t.ps[g]).hd:Int),.slice na (subst (Zfl m) t.ps[g]).ps.length nc ne]],Zbv o7,by simp [hvl],Vec.mk1 ?_,fun j hj=>by cases hj; right; omega,?_⟩
    ·rw [h7o j (by omega) (fun j0 hj0=>by rcases ha j0 hj0 with hh | hh <;> omega) (by omega)]; exact hS5.eq j hj
    ·rw [h7o _ (Own.lt hz5) (fun j0 hj0=>by rcases ha j0 hj0 with hh | hh <;> omega) (by omega)]; exact hz5
    ·rw [Zbl (by omega),hi7]; simp
    ·intro k v x hv' hx
     have hkeep:∀ {t':Ty} {v':List Zas},Zew (fun j=>(S j ∨ h4.length≤j)∧∀ j0,a=some (j0,0)→j≠j0) h5 t' v'→Zew (fun j=>(S j ∨ h4.length≤j)∧∀ j0,(some (h5.length + 1,0):Pt)=some (j0,0)→j≠j0) (h7.set h3.length (Zcc.cells Zab [.int .u8 (t.hd:Int),.slice (some (h5.length + 1,0)) (g + 1) (g + 1) false] false)) t' v':=by
      intro t' v' hr
      have hr2:=hr.below
      refine Zew.mono (S:=fun j=>((S j ∨ h4.length≤j)∧∀ j0,a=some (j0,0)→j≠j0)∧j < h5.length) (fun j hj=>⟨hj.1.1,fun j0 e0=>by cases e0; have:=hj.2; omega⟩) (hr2.agree fun j hj=>?_)
      refine h7o j hj.2 hj.1.2 ?_
      rcases hj.1.1 with h8 | h8
      ·have:=(hSi j h8).1; omega
      ·omega
     by_cases hkl:k < vs.length
     ·rw [List.getElem?_append_left hkl] at hv'
      exact hkeep (((hp k v x hv' hx).same sq).same s5)
     ·rw [List.getElem?_append_right (by omega)] at hv'
      have hk0:k=vs.length:=by
       by_cases e:k - vs.length=0
       ·omega
       ·rw [List.getElem?_eq_none (by simp; omega)] at hv'; cases hv'
      subst hk0
      simp at hv'
      subst hv'
      rw [hvl,List.getElem?_eq_getElem hgt] at hx
      cases hx
      refine hkeep (Zew.mono (S:=fun j=>S j ∨ hq'.length≤j) (fun j hj=>⟨?_,fun j0 e0=>?_⟩) hn5)
      ·rcases hj with h8 | h8
       ·exact .inl h8
       ·exact .inr (by omega)
      ·have hj0:=(hv.same sq).lt' e0
       rcases hj with h8 | h8
       ·have:=(hSi j h8).1
        rcases ha j0 e0 with hh | hh <;> omega
       ·omega
   ·apply Zhp.A6x0i
    have:g=t.ps.length:=by omega
    subst this
    have hrow:=Zed (o:=0) (n:=2) ho (by simp)
    rw [hrow]
    simp only [List.drop_zero,List.take_succ_cons,List.take_zero,Zau,Zaj,Zar,Zaq,Zaf]
    rw [Zba hz (by simp)]
    simp only [Zat]
    rw [Zed (Zbv hz) (by simp [putRow])]
    simp only [putRow,List.take_zero,List.nil_append,List.length_cons,List.length_nil,List.cons_append,List.drop_succ_cons,List.drop_zero,List.drop_nil,List.append_nil,List.take_succ_cons,Zau,Zaj,Zaq,Zaf,Zar]
    refine ⟨⟨by simp; exact hS.le,fun j hj=>by rw [Zbl (by omega)]; exact hS.eq j hj⟩,_,rfl,?_⟩
    have hget:∀ j,j≠h0.length→(h'.set h0.length (Zcc.cells Zab [.int .u8 (t.hd:Int),.slice a t.ps.length cp e] false))[j]?=h'[j]?:=fun j hj=>Zbl (fun e=>hj e.symm)
    rcases hv with ⟨rfl,h0',_,hvs⟩ | ⟨j0,rfl,hj0⟩
    ·-- no parts
     have hps:t.ps=[]:=List.eq_nil_of_length_eq_zero h0'
     cases t with
     | k d=>
      simp only [subst,show Zfl m d=none from hno,Option.getD_none]
      exact ⟨_,_,_,rfl⟩
     | u d x=>simp [Ty.ps] at hps
     | w d x y=>simp [Ty.ps] at hps
    ·have hj0n:j0≠h0.length:=by rcases ha j0 rfl with hh | hh <;> omega
     have hS4:=ha j0 rfl
     have:=Zew.make (S:=fun j=>S j ∨ h.length≤j) (h:=h'.set h0.length (Zcc.cells Zab [.int .u8 (t.hd:Int),.slice (some (j0,0)) t.ps.length cp e] false)) (t:=subst (Zfl m) t) (j:=j0) (n:=t.ps.length) (c:=cp) (e:=e) (vs:=vs)
      (by rw [hsp,List.length_map]) (.inr (by rcases hS4 with hh | hh <;> omega)) (by rw [hget j0 hj0n]; exact hj0) hvl (fun k w x hw hx=>by
       rw [hsp,List.getElem?_map] at hx
       obtain ⟨y,hy,rfl⟩:=Option.map_eq_some_iff.1 hx
       have hr:=hp k w y hw hy
       refine Zew.mono (S:=fun j=>(S j ∨ h4.length≤j)∧∀ j1,(some (j0,0):Pt)=some (j1,0)→j≠j1) (fun j hj=>hj.1.imp id (fun h=>by omega)) (hr.agree fun j hj=>hget j ?_)
       rcases hj.1 with h8 | h8
       ·have:=(hSi j h8).1; omega
       ·omega)
     rw [hsh] at this
     exact this
  cases hv:Zbd t.hd with
  | true=>
   obtain ⟨k,hk6,hkv,hix⟩:=Zyd hv
   rw [hix]
   obtain ⟨x,hx1,hx2,hx3⟩:=rm1.get (k:=k) hk6
   rw [hkv,Option.bind_some] at hx3
   have hge:decide ((k:Int) ≥ 0)=true:=by simp
   simp only [hge,Zby,Int.toNat_natCast,hx1,hx2,Zau,Zaj,Zar]
   refine ⟨by omega,?_⟩
   cases hg:Zfl m t.hd with
   | none=>
    rw [hg] at hx3
    simp only at hx3
    subst hx3
    simp only [Zaq,show ((0:Int) == 0)=true from rfl,Bool.not_true,Zbj]
    exact main hg
   | some u=>
    rw [hg] at hx3
    simp only at hx3
    have hu:=hmo _ _ hg
    obtain ⟨ux,uc,ue,hux⟩:=hx3.shape
    simp only [List.cons.injEq,and_true] at hux
    obtain ⟨hux1,hux2⟩:=hux
    rw [hux1,hux2] at hx3
    rw [hux1,hux2]
    have hu0:(((u.hd:Nat):Int) == 0)=false:=by
     have:=Ztf hu
     have hne:u.hd≠0:=fun e=>by rw [e] at this; simp at this
     simp; omega
    simp only [Zaq,Zaf,hu0,Bool.not_false,Zby]
    rw [Zba oz (by simp)]
    simp only [Zat]
    rw [Zed (Zbv oz) (by simp [putRow])]
    simp only [putRow,List.take_zero,List.nil_append,List.length_cons,List.length_nil,List.cons_append,List.drop_succ_cons,List.drop_zero,List.drop_nil,List.append_nil,List.take_succ_cons,Zau,Zaj,Zaq,Zaf,Zar]
    refine ⟨by omega,⟨by simp; omega,fun j hj=>by rw [Zbl (by omega)]; exact S1.eq j hj⟩,_,rfl,?_⟩
    have hsub:subst (Zfl m) t=u:=by rw [Zqj ht hv]; simp [subst,hg]
    rw [hsub]
    refine Zew.mono (S:=S) (fun j hj=>.inl hj) (hx3.agree fun j hj=>Zbl (by have:=(hSi j hj).1; omega))
  | false=>
   rw [Zxy ht hv]
   have hge:decide ((-1:Int) ≥ 0)=false:=by decide
   simp only [hge,Zbj]
   exact main (hmn _ hv)
end Go.Sim

set_option linter.unusedVariables false
set_option linter.unusedSimpArgs false
set_option maxRecDepth 20000
namespace Go.Sim
open Go Go.RowKit

section
variable {S:Nat→Prop} {i:Nat} {σ:Nat→Option Ty} {F:Nat→Ty}
theorem Ylo (rs:Rsv V12 σ F) (hdom:∀ c u,σ c=some u→V12 c=true∧okL Ztl u=true):∀ (N:Nat) {h:Zaa} {t:Ty} {vt:List Zas},(sb V12 F t).size≤N→Zsn S h i σ→(∀ j,S j→j < h.length∧j≠i)→okL Ztl t=true→Zew S h t vt →
  Zah pg Zma [.ptr (some (i,0)),.agg vt] h fun x h'=>Zbe h.length h h'∧∃ vs,x=.agg vs∧Zew (fun j=>h.length≤j) h' (sb V12 F t) vs:=by
 intro N
 induction N with
 | zero=>intro h t vt hN; have:=Zuc (sb V12 F t); omega
 | succ N ih=>
  intro h t vt hN m hSi ht r
  obtain ⟨a0,c0,e0,rfl⟩:=r.shape
  obtain ⟨n,u,hw,hu,heq⟩:=rs.walked (fun t=>okL Ztl t=true) (fun c t h=>(hdom c t h).2) ht
  have hend:=hw.end_
  rw [heq] at hN ⊢
  obtain ⟨d,hd⟩:∃ d,d=u.hd:=⟨_,rfl⟩
  obtain ⟨T,hT⟩:∃ T,T=sb V12 F u:=⟨_,rfl⟩
  have hTT:T.hd=d∧T.ps=u.ps.map (sb V12 F):=by
   rw [hT,hd]
   cases hv:V12 u.hd with
   | false=>exact Yrg (.inr hv)
   | true=>
    have hk:=Zos hu hv
    rw [hk,rs.var (hend _ hk)]
    exact ⟨rfl,rfl⟩
  obtain ⟨hTd,hTp⟩:=hTT
  rw [← hT]
  have hps2:u.ps.length≤2:=by cases u <;> simp [Ty.ps]
  have hil:=m.lt
  apply Zjm.call
  simp only [Zax]
  generalize hh0:h ++ [Zcc.cells Zab [.int .u8 (t.hd:Int),.slice a0 t.ps.length c0 e0] false]=h0
  generalize hh1:h0 ++ [Zcc.cells Zab [.int .u8 0,.slice none 0 0 true] false]=h1
  have s0:Zbe h.length h h0:=by rw [← hh0]; exact Zao
  have s1:Zbe h0.length h0 h1:=by rw [← hh1]; exact Zao
  have o0:h0[h.length]?=some (.cells Zab [.int .u8 (t.hd:Int),.slice a0 t.ps.length c0 e0] false):=by rw [← hh0]; simp
  have oa:=s1.get o0 (Own.lt o0)
  have oz:h1[h0.length]?=some (.cells Zab [.int .u8 0,.slice none 0 0 true] false):=by rw [← hh1]; simp
  have S1:=s0.cat s1
  have l0:h0.length=h.length + 1:=by rw [← hh0]; simp
  have l1:h1.length=h.length + 2:=by rw [← hh1]; simp [l0]
  rw [Zbk oa]
  simp only [Zau,Zaj,Zar,Zaq,Zaf]
  refine (Zsv (m.same S1) (fun j hj=>⟨by have:=(hSi j hj).1; omega,(hSi j hj).2⟩) hdom ht hw (r.same S1)).mono ?_
  rintro v h2 ⟨s2,va,rfl,r2⟩
  obtain ⟨at',ct,et,vts,rfl,row2,hSt,hvtl,hvt2⟩:=r2.parts
  have oa2:=s2.get oa (Own.lt oa)
  have oz2:=s2.get oz (Own.lt oz)
  have l2:=s2.le
  simp only [Zde,Zaj,Zar,Zaq,Zaf]
  rw [Zba oa2 (by simp)]
  simp only [Zat,putRow,List.take_zero,List.length_cons,List.length_nil,List.drop_succ_cons,List.drop_zero,List.drop_nil,List.cons_append,List.nil_append,List.append_nil,Nat.zero_add]
  generalize hh3:h2.set h.length (.cells Zab [.int .u8 (u.hd:Int),.slice at' u.ps.length ct et] false)=h3
  have oa3:h3[h.length]?=some (.cells Zab [.int .u8 (u.hd:Int),.slice at' u.ps.length ct et] false):=by rw [← hh3]; exact Zbv oa2
  have l3:h3.length=h2.length:=by rw [← hh3]; simp
  have k3:∀ j,j≠h.length→h3[j]?=h2[j]?:=fun j hj=>by rw [← hh3]; exact Zbl fun e=>hj e.symm
  have oz3:h3[h0.length]?=some (.cells Zab [.int .u8 0,.slice none 0 0 true] false):=by rw [k3 _ (by omega)]; exact oz2
  have S3:Zbe h.length h h3:=⟨by omega,fun j hj=>by rw [k3 j (by omega),s2.eq j (by omega)]; exact S1.eq j hj⟩
  simp only [Zak oa3,List.getElem?_cons_succ,List.getElem?_cons_zero,Zaq]
  generalize hh4:h3 ++ [Zcc.cells Zab [] false]=h4
  have s4:Zbe h3.length h3 h4:=by rw [← hh4]; exact Zao
  have o4:h4[h3.length]?=some (.cells Zab [] false):=by rw [← hh4]; simp
  have l4:h4.length=h3.length + 1:=by rw [← hh4]; simp
  rw [Zgk]
  rw [← hd] at oa3 ⊢
  generalize hhB:h4 ++ [Zcc.cells Zab [.int .u8 (d:Int),.slice (some (h3.length,0)) 0 0 true] false]=hB
  have sB:Zbe h4.length h4 hB:=by rw [← hhB]; exact Zao
  obtain ⟨oi,hoi⟩:∃ oi,oi=h4.length:=⟨_,rfl⟩
  obtain ⟨rb,hrb⟩:∃ rb,rb=h3.length:=⟨_,rfl⟩
  have oB:hB[oi]?=some (.cells Zab [.int .u8 (d:Int),.slice (some (rb,0)) 0 0 true] false):=by rw [← hhB,hoi,hrb]; simp
  have lB:hB.length=h4.length + 1:=by rw [← hhB]; simp
  have rB:hB[rb]?=some (.cells Zab [] false):=by rw [hrb]; exact sB.get o4 (Own.lt o4)
  have zB:=sB.get (s4.get oz3 (Own.lt oz3)) (by have:=Own.lt oz3; omega)
  have oaB:=sB.get (s4.get oa3 (Own.lt oa3)) (by have:=Own.lt oa3; omega)
  have SB:=(S3.cat s4).cat sB
  rw [← hoi]
  simp only [Zat,Zak oaB,List.getElem?_cons_succ,List.getElem?_cons_zero,Zaf]
  have holdS:∀ h':Zaa,Zbe h.length h h'→∀ j,S j→h'[j]?=h2[j]?:=fun h' hS j hj=>by
   have:=(hSi j hj).1
   rw [hS.eq j this,← S1.eq j this,← s2.eq j (by omega)]
  have hold:∀ h':Zaa,Zbe h.length h h'→∀ j o,u.ps.length * 2≠0→at'=some (j,o)→h'[j]?=h2[j]?:=fun h' hS j o h0 ha=>holdS h' hS j (hSt j o (by omega) ha)
  have rowB:=row2
  have hvt:=hvt2
  have hSQ:∀ h':Zaa,h.length≤h'.length→∀ j,S j→j < h'.length∧j≠i:=fun h' hl j hj=>⟨by have:=(hSi j hj).1; omega,(hSi j hj).2⟩
  refine Zjm.L4ind (J:=fun (g:Nat) x18 h'=>x18=(g:Int)∧g≤u.ps.length∧Zbe h.length h h'∧hB.length≤h'.length∧h'[h0.length]?=some (.cells Zab [.int .u8 0,.slice none 0 0 true] false) ∧
   ∃ (a:Pt) (cp:Nat) (e:Bool) (vs:List (List Zas)),h'[oi]?=some (.cells Zab [.int .u8 (d:Int),.slice a g cp e] false)∧vs.length=g∧Vec Zab h' a g cp vs.flatten∧(∀ j,a=some (j,0)→j=rb ∨ hB.length≤j) ∧
    ∀ (k:Nat) (v:List Zas) (x:Ty),vs[k]?=some v→u.ps[k]?=some x→Zew (fun j=>hB.length≤j∧∀ j0,a=some (j0,0)→j≠j0) h' (sb V12 F x) v) (m:=fun g=>u.ps.length - g) (hr:=?_) (g:=0)
   (hj:=⟨rfl,by omega,SB,Nat.le_refl _,zB,some (rb,0),0,true,[],oB,rfl,Vec.mk1 (by simpa using rB),fun j hj=>by cases hj; exact .inl rfl,by simp⟩)
  rintro g x18 h' ⟨rfl,hg,hS,hl4,hz,a,cp,e,vs,ho,hvl,hv,ha,hp⟩ R hR
  unfold Zjm.L4t
  have hz2:∀ v∈vs,v.length=2:=fun v hv=>by
   obtain ⟨k,hk,rfl⟩:=List.mem_iff_getElem.1 hv
   exact (hp k vs[k] (u.ps[k]'(by omega)) (List.getElem?_eq_getElem hk) (List.getElem?_eq_getElem (by omega))).len
  refine Zav (fun hlt=>?_) (fun hge=>?_)
  ·have hgt:g < u.ps.length:=by omega
   obtain ⟨jt,oft,a4,c4,e4,rfl,hrt,hkt⟩:=Zew.get (Yru rowB (by omega) fun j o h0 ha _=>hold h' hS j o h0 ha) hvtl (fun k w x h1 h2=>(hvt k w x h1 h2).agree fun j hj=>holdS h' hS j hj) hgt
   simp only [Zaw,Int.toNat_natCast,hrt,Zau,Zaj,Zar,Zaq,Zaf,Zax]
   rw [Zgk]
   generalize hq:h' ++ [Zcc.cells Zab [.int .u8 (u.ps[g].hd:Int),.slice a4 u.ps[g].ps.length c4 e4] false]=hq'
   have sq:Zbe h'.length h' hq':=by rw [← hq]; exact Zao
   have oq:=sq.get ho (Own.lt ho)
   simp only [Zat,Zak oq,Nat.zero_add,List.getElem?_cons_succ,List.getElem?_cons_zero,Zaf]
   rw [← hq,Yfm,hq]
   simp only [Zau,Zaj,Zar,Zaq,Zaf,true_and]
   have hmt:=List.getElem_mem hgt
   have hlq:=sq.le
   have hSle:=hS.le
   have SQ:=hS.cat sq
   refine ⟨by omega,(ih (by have:=Zqc (V:=V12) hmt F; omega) (m.same SQ) (hSQ hq' SQ.le) (Ykw hu _ hmt) (hkt.same sq)).mono ?_⟩
   rintro v h5 ⟨s5,nv,rfl,hn5⟩
   obtain ⟨na,nc,ne,hnv⟩:=hn5.shape
   rw [hnv] at hn5
   have o5:=s5.get oq (Own.lt oq)
   simp only [hnv,Zde,Zaj,Zar,Zaq,Zaf,Zak o5,List.getElem?_cons_succ,List.getElem?_cons_zero,true_and]
   have hc6:Zai (h5 ++ [Zcc.cells Zab [.int .u8 ((sb V12 F u.ps[g]).hd:Int),.slice na (sb V12 F u.ps[g]).ps.length nc ne] false]) (.ptr (some (oi,1)))=some (.slice a g cp e):=by rw [Zak (Zft o5)]; rfl
   refine ⟨by rw [hc6],?_⟩
   have v5:=(hv.same sq).same s5
   have hl5:=s5.le
   refine v5.pushN Zsp Zxh Zxb Zyg (by rw [Zqb hz2]; omega) rfl (by omega) rfl (by omega) (fun h7 hl7 hi7 hk7=>?_)
   simp only [Zaf]
   have hz5:=s5.get (sq.get hz (Own.lt hz)) (by have:=Own.lt hz; omega)
   have o7:h7[oi]?=some (.cells Zab [.int .u8 (d:Int),.slice a g cp e] false):=by
    rw [hk7 _ (Own.lt o5) fun j hj=>by rcases ha j hj with hh | hh <;> omega]; exact o5
   rw [Zba o7 (by simp)]
   simp only [Zat,putRow,List.take_succ_cons,List.take_zero,List.length_cons,List.length_nil,List.drop_succ_cons,List.drop_nil,List.cons_append,List.nil_append,List.append_nil]
   rw [Zbt (by omega)]
   have hS5:=SQ.cat s5
   have h7o:∀ j,j < h5.length→(∀ j0,a=some (j0,0)→j≠j0)→j≠oi→(h7.set oi (Zcc.cells Zab [.int .u8 (d:Int),.slice (some (h5.length + 1,0)) (g + 1) (g + 1) false] false))[j]?=h5[j]?:=fun j hj hne hne2=>by rw [Zbl (by omega),hk7 j hj hne]
   refine hR (g + 1) _ _ (by omega) ⟨rfl,by omega,⟨by simp; omega,fun j hj=>?_⟩,by simp; omega,?_,some (h5.length + 1,0),g + 1,false,vs ++ [[.int .u8 ((sb V12 F u.ps[g]).hd:Int),.slice na (sb V12 F u.ps[g]).ps.length nc ne]],Zbv o7,by simp [hvl],Vec.mk1 ?_,fun j hj=>by cases hj; right; omega,?_⟩
   ·rw [h7o j (by omega) (fun j0 hj0=>by rcases ha j0 hj0 with hh | hh <;> omega) (by omega)]; exact hS5.eq j hj
   ·rw [h7o _ (Own.lt hz5) (fun j0 hj0=>by rcases ha j0 hj0 with hh | hh <;> omega) (by omega)]; exact hz5
   ·rw [Zbl (by omega),hi7]; simp
   ·intro k v x hv' hx
    have hkeep:∀ {t':Ty} {v':List Zas},Zew (fun j=>hB.length≤j∧∀ j0,a=some (j0,0)→j≠j0) h5 t' v'→Zew (fun j=>hB.length≤j∧∀ j0,(some (h5.length + 1,0):Pt)=some (j0,0)→j≠j0) (h7.set oi (Zcc.cells Zab [.int .u8 (d:Int),.slice (some (h5.length + 1,0)) (g + 1) (g + 1) false] false)) t' v':=by
     intro t' v' hr
     refine Zew.mono (S:=fun j=>(hB.length≤j∧∀ j0,a=some (j0,0)→j≠j0)∧j < h5.length) (fun j hj=>⟨hj.1.1,fun j0 e0=>by cases e0; have:=hj.2; omega⟩) (hr.below.agree fun j hj=>?_)
     exact h7o j hj.2 hj.1.2 (by have:=hj.1.1; omega)
    by_cases hkl:k < vs.length
    ·rw [List.getElem?_append_left hkl] at hv'
     exact hkeep (((hp k v x hv' hx).same sq).same s5)
    ·rw [List.getElem?_append_right (by omega)] at hv'
     have hk0:k=vs.length:=by
      by_cases e:k - vs.length=0
      ·omega
      ·rw [List.getElem?_eq_none (by simp; omega)] at hv'; cases hv'
     subst hk0
     simp at hv'
     subst hv'
     rw [hvl,List.getElem?_eq_getElem hgt] at hx
     cases hx
     refine hkeep (Zew.mono (S:=fun j=>hq'.length≤j) (fun j hj=>⟨by omega,fun j0 e0=>?_⟩) hn5)
     have hj0:=(hv.same sq).lt' e0
     omega
  ·apply Zjm.A4x0i
   have:g=u.ps.length:=by omega
   subst this
   rw [Zed (o:=0) (n:=2) ho (by simp)]
   simp only [List.drop_zero,List.take_succ_cons,List.take_zero,Zau,Zaj,Zar,Zaq,Zaf]
   rw [Zba hz (by simp)]
   simp only [Zat]
   rw [Zed (Zbv hz) (by simp [putRow])]
   simp only [putRow,List.take_zero,List.nil_append,List.length_cons,List.length_nil,List.cons_append,List.drop_succ_cons,List.drop_zero,List.drop_nil,List.append_nil,List.take_succ_cons,Zau,Zaj,Zaq,Zaf,Zar]
   refine ⟨⟨by simp; exact hS.le,fun j hj=>by rw [Zbl (by omega)]; exact hS.eq j hj⟩,_,rfl,?_⟩
   have hget:∀ j,j≠h0.length→(h'.set h0.length (Zcc.cells Zab [.int .u8 (d:Int),.slice a u.ps.length cp e] false))[j]?=h'[j]?:=fun j hj=>Zbl (fun e=>hj e.symm)
   rw [← hTd]
   rcases hv with ⟨rfl,h0',_,hvs⟩ | ⟨j0,rfl,hj0⟩
   ·-- no parts
    have hps:T.ps=[]:=by rw [hTp,List.eq_nil_of_length_eq_zero h0']; rfl
    have hTk:=Ytc (t:=T) (by rw [hps]; rfl)
    rw [hTk,h0']
    exact ⟨_,_,_,rfl⟩
   ·have hj0n:j0≠h0.length:=by rcases ha j0 rfl with hh | hh <;> omega
    have hS4:=ha j0 rfl
    refine Zew.make (S:=fun j=>h.length≤j) (t:=T) (j:=j0) (n:=u.ps.length) (c:=cp) (e:=e) (vs:=vs) (by rw [hTp,List.length_map]) (by rcases hS4 with hh | hh <;> omega) (by rw [hTd,hget j0 hj0n]; exact hj0) hvl (fun k w x hw hx=>?_)
    rw [hTp,List.getElem?_map] at hx
    obtain ⟨y,hy,rfl⟩:=Option.map_eq_some_iff.1 hx
    have hr:=hp k w y hw hy
    rw [hTd]
    refine Zew.mono (S:=fun j=>hB.length≤j∧∀ j1,(some (j0,0):Pt)=some (j1,0)→j≠j1) (fun j hj=>by have:=hj.1; omega) (hr.agree fun j hj=>hget j (by have:=hj.1; omega))
end
theorem Yss {k:Nat} (h:k < 12):IntKind.wrap .i64 ((k:Int) + 6)=((k + 6:Nat):Int):=by rw [IntWalk.i64_in _ (by omega)]; omega
theorem Yfw:∀ (N:Nat) {S:Nat→Prop} {h:Zaa} {u:Ty} {vt:List Zas},u.size≤N→(∀ j,S j→j < h.length)→u.ok=true→Zew S h u vt →
  Zah pg Zjn [.agg vt] h fun x h'=>Zbe h.length h h'∧∃ vs,x=.agg vs∧Zew (fun j=>h.length≤j) h' (Zsh u) vs:=by
 intro N
 induction N with
 | zero=>intro S h t vt hN; have:=Zuc t; omega
 | succ N ih=>
  intro S h u vt hN hSi hu r
  obtain ⟨at',ct,et,vts,rfl,row2,hSt,hvtl,hvt2⟩:=r.parts
  obtain ⟨d,hd⟩:∃ d,d=(Zsh u).hd:=⟨_,rfl⟩
  obtain ⟨T,hT⟩:∃ T,T=Zsh u:=⟨_,rfl⟩
  have hTd:T.hd=d:=by rw [hT,hd]
  have hTp:T.ps=u.ps.map Zsh:=by rw [hT]; cases u <;> simp [Zsh,Ty.ps]
  have hdh:d=if Zbd u.hd then Yib u.hd else u.hd:=by
   rw [hd]
   cases u with
   | k c=>rfl
   | u c x=>
    simp only [Ty.ok,Bool.and_eq_true,Bool.or_eq_true,beq_iff_eq] at hu
    rcases hu.1 with e | e <;> (subst e; rfl)
   | w c x y=>
    simp only [Ty.ok,Bool.and_eq_true,beq_iff_eq] at hu
    have:=hu.1.1
    subst this; rfl
  rw [← hT]
  have hps2:u.ps.length≤2:=by cases u <;> simp [Ty.ps]
  apply Zfd.call
  simp only [Zax]
  generalize hh0:h ++ [Zcc.cells Zab [.int .u8 (u.hd:Int),.slice at' u.ps.length ct et] false]=h0
  generalize hh1:h0 ++ [Zcc.cells Zab [.int .u8 0,.slice none 0 0 true] false]=h1
  have s0:Zbe h.length h h0:=by rw [← hh0]; exact Zao
  have s1:Zbe h0.length h0 h1:=by rw [← hh1]; exact Zao
  have o0:h0[h.length]?=some (.cells Zab [.int .u8 (u.hd:Int),.slice at' u.ps.length ct et] false):=by rw [← hh0]; simp
  have oa:=s1.get o0 (Own.lt o0)
  have oz:h1[h0.length]?=some (.cells Zab [.int .u8 0,.slice none 0 0 true] false):=by rw [← hh1]; simp
  have S1:=s0.cat s1
  have l0:h0.length=h.length + 1:=by rw [← hh0]; simp
  have l1:h1.length=h.length + 2:=by rw [← hh1]; simp [l0]
  simp only [Zak oa,Nat.zero_add,List.getElem?_cons_zero,Zaq]
  generalize hh4:h1 ++ [Zcc.cells Zab [] false]=h4
  have s4:Zbe h1.length h1 h4:=by rw [← hh4]; exact Zao
  have o4:h4[h1.length]?=some (.cells Zab [] false):=by rw [← hh4]; simp
  have l4:h4.length=h1.length + 1:=by rw [← hh4]; simp
  rw [Zgk]
  generalize hhC:h4 ++ [Zcc.cells Zab [.int .u8 (u.hd:Int),.slice (some (h1.length,0)) 0 0 true] false]=hC
  have sC:Zbe h4.length h4 hC:=by rw [← hhC]; exact Zao
  obtain ⟨oi,hoi⟩:∃ oi,oi=h4.length:=⟨_,rfl⟩
  obtain ⟨rb,hrb⟩:∃ rb,rb=h1.length:=⟨_,rfl⟩
  have oC:hC[oi]?=some (.cells Zab [.int .u8 (u.hd:Int),.slice (some (rb,0)) 0 0 true] false):=by rw [← hhC,hoi,hrb]; simp
  have lC:hC.length=h4.length + 1:=by rw [← hhC]; simp
  have rC:hC[rb]?=some (.cells Zab [] false):=by rw [hrb]; exact sC.get o4 (Own.lt o4)
  have zC:=sC.get (s4.get oz (Own.lt oz)) (by have:=Own.lt oz; omega)
  have oaC:=sC.get (s4.get oa (Own.lt oa)) (by have:=Own.lt oa; omega)
  have SC:=(S1.cat s4).cat sC
  rw [← hoi]
  simp only [Zat,Zak oaC,List.getElem?_cons_succ,List.getElem?_cons_zero,Zaq]
  refine (Zki u.hd).mono ?_
  rintro v h5 ⟨rfl,rfl⟩
  simp only [Zaq]
  have holdS:∀ h':Zaa,Zbe h.length h h'→∀ j,S j→h'[j]?=h[j]?:=fun h' hS j hj=>hS.eq j (hSi j hj)
  have hold:∀ h':Zaa,Zbe h.length h h'→∀ j o,u.ps.length * 2≠0→at'=some (j,o)→h'[j]?=h[j]?:=fun h' hS j o h0 ha=>holdS h' hS j (hSt j o (by omega) ha)
  have rowB:=row2
  have hvt:=hvt2
  have main:∀ hB:Zaa,hB.length=h5.length→(∀ j,j≠oi→hB[j]?=h5[j]?)→hB[oi]?=some (.cells Zab [.int .u8 (d:Int),.slice (some (rb,0)) 0 0 true] false)→Zfd.J5 (fun x h'=>Zbe h.length h h'∧∃ vs,x=.agg vs∧Zew (fun j=>h.length≤j) h' T vs) h.length 0 h0.length 0 oi 0 hB:=by
   intro hB lB kB oB
   have rB:hB[rb]?=some (.cells Zab [] false):=by rw [kB _ (by omega)]; exact rC
   have zB:hB[h0.length]?=some (.cells Zab [.int .u8 0,.slice none 0 0 true] false):=by rw [kB _ (by omega)]; exact zC
   have oaB:hB[h.length]?=some (.cells Zab [.int .u8 (u.hd:Int),.slice at' u.ps.length ct et] false):=by rw [kB _ (by omega)]; exact oaC
   have SB:Zbe h.length h hB:=⟨by omega,fun j hj=>by rw [kB j (by omega)]; exact SC.eq j hj⟩
   apply Zfd.J5i
   simp only [Zak oaB,Nat.zero_add,List.getElem?_cons_succ,List.getElem?_cons_zero,Zaf]
   refine Zfd.L6ind (J:=fun (g:Nat) x18 h'=>x18=(g:Int)∧g≤u.ps.length∧Zbe h.length h h'∧hB.length≤h'.length∧h'[h0.length]?=some (.cells Zab [.int .u8 0,.slice none 0 0 true] false) ∧
    ∃ (a:Pt) (cp:Nat) (e:Bool) (vs:List (List Zas)),h'[oi]?=some (.cells Zab [.int .u8 (d:Int),.slice a g cp e] false)∧vs.length=g∧Vec Zab h' a g cp vs.flatten∧(∀ j,a=some (j,0)→j=rb ∨ hB.length≤j) ∧
     ∀ (k:Nat) (v:List Zas) (x:Ty),vs[k]?=some v→u.ps[k]?=some x→Zew (fun j=>hB.length≤j∧∀ j0,a=some (j0,0)→j≠j0) h' (Zsh x) v) (m:=fun g=>u.ps.length - g) (hr:=?_) (g:=0)
    (hj:=⟨rfl,by omega,SB,Nat.le_refl _,zB,some (rb,0),0,true,[],oB,rfl,Vec.mk1 (by simpa using rB),fun j hj=>by cases hj; exact .inl rfl,by simp⟩)
   rintro g x18 h' ⟨rfl,hg,hS,hl4,hz,a,cp,e,vs,ho,hvl,hv,ha,hp⟩ R hR
   unfold Zfd.L6t
   have hz2:∀ v∈vs,v.length=2:=fun v hv=>by
    obtain ⟨k,hk,rfl⟩:=List.mem_iff_getElem.1 hv
    exact (hp k vs[k] (u.ps[k]'(by omega)) (List.getElem?_eq_getElem hk) (List.getElem?_eq_getElem (by omega))).len
   refine Zav (fun hlt=>?_) (fun hge=>?_)
   ·have hgt:g < u.ps.length:=by omega
    obtain ⟨jt,oft,a4,c4,e4,rfl,hrt,hkt⟩:=Zew.get (Yru rowB (by omega) fun j o h0 ha _=>hold h' hS j o h0 ha) hvtl (fun k w x h1 h2=>(hvt k w x h1 h2).agree fun j hj=>holdS h' hS j hj) hgt
    simp only [Zaw,Int.toNat_natCast,hrt,Zau,Zaj,Zar,Zaq,Zaf,Zax]
    rw [Zgk]
    generalize hq:h' ++ [Zcc.cells Zab [.int .u8 (u.ps[g].hd:Int),.slice a4 u.ps[g].ps.length c4 e4] false]=hq'
    have sq:Zbe h'.length h' hq':=by rw [← hq]; exact Zao
    have oq:=sq.get ho (Own.lt ho)
    simp only [Zat,Zak oq,Nat.zero_add,List.getElem?_cons_succ,List.getElem?_cons_zero,Zaf]
    rw [← hq,Yfm,hq]
    simp only [Zau,Zaj,Zar,Zaq,Zaf,true_and]
    have hmt:=List.getElem_mem hgt
    have hlq:=sq.le
    have hSle:=hS.le
    have SQ:=hS.cat sq
    refine ⟨by omega,(ih (S:=S) (by have:=Ty.size_part hmt; omega) (fun j hj=>by have:=hSi j hj; have:=SQ.le; omega) (Ty.ok_ps hu _ hmt) (hkt.same sq)).mono ?_⟩
    rintro v h5 ⟨s5,nv,rfl,hn5⟩
    obtain ⟨na,nc,ne,hnv⟩:=hn5.shape
    rw [hnv] at hn5
    have o5:=s5.get oq (Own.lt oq)
    simp only [hnv,Zde,Zaj,Zar,Zaq,Zaf,Zak o5,List.getElem?_cons_succ,List.getElem?_cons_zero,true_and]
    have hc6:Zai (h5 ++ [Zcc.cells Zab [.int .u8 ((Zsh u.ps[g]).hd:Int),.slice na (Zsh u.ps[g]).ps.length nc ne] false]) (.ptr (some (oi,1)))=some (.slice a g cp e):=by rw [Zak (Zft o5)]; rfl
    refine ⟨by rw [hc6],?_⟩
    have v5:=(hv.same sq).same s5
    have hl5:=s5.le
    refine v5.pushN Zsp Zxh Zxb Zyg (by rw [Zqb hz2]; omega) rfl (by omega) rfl (by omega) (fun h7 hl7 hi7 hk7=>?_)
    simp only [Zaf]
    have hz5:=s5.get (sq.get hz (Own.lt hz)) (by have:=Own.lt hz; omega)
    have o7:h7[oi]?=some (.cells Zab [.int .u8 (d:Int),.slice a g cp e] false):=by
     rw [hk7 _ (Own.lt o5) fun j hj=>by rcases ha j hj with hh | hh <;> omega]; exact o5
    rw [Zba o7 (by simp)]
    simp only [Zat,putRow,List.take_succ_cons,List.take_zero,List.length_cons,List.length_nil,List.drop_succ_cons,List.drop_nil,List.cons_append,List.nil_append,List.append_nil]
    rw [Zbt (by omega)]
    have hS5:=SQ.cat s5
    have h7o:∀ j,j < h5.length→(∀ j0,a=some (j0,0)→j≠j0)→j≠oi→(h7.set oi (Zcc.cells Zab [.int .u8 (d:Int),.slice (some (h5.length + 1,0)) (g + 1) (g + 1) false] false))[j]?=h5[j]?:=fun j hj hne hne2=>by rw [Zbl (by omega),hk7 j hj hne]
    refine hR (g + 1) _ _ (by omega) ⟨rfl,by omega,⟨by simp; omega,fun j hj=>?_⟩,by simp; omega,?_,some (h5.length + 1,0),g + 1,false,vs ++ [[.int .u8 ((Zsh u.ps[g]).hd:Int),.slice na (Zsh u.ps[g]).ps.length nc ne]],Zbv o7,by simp [hvl],Vec.mk1 ?_,fun j hj=>by cases hj; right; omega,?_⟩
    ·rw [h7o j (by omega) (fun j0 hj0=>by rcases ha j0 hj0 with hh | hh <;> omega) (by omega)]; exact hS5.eq j hj
    ·rw [h7o _ (Own.lt hz5) (fun j0 hj0=>by rcases ha j0 hj0 with hh | hh <;> omega) (by omega)]; exact hz5
    ·rw [Zbl (by omega),hi7]; simp
    ·intro k v x hv' hx
     have hkeep:∀ {t':Ty} {v':List Zas},Zew (fun j=>hB.length≤j∧∀ j0,a=some (j0,0)→j≠j0) h5 t' v'→Zew (fun j=>hB.length≤j∧∀ j0,(some (h5.length + 1,0):Pt)=some (j0,0)→j≠j0) (h7.set oi (Zcc.cells Zab [.int .u8 (d:Int),.slice (some (h5.length + 1,0)) (g + 1) (g + 1) false] false)) t' v':=by
      intro t' v' hr
      refine Zew.mono (S:=fun j=>(hB.length≤j∧∀ j0,a=some (j0,0)→j≠j0)∧j < h5.length) (fun j hj=>⟨hj.1.1,fun j0 e0=>by cases e0; have:=hj.2; omega⟩) (hr.below.agree fun j hj=>?_)
      exact h7o j hj.2 hj.1.2 (by have:=hj.1.1; omega)
     by_cases hkl:k < vs.length
     ·rw [List.getElem?_append_left hkl] at hv'
      exact hkeep (((hp k v x hv' hx).same sq).same s5)
     ·rw [List.getElem?_append_right (by omega)] at hv'
      have hk0:k=vs.length:=by
       by_cases e:k - vs.length=0
       ·omega
       ·rw [List.getElem?_eq_none (by simp; omega)] at hv'; cases hv'
      subst hk0
      simp at hv'
      subst hv'
      rw [hvl,List.getElem?_eq_getElem hgt] at hx
      cases hx
      refine hkeep (Zew.mono (S:=fun j=>hq'.length≤j) (fun j hj=>⟨by omega,fun j0 e0=>?_⟩) hn5)
      have hj0:=(hv.same sq).lt' e0
      omega
   ·apply Zfd.A6x0i
    have:g=u.ps.length:=by omega
    subst this
    rw [Zed (o:=0) (n:=2) ho (by simp)]
    simp only [List.drop_zero,List.take_succ_cons,List.take_zero,Zau,Zaj,Zar,Zaq,Zaf]
    rw [Zba hz (by simp)]
    simp only [Zat]
    rw [Zed (Zbv hz) (by simp [putRow])]
    simp only [putRow,List.take_zero,List.nil_append,List.length_cons,List.length_nil,List.cons_append,List.drop_succ_cons,List.drop_zero,List.drop_nil,List.append_nil,List.take_succ_cons,Zau,Zaj,Zaq,Zaf,Zar]
    refine ⟨⟨by simp; exact hS.le,fun j hj=>by rw [Zbl (by omega)]; exact hS.eq j hj⟩,_,rfl,?_⟩
    have hget:∀ j,j≠h0.length→(h'.set h0.length (Zcc.cells Zab [.int .u8 (d:Int),.slice a u.ps.length cp e] false))[j]?=h'[j]?:=fun j hj=>Zbl (fun e=>hj e.symm)
    rw [← hTd]
    rcases hv with ⟨rfl,h0',_,hvs⟩ | ⟨j0,rfl,hj0⟩
    ·-- no parts
     have hps:T.ps=[]:=by rw [hTp,List.eq_nil_of_length_eq_zero h0']; rfl
     have hTk:=Ytc (t:=T) (by rw [hps]; rfl)
     rw [hTk,h0']
     exact ⟨_,_,_,rfl⟩
    ·have hj0n:j0≠h0.length:=by rcases ha j0 rfl with hh | hh <;> omega
     have hS4:=ha j0 rfl
     refine Zew.make (S:=fun j=>h.length≤j) (t:=T) (j:=j0) (n:=u.ps.length) (c:=cp) (e:=e) (vs:=vs) (by rw [hTp,List.length_map]) (by rcases hS4 with hh | hh <;> omega) (by rw [hTd,hget j0 hj0n]; exact hj0) hvl (fun k w x hw hx=>?_)
     rw [hTp,List.getElem?_map] at hx
     obtain ⟨y,hy,rfl⟩:=Option.map_eq_some_iff.1 hx
     have hr:=hp k w y hw hy
     rw [hTd]
     refine Zew.mono (S:=fun j=>hB.length≤j∧∀ j1,(some (j0,0):Pt)=some (j1,0)→j≠j1) (fun j hj=>by have:=hj.1; omega) (hr.agree fun j hj=>hget j (by have:=hj.1; omega))
  cases hv:Zbd u.hd with
  | true=>
   obtain ⟨k,hk6,hkv,hix⟩:=Zyd hv
   rw [hv,if_pos rfl] at hdh
   rw [hix]
   refine Zav (fun _=>?_) (fun h=>absurd (by omega) h)
   rw [Yss (by omega)]
   unfold Zjs
   refine ⟨⟨by omega,by simp; omega⟩,?_⟩
   have hb:([88,89,90,120,121,122,49,50,51,52,53,54]:List Nat).getD (Int.toNat ((k + 6:Nat):Int)) 0=d:=by
    rw [Int.toNat_natCast,hdh]
    match k,hk6,hkv with
    | 0,_,e | 1,_,e | 2,_,e | 3,_,e | 4,_,e | 5,_,e=>simp [Zef] at e; rw [← e]; rfl
   rw [hb]
   show Zbx (Zbb h5 (.ptr (some (oi,0))) [.int .u8 (d:Int)]) fun h_11=>Zfd.J5 _ _ _ _ _ _ _ h_11
   rw [Zba oC (by simp)]
   simp only [Zat,putRow,List.take_zero,List.length_cons,List.length_nil,List.drop_succ_cons,List.drop_zero,List.drop_nil,List.cons_append,List.nil_append,List.append_nil,Nat.zero_add]
   exact main _ (by simp) (fun j hj=>Zbl fun e=>hj e.symm) (Zbv oC)
  | false=>
   rw [hv] at hdh
   simp only [Bool.false_eq_true,if_false] at hdh
   rw [Zxy hu hv]
   refine Zav (fun h=>absurd h (by decide)) (fun _=>?_)
   exact main _ rfl (fun _ _=>rfl) (by rw [hdh]; exact oC)
end Go.Sim
