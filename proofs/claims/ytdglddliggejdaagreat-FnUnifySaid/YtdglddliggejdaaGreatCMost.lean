/- A part of the proof of a statement of this seat: see the text that holds the theorem. No condition. -/
import Derived.Test.YtdglddliggejdaaGreatPTCMatch2
import Derived.Test.YtdglddliggejdaaGreatCSUn2
import Derived.Test.YtdglddliggejdaaGreatNm
import Derived.Test.YtdglddliggejdaaGreatPTCApply
import Derived.Test.YtdglddliggejdaaGreatPApply
import Derived.Test.YtdglddliggejdaaGreatPTCDraw
import Derived.Test.YtdglddliggejdaaGreatPWorld
set_option linter.unusedVariables false
set_option linter.unusedSimpArgs false
set_option linter.all false
set_option linter.unusedVariables false
set_option linter.unusedSimpArgs false
set_option maxRecDepth 20000
namespace Go.Sim
open Go Go.RowKit

def Zpb (Q:QT) (a0:Pt) (l l0:Nat) (x_52 x_55:Int) (h_54:Zaa):Prop:=
 bcase (decide ((x_52:Int) ≥ 0)) (bcase ((x_52:Int) == x_55) (Q (.bool true) h_54) (bcase (decide ((x_52:Int) ≥ 0)) (bcase (decide ((x_55:Int) < 0)) (Zbo .u8 (Zah h_54 (.ptr (some (l,0 + 0)))) fun x_56=>Zdg (Zcv h_54 (.ptr (some (l0,0))) 2) fun cs_57=>Zai cs_57 fun c_58 r_59=>Zbo .u8 (some c_58) fun x_60=>Zai r_59 fun c_61 r_62=>xSl (some c_61) fun a_63 n_64 c_65 e_66=>Zcg r_62 (Zac pg Zca [.ptr a0,.int .u8 x_56,.agg [.int .u8 x_60,.slice a_63 n_64 c_65 e_66]] h_54 fun v_67 h_68=>
 Zbh (some v_67) fun b_69=>bcase b_69 (Q (.bool false) h_68) (Zax a0 fun i_70 o_71=>Zdg (Zcv h_68 (.ptr (some (l0,0))) 2) fun cs_72=>Zai cs_72 fun c_73 r_74=>Zbo .u8 (some c_73) fun x_75=>Zai r_74 fun c_76 r_77=>xSl (some c_76) fun a_78 n_79 c_80 e_81=>Zcg r_77 ((0≤(x_52:Int)∧(x_52:Int) < (12:Nat))∧(Zcc (Zbf h_68 (.ptr (some (i_70,o_71 + (Int.toNat x_52) * 2))) [.int .u8 x_75,.slice a_78 n_79 c_80 e_81]) fun h_82=>Q (.bool true) h_82))))) (bcase (decide ((x_52:Int) < x_55)) (Zbo .u8 (Zah h_54 (.ptr (some (l,0 + 0)))) fun x_83=>Zdg (Zcv h_54 (.ptr (some (l0,0))) 2) fun cs_84=>Zai cs_84 fun c_85 r_86=>Zbo .u8 (some c_85) fun x_87=>Zai r_86 fun c_88 r_89=>xSl (some c_88) fun a_90 n_91 c_92 e_93=>Zcg r_89 (Zac pg Zca [.ptr a0,.int .u8 x_83,.agg [.int .u8 x_87,.slice a_90 n_91 c_92 e_93]] h_54 fun v_94 h_95=>
 Zbh (some v_94) fun b_96=>bcase b_96 (Q (.bool false) h_95) (Zax a0 fun i_97 o_98=>Zdg (Zcv h_95 (.ptr (some (l0,0))) 2) fun cs_99=>Zai cs_99 fun c_100 r_101=>Zbo .u8 (some c_100) fun x_102=>Zai r_101 fun c_103 r_104=>xSl (some c_103) fun a_105 n_106 c_107 e_108=>Zcg r_104 ((0≤(x_52:Int)∧(x_52:Int) < (12:Nat))∧(Zcc (Zbf h_95 (.ptr (some (i_97,o_98 + (Int.toNat x_52) * 2))) [.int .u8 x_102,.slice a_105 n_106 c_107 e_108]) fun h_109=>Q (.bool true) h_109))))) (bcase (decide ((x_55:Int) ≥ 0)) (Zdg (Zcv h_54 (.ptr (some (l0,0))) 2) fun cs_110=>Zai cs_110 fun c_111 r_112=>Zbo .u8 (some c_111) fun x_113=>Zai r_112 fun c_114 r_115=>xSl (some c_114) fun a_116 n_117 c_118 e_119=>Zcg r_115 (Zdg (Zcv h_54 (.ptr (some (l,0))) 2) fun cs_120=>Zai cs_120 fun c_121 r_122=>Zbo .u8 (some c_121) fun x_123=>Zai r_122 fun c_124 r_125=>xSl (some c_124) fun a_126 n_127 c_128 e_129=>Zcg r_125 (Zac pg Zbt [.ptr a0,.agg [.int .u8 x_113,.slice a_116 n_117 c_118 e_119],.agg [.int .u8 x_123,.slice a_126 n_127 c_128 e_129]] h_54 fun v_130 h_131=>
 Zbh (some v_130) fun b_132=>Q (.bool b_132) h_131))) (Zbo .u8 (Zah h_54 (.ptr (some (l,0 + 0)))) fun x_133=>Zbo .u8 (Zah h_54 (.ptr (some (l0,0 + 0)))) fun x_134=>bcase (!((x_133:Int) == x_134)) (Q (.bool false) h_54) (Zcw.J15 Q l 0 a0 (l0) 0 h_54))))) (bcase (decide ((x_55:Int) ≥ 0)) (Zdg (Zcv h_54 (.ptr (some (l0,0))) 2) fun cs_135=>Zai cs_135 fun c_136 r_137=>Zbo .u8 (some c_136) fun x_138=>Zai r_137 fun c_139 r_140=>xSl (some c_139) fun a_141 n_142 c_143 e_144=>Zcg r_140 (Zdg (Zcv h_54 (.ptr (some (l,0))) 2) fun cs_145=>Zai cs_145 fun c_146 r_147=>Zbo .u8 (some c_146) fun x_148=>Zai r_147 fun c_149 r_150=>xSl (some c_149) fun a_151 n_152 c_153 e_154=>Zcg r_150 (Zac pg Zbt [.ptr a0,.agg [.int .u8 x_138,.slice a_141 n_142 c_143 e_144],.agg [.int .u8 x_148,.slice a_151 n_152 c_153 e_154]] h_54 fun v_155 h_156=>
 Zbh (some v_155) fun b_157=>Q (.bool b_157) h_156))) (Zbo .u8 (Zah h_54 (.ptr (some (l,0 + 0)))) fun x_158=>Zbo .u8 (Zah h_54 (.ptr (some (l0,0 + 0)))) fun x_159=>bcase (!((x_158:Int) == x_159)) (Q (.bool false) h_54) (Zcw.J15 Q l 0 a0 (l0) 0 h_54))))) (bcase (decide ((x_52:Int) ≥ 0)) (bcase (decide ((x_55:Int) < 0)) (Zbo .u8 (Zah h_54 (.ptr (some (l,0 + 0)))) fun x_160=>Zdg (Zcv h_54 (.ptr (some (l0,0))) 2) fun cs_161=>Zai cs_161 fun c_162 r_163=>Zbo .u8 (some c_162) fun x_164=>Zai r_163 fun c_165 r_166=>xSl (some c_165) fun a_167 n_168 c_169 e_170=>Zcg r_166 (Zac pg Zca [.ptr a0,.int .u8 x_160,.agg [.int .u8 x_164,.slice a_167 n_168 c_169 e_170]] h_54 fun v_171 h_172=>
 Zbh (some v_171) fun b_173=>bcase b_173 (Q (.bool false) h_172) (Zax a0 fun i_174 o_175=>Zdg (Zcv h_172 (.ptr (some (l0,0))) 2) fun cs_176=>Zai cs_176 fun c_177 r_178=>Zbo .u8 (some c_177) fun x_179=>Zai r_178 fun c_180 r_181=>xSl (some c_180) fun a_182 n_183 c_184 e_185=>Zcg r_181 ((0≤(x_52:Int)∧(x_52:Int) < (12:Nat))∧(Zcc (Zbf h_172 (.ptr (some (i_174,o_175 + (Int.toNat x_52) * 2))) [.int .u8 x_179,.slice a_182 n_183 c_184 e_185]) fun h_186=>Q (.bool true) h_186))))) (bcase (decide ((x_52:Int) < x_55)) (Zbo .u8 (Zah h_54 (.ptr (some (l,0 + 0)))) fun x_187=>Zdg (Zcv h_54 (.ptr (some (l0,0))) 2) fun cs_188=>Zai cs_188 fun c_189 r_190=>Zbo .u8 (some c_189) fun x_191=>Zai r_190 fun c_192 r_193=>xSl (some c_192) fun a_194 n_195 c_196 e_197=>Zcg r_193 (Zac pg Zca [.ptr a0,.int .u8 x_187,.agg [.int .u8 x_191,.slice a_194 n_195 c_196 e_197]] h_54 fun v_198 h_199=>
 Zbh (some v_198) fun b_200=>bcase b_200 (Q (.bool false) h_199) (Zax a0 fun i_201 o_202=>Zdg (Zcv h_199 (.ptr (some (l0,0))) 2) fun cs_203=>Zai cs_203 fun c_204 r_205=>Zbo .u8 (some c_204) fun x_206=>Zai r_205 fun c_207 r_208=>xSl (some c_207) fun a_209 n_210 c_211 e_212=>Zcg r_208 ((0≤(x_52:Int)∧(x_52:Int) < (12:Nat))∧(Zcc (Zbf h_199 (.ptr (some (i_201,o_202 + (Int.toNat x_52) * 2))) [.int .u8 x_206,.slice a_209 n_210 c_211 e_212]) fun h_213=>Q (.bool true) h_213))))) (bcase (decide ((x_55:Int) ≥ 0)) (Zdg (Zcv h_54 (.ptr (some (l0,0))) 2) fun cs_214=>Zai cs_214 fun c_215 r_216=>Zbo .u8 (some c_215) fun x_217=>Zai r_216 fun c_218 r_219=>xSl (some c_218) fun a_220 n_221 c_222 e_223=>Zcg r_219 (Zdg (Zcv h_54 (.ptr (some (l,0))) 2) fun cs_224=>Zai cs_224 fun c_225 r_226=>Zbo .u8 (some c_225) fun x_227=>Zai r_226 fun c_228 r_229=>xSl (some c_228) fun a_230 n_231 c_232 e_233=>Zcg r_229 (Zac pg Zbt [.ptr a0,.agg [.int .u8 x_217,.slice a_220 n_221 c_222 e_223],.agg [.int .u8 x_227,.slice a_230 n_231 c_232 e_233]] h_54 fun v_234 h_235=>
 Zbh (some v_234) fun b_236=>Q (.bool b_236) h_235))) (Zbo .u8 (Zah h_54 (.ptr (some (l,0 + 0)))) fun x_237=>Zbo .u8 (Zah h_54 (.ptr (some (l0,0 + 0)))) fun x_238=>bcase (!((x_237:Int) == x_238)) (Q (.bool false) h_54) (Zcw.J15 Q l 0 a0 (l0) 0 h_54))))) (bcase (decide ((x_55:Int) ≥ 0)) (Zdg (Zcv h_54 (.ptr (some (l0,0))) 2) fun cs_239=>Zai cs_239 fun c_240 r_241=>Zbo .u8 (some c_240) fun x_242=>Zai r_241 fun c_243 r_244=>xSl (some c_243) fun a_245 n_246 c_247 e_248=>Zcg r_244 (Zdg (Zcv h_54 (.ptr (some (l,0))) 2) fun cs_249=>Zai cs_249 fun c_250 r_251=>Zbo .u8 (some c_250) fun x_252=>Zai r_251 fun c_253 r_254=>xSl (some c_253) fun a_255 n_256 c_257 e_258=>Zcg r_254 (Zac pg Zbt [.ptr a0,.agg [.int .u8 x_242,.slice a_245 n_246 c_247 e_248],.agg [.int .u8 x_252,.slice a_255 n_256 c_257 e_258]] h_54 fun v_259 h_260=>
 Zbh (some v_259) fun b_261=>Q (.bool b_261) h_260))) (Zbo .u8 (Zah h_54 (.ptr (some (l,0 + 0)))) fun x_262=>Zbo .u8 (Zah h_54 (.ptr (some (l0,0 + 0)))) fun x_263=>bcase (!((x_262:Int) == x_263)) (Q (.bool false) h_54) (Zcw.J15 Q l 0 a0 (l0) 0 h_54))))
section
variable {S:Nat→Prop} {i:Nat} {σ:Nat→Option Ty} {F:Nat→Ty}
theorem Zom {Q:QT} (rs:Rsv V12 σ F) (hdom:∀ c u,σ c=some u→V12 c=true∧okL Zpk u=true) {h:Zaa} {a b a' b':Ty} {n n':Nat} {va vb:List Zad} (m:Zna S h i σ) (hSi:∀ j,S j→j < h.length∧j≠i) (hao:okL Zpk a=true) (hbo:okL Zpk b=true) (hw:Wlk σ n a a') (hw':Wlk σ n' b b') (ra:Zdk S h a va) (rb:Zdk S h b vb)
  (hK:∀ (hX:Zaa) (pa pb:Pt) (ca cb:Nat) (ea eb:Bool),Zbi h.length h hX→hX[h.length]?=some (.cells Zab [.int .u8 (a'.hd:Int),.slice pa a'.ps.length ca ea] false)→hX[h.length + 1]?=some (.cells Zab [.int .u8 (b'.hd:Int),.slice pb b'.ps.length cb eb] false) →
   Zdk S hX a' [.int .u8 (a'.hd:Int),.slice pa a'.ps.length ca ea]→Zdk S hX b' [.int .u8 (b'.hd:Int),.slice pb b'.ps.length cb eb]→Zna S hX i σ→Zpb Q (some (i,0)) h.length (h.length + 1) (Zme Zee a'.hd) (Zme Zee b'.hd) hX) :
  Zac pg Zbt [.ptr (some (i,0)),.agg va,.agg vb] h Q:=by
 obtain ⟨aa,ca,ea,rfl⟩:=ra.shape
 obtain ⟨ab,cb,eb,rfl⟩:=rb.shape
 have hil:=m.lt
 apply Zcw.call
 simp only [Zba]
 generalize hh0:h ++ [Zci.cells Zab [.int .u8 (a.hd:Int),.slice aa a.ps.length ca ea] false]=h0
 generalize hh1:h0 ++ [Zci.cells Zab [.int .u8 (b.hd:Int),.slice ab b.ps.length cb eb] false]=h1
 have s0:Zbi h.length h h0:=by rw [← hh0]; exact Zav
 have s1:Zbi h0.length h0 h1:=by rw [← hh1]; exact Zav
 have l0:h0.length=h.length + 1:=by rw [← hh0]; simp
 have l1:h1.length=h.length + 2:=by rw [← hh1]; simp [l0]
 have oa0:h0[h.length]?=some (.cells Zab [.int .u8 (a.hd:Int),.slice aa a.ps.length ca ea] false):=by rw [← hh0]; simp
 have oa:=s1.get oa0 (Own.lt oa0)
 have ob:h1[h0.length]?=some (.cells Zab [.int .u8 (b.hd:Int),.slice ab b.ps.length cb eb] false):=by rw [← hh1]; simp
 have S1:=s0.cat s1
 have hSi':∀ hX:Zaa,h.length≤hX.length→∀ j,S j→j < hX.length∧j≠i:=fun hX hl j hj=>⟨by have:=(hSi j hj).1; omega,(hSi j hj).2⟩
 rw [Zdp oa]
 simp only [Zaw,Zaf,Zan,Zae,Zak]
 refine (Zns (m.same S1) (hSi' h1 (by omega)) hdom hao hw (ra.same S1)).mono ?_
 rintro v h2 ⟨s2,va',rfl,ra2⟩
 obtain ⟨pa,pca,pea,rfl⟩:=ra2.shape
 have oa2:=s2.get oa (Own.lt oa)
 have ob2:=s2.get ob (Own.lt ob)
 have l2:=s2.le
 simp only [Zdz,Zaf,Zan,Zae,Zak]
 rw [Zbj oa2 (by simp)]
 simp only [Zas,putRow,List.take_zero,List.length_cons,List.length_nil,List.drop_succ_cons,List.drop_zero,List.drop_nil,List.cons_append,List.nil_append,List.append_nil,Nat.zero_add]
 generalize hh3:h2.set h.length (.cells Zab [.int .u8 (a'.hd:Int),.slice pa a'.ps.length pca pea] false)=h3
 have oa3:h3[h.length]?=some (.cells Zab [.int .u8 (a'.hd:Int),.slice pa a'.ps.length pca pea] false):=by rw [← hh3]; exact Zch oa2
 have l3:h3.length=h2.length:=by rw [← hh3]; simp
 have k3:∀ j,j≠h.length→h3[j]?=h2[j]?:=fun j hj=>by rw [← hh3]; exact Zbr fun e=>hj e.symm
 have ob3:h3[h0.length]?=some (.cells Zab [.int .u8 (b.hd:Int),.slice ab b.ps.length cb eb] false):=by rw [k3 _ (by omega)]; exact ob2
 have S3:Zbi h.length h h3:=⟨by omega,fun j hj=>by rw [k3 j (by omega),s2.eq j (by omega)]; exact S1.eq j hj⟩
 rw [Zdp ob3]
 simp only [Zaw,Zaf,Zan,Zae,Zak]
 refine (Zns (m.same S3) (hSi' h3 (by omega)) hdom hbo hw' (rb.same S3)).mono ?_
 rintro v h4 ⟨s4,vb',rfl,rb4⟩
 obtain ⟨pb,pcb,peb,rfl⟩:=rb4.shape
 have oa4:=s4.get oa3 (Own.lt oa3)
 have ob4:=s4.get ob3 (Own.lt ob3)
 have l4:=s4.le
 simp only [Zdz,Zaf,Zan,Zae,Zak]
 rw [Zbj ob4 (by simp)]
 simp only [Zas,putRow,List.take_zero,List.length_cons,List.length_nil,List.drop_succ_cons,List.drop_zero,List.drop_nil,List.cons_append,List.nil_append,List.append_nil,Nat.zero_add]
 generalize hh5:h4.set h0.length (.cells Zab [.int .u8 (b'.hd:Int),.slice pb b'.ps.length pcb peb] false)=h5
 have ob5:h5[h0.length]?=some (.cells Zab [.int .u8 (b'.hd:Int),.slice pb b'.ps.length pcb peb] false):=by rw [← hh5]; exact Zch ob4
 have l5:h5.length=h4.length:=by rw [← hh5]; simp
 have k5:∀ j,j≠h0.length→h5[j]?=h4[j]?:=fun j hj=>by rw [← hh5]; exact Zbr fun e=>hj e.symm
 have oa5:h5[h.length]?=some (.cells Zab [.int .u8 (a'.hd:Int),.slice pa a'.ps.length pca pea] false):=by rw [k5 _ (by omega)]; exact oa4
 have S5:Zbi h.length h h5:=⟨by omega,fun j hj=>by rw [k5 j (by omega),s4.eq j (by omega)]; exact S3.eq j hj⟩
 have ra5:Zdk S h5 a' [.int .u8 (a'.hd:Int),.slice pa a'.ps.length pca pea]:=ra2.agree fun j hj=>by
  have:=(hSi j hj).1
  rw [S5.eq j this,← S3.eq j this,k3 j (by omega)]
 have rb5:Zdk S h5 b' [.int .u8 (b'.hd:Int),.slice pb b'.ps.length pcb peb]:=rb4.agree fun j hj=>k5 j (by have:=(hSi j hj).1; omega)
 simp only [Zal oa5,Zal ob5,List.getElem?_cons_zero,Zae]
 refine (Zih a'.hd).mono ?_
 rintro v h6 ⟨rfl,rfl⟩
 simp only [Zae]
 refine ⟨by rw [Zal ob5]; rfl,?_⟩
 refine (Zih b'.hd).mono ?_
 rintro v h7 ⟨rfl,rfl⟩
 simp only [Zae]
 rw [l0] at ob5
 refine ⟨by trivial,?_⟩
 have key:=hK h7 pa pb pca pcb pea peb S5 oa5 ob5 ra5 rb5 (m.same S5)
 unfold Zpb at key
 rw [l0]
 simp only [Zal oa5,Zal ob5,Nat.zero_add,List.getElem?_cons_zero,Zae] at key ⊢
 exact key
theorem Zoa {P:Ty→Prop} (rs:Rsv V12 σ F) (hi:Inc Zlq V12 σ) (hP:∀ t,P t→okL Zpk t=true) (hσ:∀ c t,σ c=some t→P (.k c)∧P t) {h:Zaa} {a b b':Ty} {x n n':Nat} {va vb:List Zad} (m:Zna S h i σ) (hSi:∀ j,S j→j < h.length∧j≠i)
  (ha:P a) (hb:P b) (hx:P (.k x)) (hb':P b') (hw:Wlk σ n a (.k x)) (hw':Wlk σ n' b b') (hxv:V12 x=true) (hle:V12 b'.hd=true→Zlq x < Zlq b'.hd) (ra:Zdk S h a va) (rb:Zdk S h b vb) :
  Zac pg Zbt [.ptr (some (i,0)),.agg va,.agg vb] h (Zlr S i P σ F a b h):=by
 have hdom:∀ c u,σ c=some u→V12 c=true∧okL Zpk u=true:=fun c u h=>⟨rs.dom c u h,hP u (hσ c u h).2⟩
 have hx0:σ x=none:=hw.end_ x rfl
 have hbend:=hw'.end_
 have hbok:=hP b' hb'
 refine Zac.mono (Q:=Zlr S i P σ F (.k x) b' h) ?_ (fun v h' u=>u.walk rs hw hw')
 refine Zom rs hdom m hSi (hP a ha) (hP b hb) hw hw' ra rb fun hX pa pb ca cb ea eb S5 oa ob ra5 rb5 mX=>?_
 obtain ⟨k,hk,hkv,hix⟩:=Zji hxv
 have hrk:Zlq x=k:=by unfold Zlq; rw [hix]; rfl
 have hbc:∀ c,b'=.k c→σ c=none∧c≠x:=fun c e=>⟨hbend c e,fun e'=>by
  subst e'; subst e
  have:=hle (by simpa [Ty.hd] using hxv)
  simp [Ty.hd] at this⟩
 have hSX:∀ j,S j→j < hX.length∧j≠i:=fun j hj=>⟨by have:=(hSi j hj).1; have:=S5.le; omega,(hSi j hj).2⟩
 have hil:=m.lt
 have fin:∀ (Q:QT),(∀ v h',Zlr S i P σ F (.k x) b' h v h'→Q v h')→(Zbo .u8 (Zah hX (.ptr (some (h.length,0 + 0)))) fun x_56=>Zdg (Zcv hX (.ptr (some (h.length + 1,0))) 2) fun cs_57=>Zai cs_57 fun c_58 r_59=>Zbo .u8 (some c_58) fun x_60=>Zai r_59 fun c_61 r_62=>xSl (some c_61) fun a_63 n_64 c_65 e_66=>Zcg r_62 (Zac pg Zca [.ptr (some (i,0)),.int .u8 x_56,.agg [.int .u8 x_60,.slice a_63 n_64 c_65 e_66]] hX fun v_67 h_68=>
   Zbh (some v_67) fun b_69=>bcase b_69 (Q (.bool false) h_68) (Zax (some (i,0)) fun i_70 o_71=>Zdg (Zcv h_68 (.ptr (some (h.length + 1,0))) 2) fun cs_72=>Zai cs_72 fun c_73 r_74=>Zbo .u8 (some c_73) fun x_75=>Zai r_74 fun c_76 r_77=>xSl (some c_76) fun a_78 n_79 c_80 e_81=>Zcg r_77 ((0≤((k:Nat):Int)∧((k:Nat):Int) < (12:Nat))∧(Zcc (Zbf h_68 (.ptr (some (i_70,o_71 + (Int.toNat (k:Int)) * 2))) [.int .u8 x_75,.slice a_78 n_79 c_80 e_81]) fun h_82=>Q (.bool true) h_82))))):=by
  intro Q hQ
  rw [Zdp ob]
  simp only [Zal oa,Nat.zero_add,List.getElem?_cons_zero,Zae,Zaw,Zaf,Zan,Zak]
  refine (Zxo rs hdom (v:=x) hxv hx0 _ (Nat.le_refl _) mX hSX hbok rb5).mono ?_
  rintro v h6 ⟨rfl,s6⟩
  have K6:Zeo i h h6:=⟨(S5.cat s6).le,fun j hj _=>(S5.cat s6).eq j hj⟩
  simp only [Zag]
  refine Zfh (fun ho=>?_) (fun ho=>?_)
  ·refine hQ _ _ ⟨K6,.inr ⟨rfl,fun θ hs he=>Yfk rs hx0 hxv hbc ho θ ⟨hs,?_⟩⟩⟩
   rw [← he,sb,if_pos hxv]
  ·have ob6:=s6.get ob (Own.lt ob)
   rw [Zdp ob6]
   obtain ⟨h7,hst,K7,m7⟩:=(mX.same s6).put (fun j hj=>(hSi j hj).2) hkv (rb5.same s6)
   simp only [Zao,Zaw,Zaf,Zan,Zae,Zak,Int.toNat_natCast]
   rw [hst]
   simp only [Zas]
   obtain ⟨r2,hsol⟩:=rs.bind hx0 hxv hbc ho
   refine ⟨by omega,hQ _ _ ⟨K6.trans K7,.inl ⟨rfl,_,_,m7,r2,fun θ=>?_,hi.bind fun d hd hdv=>?_,fun c t hc=>?_,.inr (Yit hx0 (List.mem_of_getElem? hkv))⟩⟩⟩
   ·rw [hsol θ,sb,if_pos hxv]
   ·have:=hle (by rw [hd]; exact hdv)
    rw [hd] at this; exact this
   ·unfold upd at hc
    split at hc
    ·rename_i e; cases hc; rw [e]; exact ⟨hx,hb'⟩
    ·exact hσ c t hc
 unfold Zpb
 have hix':Zme Zee (Ty.k x).hd=(k:Int):=hix
 rw [hix']
 refine Zar (fun _=>?_) (fun h=>absurd (by omega:(k:Int) ≥ 0) h)
 cases hv:V12 b'.hd with
 | false=>
  rw [Zqm hbok hv]
  refine Zcq (fun h=>by omega) (fun _=>?_)
  refine Zar (fun _=>?_) (fun h=>absurd (by omega:(k:Int) ≥ 0) h)
  refine Zar (fun _=>fin _ fun v h' u=>u) (fun h=>absurd (by omega) h)
 | true=>
  obtain ⟨k',hk',hkv',hix2⟩:=Zji hv
  have hrk':Zlq b'.hd=k':=by unfold Zlq; rw [hix2]; rfl
  have hlt:=hle hv
  rw [hix2]
  refine Zcq (fun h=>by omega) (fun _=>?_)
  refine Zar (fun _=>?_) (fun h=>absurd (by omega:(k:Int) ≥ 0) h)
  refine Zar (fun h=>by omega) (fun _=>?_)
  refine Zar (fun _=>fin _ fun v h' u=>u) (fun h=>absurd (by omega) h)
end
end Go.Sim

set_option linter.unusedVariables false
set_option linter.unusedSimpArgs false
set_option maxRecDepth 20000
namespace Go.Sim
open Go Go.RowKit

theorem Yar {i:Nat} {h h':Zaa} (s:Zbi h.length h h'):Zeo i h h':=⟨s.le,fun j hj _=>s.eq j hj⟩
theorem Yha {h h':Zaa} {i j:Nat} {x:Zci} (K:Zeo i h h') (hj:h[j]?=some x) (hi:j≠i):h'[j]?=some x:=by rw [K.eq j (Own.lt hj) hi]; exact hj
section
variable {S:Nat→Prop} {i:Nat} {P:Ty→Prop}
theorem Zlr.base {σ:Nat→Option Ty} {F:Nat→Ty} {a b:Ty} {h hX h':Zaa} {v:Zad} (s:Zbi h.length h hX) (u:Zlr S i P σ F a b hX v h'):Zlr S i P σ F a b h v h':=⟨(Yar s).trans u.1,u.2⟩
theorem Yah (hP:∀ t,P t→okL Zpk t=true) (hPs:∀ t,P t→∀ p∈t.ps,P p):∀ (U K:Nat) {σ:Nat→Option Ty} {F:Nat→Ty} {h:Zaa} {a b:Ty} {va vb:List Zad},unb Zee σ≤U→(sb V12 F a).size≤K→Rsv V12 σ F→Inc Zlq V12 σ→(∀ c t,σ c=some t→P (.k c)∧P t) →
  Zna S h i σ→(∀ j,S j→j < h.length∧j≠i)→P a→P b→Zdk S h a va→Zdk S h b vb→Zac pg Zbt [.ptr (some (i,0)),.agg va,.agg vb] h (Zlr S i P σ F a b h):=by
 intro U
 induction U using Nat.strongRecOn with
 | ind U ihU=>
 intro K
 induction K using Nat.strongRecOn with
 | ind K ihK=>
 intro σ F h a b va vb hU hK rs hi hσ m hSi ha hb ra rb
 have hdom:∀ c u,σ c=some u→V12 c=true∧okL Zpk u=true:=fun c u h=>⟨rs.dom c u h,hP u (hσ c u h).2⟩
 obtain ⟨n,a',hw,ha',heqa⟩:=rs.walked P (fun c t h=>(hσ c t h).2) ha
 obtain ⟨n',b',hw',hb',heqb⟩:=rs.walked P (fun c t h=>(hσ c t h).2) hb
 have hao:=hP a' ha'
 have hbo:=hP b' hb'
 have haend:=hw.end_
 have hbend:=hw'.end_
 have hil:=m.lt
 cases hva:V12 a'.hd with
 | true=>
  have hak:=Zkd hao hva
  obtain ⟨k,hk,hkv,hix⟩:=Zji hva
  have hrk:Zlq a'.hd=k:=by unfold Zlq; rw [hix]; rfl
  cases hvb:V12 b'.hd with
  | false=>
   rw [hak] at hw
   exact Zoa rs hi hP hσ m hSi ha hb (by rw [← hak]; exact ha') hb' hw hw' hva (fun h=>by rw [hvb] at h; cases h) ra rb
  | true=>
   have hbk:=Zkd hbo hvb
   obtain ⟨k',hk',hkv',hix'⟩:=Zji hvb
   have hrk':Zlq b'.hd=k':=by unfold Zlq; rw [hix']; rfl
   rcases Nat.lt_trichotomy k k' with hlt | heq | hgt
   ·rw [hak] at hw
    exact Zoa rs hi hP hσ m hSi ha hb (by rw [← hak]; exact ha') hb' hw hw' hva (fun _=>by omega) ra rb
   ·have hab:a'=b':=by
     rw [heq,hkv'] at hkv
     rw [hak,hbk,Option.some.inj hkv]
    refine Zac.mono (Q:=Zlr S i P σ F a' b' h) ?_ (fun v h' u=>u.walk rs hw hw')
    refine Zom rs hdom m hSi (hP a ha) (hP b hb) hw hw' ra rb fun hX pa pb ca cb ea eb S5 oa ob ra5 rb5 mX=>?_
    unfold Zpb
    rw [hix,hix']
    refine Zar (fun _=>?_) (fun h=>absurd (by omega:(k:Int) ≥ 0) h)
    refine Zcq (fun _=>?_) (fun h=>absurd (by omega) h)
    exact ⟨Yar S5,.inl ⟨rfl,σ,F,mX,rs,fun θ=>⟨fun h=>⟨h,by rw [hab]⟩,And.left⟩,hi,hσ,.inl ⟨rfl,rfl⟩⟩⟩
   ·refine Zac.mono (Q:=Zlr S i P σ F a' b' h) ?_ (fun v h' u=>u.walk rs hw hw')
    refine Zom rs hdom m hSi (hP a ha) (hP b hb) hw hw' ra rb fun hX pa pb ca cb ea eb S5 oa ob ra5 rb5 mX=>?_
    unfold Zpb
    rw [hix,hix']
    refine Zar (fun _=>?_) (fun h=>absurd (by omega:(k:Int) ≥ 0) h)
    refine Zcq (fun h=>by omega) (fun _=>?_)
    refine Zar (fun _=>?_) (fun h=>absurd (by omega:(k:Int) ≥ 0) h)
    refine Zar (fun h=>by omega) (fun _=>?_)
    refine Zar (fun h=>by omega) (fun _=>?_)
    refine Zar (fun _=>?_) (fun h=>absurd (by omega) h)
    rw [Zdp oa,Zdp ob]
    simp only [Zaw,Zaf,Zan,Zae,Zak]
    have hb2:=hb'
    rw [hbk] at hb2
    have wb:Wlk σ 0 b' (.k b'.hd):=by rw [← hbk]; exact .stop hbend
    refine (Zoa (S:=S) (va:=[.int .u8 (b'.hd:Int),.slice pb b'.ps.length cb eb]) (vb:=[.int .u8 (a'.hd:Int),.slice pa a'.ps.length ca ea]) rs hi hP hσ mX (fun j hj=>⟨by have:=(hSi j hj).1; have:=S5.le; omega,(hSi j hj).2⟩) hb' ha' hb2 ha' wb (.stop haend) hvb (fun _=>by omega) rb5 ra5).mono ?_
    rintro v h6 u
    have hu:=u.symm.base S5
    obtain ⟨_,⟨rfl,_⟩ | ⟨rfl,_⟩⟩:=id u
    ·simp only [Zag]; exact hu
    ·simp only [Zag]; exact hu
 | false=>
  refine Zac.mono (Q:=Zlr S i P σ F a' b' h) ?_ (fun v h' u=>u.walk rs hw hw')
  refine Zom rs hdom m hSi (hP a ha) (hP b hb) hw hw' ra rb fun hX pa pb ca cb ea eb S5 oa ob ra5 rb5 mX=>?_
  have hSX:∀ j,S j→j < hX.length∧j≠i:=fun j hj=>⟨by have:=(hSi j hj).1; have:=S5.le; omega,(hSi j hj).2⟩
  unfold Zpb
  rw [Zqm hao hva]
  refine Zar (fun h=>by omega) (fun _=>?_)
  refine Zar (fun h=>by omega) (fun _=>?_)
  cases hvb:V12 b'.hd with
  | true=>
   have hbk:=Zkd hbo hvb
   obtain ⟨k',hk',hkv',hix'⟩:=Zji hvb
   rw [hix']
   refine Zar (fun _=>?_) (fun h=>absurd (by omega) h)
   rw [Zdp oa,Zdp ob]
   simp only [Zaw,Zaf,Zan,Zae,Zak]
   have hb2:=hb'
   rw [hbk] at hb2
   have wb:Wlk σ 0 b' (.k b'.hd):=by rw [← hbk]; exact .stop hbend
   refine (Zoa (S:=S) (va:=[.int .u8 (b'.hd:Int),.slice pb b'.ps.length cb eb]) (vb:=[.int .u8 (a'.hd:Int),.slice pa a'.ps.length ca ea]) rs hi hP hσ mX hSX hb' ha' hb2 ha' wb (.stop haend) hvb (fun h=>by rw [hva] at h; cases h) rb5 ra5).mono ?_
   rintro v h6 u
   have hu:=u.symm.base S5
   obtain ⟨_,⟨rfl,_⟩ | ⟨rfl,_⟩⟩:=id u
   ·simp only [Zag]; exact hu
   ·simp only [Zag]; exact hu
  | false=>
   rw [Zqm hbo hvb]
   refine Zar (fun h=>by omega) (fun _=>?_)
   simp only [Zal oa,Zal ob,Nat.zero_add,List.getElem?_cons_zero,Zae]
   refine Zie (fun hne=>?_) (fun he=>?_)
   ·exact ⟨Yar S5,.inr ⟨rfl,fun θ _=>Yge (.inr hva) (.inr hvb) fun e=>hne (by rw [e])⟩⟩
   have hh:a'.hd=b'.hd:=by omega
   have hlen:=Yjl hao hbo hh
   have hps2:a'.ps.length≤2:=by cases a' <;> simp [Ty.ps]
   obtain ⟨_,_,_,vas,heqv,rowa,hSa,hval,hvas⟩:=id ra5.parts
   simp only [List.cons.injEq,Zad.slice.injEq,true_and,and_true] at heqv
   obtain ⟨rfl,rfl,rfl⟩:=heqv
   obtain ⟨_,_,_,vbs,heqv,rowb,hSb,hvbl,hvbs⟩:=id rb5.parts
   simp only [List.cons.injEq,Zad.slice.injEq,true_and,and_true] at heqv
   obtain ⟨rfl,rfl,rfl⟩:=heqv
   have hparts:∀ θ:Nat→Ty,sb V12 θ a'=sb V12 θ b' ↔ ∀ (j:Nat) (p q:Ty),a'.ps[j]?=some p→b'.ps[j]?=some q→sb V12 θ p=sb V12 θ q:=fun θ=>Yhh (.inr hva) (.inr hvb) hh hlen
   apply Zcw.J15i
   simp only [Zal oa,Nat.zero_add,List.getElem?_cons_succ,List.getElem?_cons_zero,Zak]
   refine Zcw.L16ind (J:=fun (g:Nat) x68 h'=>x68=(g:Int)∧g≤a'.ps.length∧Zeo i hX h'∧∃ σg Fg,Zna S h' i σg∧Rsv V12 σg Fg∧(∀ θ,Sol V12 σg θ ↔ Sol V12 σ θ∧∀ (j:Nat) (p q:Ty),j < g→a'.ps[j]?=some p→b'.ps[j]?=some q→sb V12 θ p=sb V12 θ q)∧Inc Zlq V12 σg∧(∀ c t,σg c=some t→P (.k c)∧P t)∧((σg=σ∧Fg=F) ∨ unb Zee σg < unb Zee σ)) (m:=fun g=>a'.ps.length - g) (hr:=?_) (g:=0)
    (hj:=⟨rfl,by omega,Zeo.refl _ _,σ,F,mX,rs,fun θ=>⟨fun h=>⟨h,fun j p q hj=>by omega⟩,And.left⟩,hi,hσ,.inl ⟨rfl,rfl⟩⟩)
   rintro g x68 h3 ⟨rfl,hg,K3,σg,Fg,mg,rg,hsol,hig,hσg,hcase⟩ R hR
   unfold Zcw.L16t
   have hX5:=S5.le
   refine Zar (fun hlt=>?_) (fun hge=>?_)
   ·have hga:g < a'.ps.length:=by omega
    have hgb:g < b'.ps.length:=by omega
    have oa3:=Yha K3 oa (by omega)
    have ob3:=Yha K3 ob (by omega)
    obtain ⟨ja,ofa,a3,c3,e3,rfl,hra,hka⟩:=Zdk.get (rowa.keepAt (i:=i) (fun j o h0 e=>(hSi j (hSa j o (by omega) e)).2) K3) hval (fun k w x h1 h2=>(hvas k w x h1 h2).keep fun j hj hl=>K3.eq j hl (hSi j hj).2) hga
    obtain ⟨jb,ofb,a4,c4,e4,rfl,hrb,hkb⟩:=Zdk.get (rowb.keepAt (i:=i) (fun j o h0 e=>(hSi j (hSb j o (by omega) e)).2) K3) hvbl (fun k w x h1 h2=>(hvbs k w x h1 h2).keep fun j hj hl=>K3.eq j hl (hSi j hj).2) hgb
    simp only [Zal oa3,Zal ob3,Nat.zero_add,List.getElem?_cons_succ,List.getElem?_cons_zero,Zak,Zao,Int.toNat_natCast,hra,hrb,Zaw,Zaf,Zan,Zae,true_and]
    have hma:=List.getElem_mem hga
    have hmb:=List.getElem_mem hgb
    have hpg:a'.ps[g]?=some a'.ps[g]:=List.getElem?_eq_getElem hga
    have hqg:b'.ps[g]?=some b'.ps[g]:=List.getElem?_eq_getElem hgb
    have hS3:∀ j,S j→j < h3.length∧j≠i:=fun j hj=>⟨by have:=(hSX j hj).1; have:=K3.le; omega,(hSi j hj).2⟩
    have hrec:Zac pg Zbt [.ptr (some (i,0)),.agg [.int .u8 (a'.ps[g].hd:Int),.slice a3 a'.ps[g].ps.length c3 e3],.agg [.int .u8 (b'.ps[g].hd:Int),.slice a4 b'.ps[g].ps.length c4 e4]] h3 (Zlr S i P σg Fg a'.ps[g] b'.ps[g] h3):=by
     rcases hcase with ⟨rfl,rfl⟩ | hlt'
     ·have:=Zlm (V:=V12) hma Fg
      rw [heqa] at hK
      exact ihK _ (by omega) hU (Nat.le_refl _) rg hig hσg mg hS3 (hPs a' ha' _ hma) (hPs b' hb' _ hmb) hka hkb
     ·exact ihU (unb Zee σg) (by omega) _ (Nat.le_refl _) (Nat.le_refl _) rg hig hσg mg hS3 (hPs a' ha' _ hma) (hPs b' hb' _ hmb) hka hkb
    refine ⟨by omega,by omega,hrec.mono ?_⟩
    rintro v h4 ⟨K4,⟨rfl,σ',F',m',r',hsol',hi',hσ',hc'⟩ | ⟨rfl,hno⟩⟩
    ·have oa4:=Yha K4 oa3 (by omega)
     simp only [Zag,Bool.not_true,Zat,Zal oa4,List.getElem?_cons_succ,List.getElem?_cons_zero,true_and]
     rw [Zby (by omega)]
     refine hR (g + 1) _ _ (by omega) ⟨rfl,by omega,K3.trans K4,σ',F',m',r',fun θ=>?_,hi',hσ',?_⟩
     ·rw [hsol' θ,hsol θ]
      constructor
      ·rintro ⟨⟨h1,h2⟩,h3⟩
       refine ⟨h1,fun j p q hj hp hq=>?_⟩
       by_cases e:j=g
       ·subst e; rw [hpg] at hp; rw [hqg] at hq; cases hp; cases hq; exact h3
       ·exact h2 j p q (by omega) hp hq
      ·rintro ⟨h1,h2⟩
       exact ⟨⟨h1,fun j p q hj=>h2 j p q (by omega)⟩,h2 g _ _ (by omega) hpg hqg⟩
     ·rcases hc' with ⟨rfl,rfl⟩ | hc'
      ·exact hcase
      ·rcases hcase with ⟨rfl,rfl⟩ | hcase
       ·exact .inr hc'
       ·exact .inr (by omega)
    ·have oa4:=Yha K4 oa3 (by omega)
     simp only [Zag,Bool.not_false,Zaz,Zal oa4,List.getElem?_cons_succ,List.getElem?_cons_zero,true_and]
     refine ⟨(Yar S5).trans (K3.trans K4),.inr ⟨rfl,fun θ hs he=>?_⟩⟩
     have hall:=(hparts θ).1 he
     exact hno θ ((hsol θ).2 ⟨hs,fun j p q _=>hall j p q⟩) (hall g _ _ hpg hqg)
   ·apply Zcw.A16x1i
    have:g=a'.ps.length:=by omega
    subst this
    refine ⟨(Yar S5).trans K3,.inl ⟨rfl,σg,Fg,mg,rg,fun θ=>?_,hig,hσg,hcase⟩⟩
    rw [hsol θ,hparts θ]
    exact and_congr_right fun _=>⟨fun h j p q hp hq=>h j p q (List.getElem?_eq_some_iff.1 hp).1 hp hq,fun h j p q _=>h j p q⟩
end
end Go.Sim

set_option linter.unusedVariables false
set_option linter.unusedSimpArgs false
set_option maxRecDepth 20000
namespace Go.Sim
open Go Go.RowKit

theorem Ztg {k:Nat} (h0:0 < k) (hn:k≤9223372036854775807):IntKind.wrap .i64 ((k:Int) - 1)=((k - 1:Nat):Int):=by rw [IntWalk.i64_in _ (by omega)]; omega
theorem Zkr {h:Zaa} {a:Pt} {n c:Nat} {e:Bool} {l:List Nd} (r:Row h.length h a (n * 2) (Zec eP l)) (hn:n≤1048576) :
  Zac pg Zej [.slice a n c e] h fun v h'=>v=.bool (Zez l)∧Zbi h.length h h':=by
 have hl:l.length=n:=by have:=r.1; rw [Zbc Zgl] at this; omega
 apply Zcn.call
 refine Zcn.L2ind _ _ _ _ _ _ _ _ _ _ (J:=fun (g:Nat) x7 h'=>x7=(g:Int)∧g≤n∧Zbi h.length h h'∧(List.range g).all (Zlg l)=true) (fun g=>n - g) ?_ 0 _ _ ⟨rfl,by omega,Zbi.refl _ _,rfl⟩
 rintro g x7 h' ⟨rfl,hg,hS,hk⟩ R hR
 unfold Zcn.L2t
 refine Zar (fun hlt=>?_) (fun hge=>?_)
 ·obtain ⟨i,o,hgl,rfl,hi,hr,_,_⟩:=(r.same hS).pr (k:=g) (by omega)
  have hat:Zlg l g=(Zku l[g].1 && Znl l[g].2 && (g == 0 || Zeb (l.getD (g - 1) ([],[])).1 l[g].1)):=by unfold Zlg; rw [Zll hgl]
  have no:Zlg l g=false→Zez l=false:=fun hno=>Znw hgl hno
  simp only [Zao,Int.toNat_natCast,hr,Zaw,Zaf,Zan,Zap,Zba]
  rw [Zgg]
  generalize hq:h' ++ [Zci.cells Zaq [.str l[g].1,.str l[g].2] false]=hq'
  have sq:Zbi h'.length h' hq':=by rw [← hq]; exact Zav
  have oq:hq'[h'.length]?=some (.cells Zaq [.str l[g].1,.str l[g].2] false):=by rw [← hq]; simp
  simp only [Zas,Zal oq,Nat.zero_add,List.getElem?_cons_succ,List.getElem?_cons_zero,Zap]
  refine ⟨by omega,(Zjv l[g].1).mono ?_⟩
  rintro v h2 ⟨rfl,rfl⟩
  have Sq:=hS.cat sq
  simp only [Zag,true_and]
  refine Zdf (fun b1=>⟨by rw [no (by rw [hat,b1]; rfl)],Sq⟩) (fun b1=>?_)
  simp only [Zal oq,List.getElem?_cons_succ,List.getElem?_cons_zero,Zap]
  refine (Zhi l[g].2 h2).mono ?_
  rintro v h3 ⟨rfl,s3⟩
  simp only [Zag]
  have S3:=Sq.cat s3
  refine Zdf (fun b2=>⟨by rw [no (by rw [hat,b1,b2]; rfl)],S3⟩) (fun b2=>?_)
  have go:(g=0 ∨ Zeb (l.getD (g - 1) ([],[])).1 l[g].1=true)→Zcn.J6 (fun v h'=>v=.bool (Zez l)∧Zbi h.length h h') R (g:Int) (((n:Nat):Int)) (some (i,o)) n c e (some (i,o)) n c e h3:=by
   intro hz
   apply Zcn.J6i
   rw [Zby (by omega)]
   refine hR (g + 1) _ _ (by omega) ⟨rfl,by omega,S3,Zmr hk ?_⟩
   rw [hat,b1,b2]
   rcases hz with rfl | hz
   ·rfl
   ·rw [hz]; simp
  refine Zar (fun hpos=>?_) (fun hz=>go (.inl (by omega)))
  have hg0:0 < g:=by omega
  obtain ⟨i',o',hgl',he,_,_,hc',_⟩:=(r.same S3).pr (k:=g - 1) (by omega)
  cases he
  rw [Ztg hg0 (by omega)]
  simp only [Zao,Int.toNat_natCast,Nat.add_zero,hc',Zal (s3.get oq (Own.lt oq)),List.getElem?_cons_zero,Zap,true_and]
  have hgd:l.getD (g - 1) ([],[])=l[g - 1]:=Zll hgl'
  refine ⟨by omega,Zdf (fun b3=>⟨by rw [no (by rw [hat,b1,b2,hgd,b3]; simp; omega)],S3⟩) (fun b3=>go (.inr (by rw [hgd]; exact b3)))⟩
 ·apply Zcn.A2x0i
  have:g=n:=by omega
  subst this
  exact ⟨by unfold Zez; rw [hl,hk],hS⟩
theorem Ykt {s:List Nat} {g:Nat} (hg:g < s.length):sub s (g:Int) (((g + 1:Nat):Int))=[s[g]]:=by
 unfold sub
 rw [Int.toNat_natCast,Int.toNat_natCast,List.take_succ_eq_append_getElem hg,List.drop_append_of_le_length (by simp; omega),List.drop_of_length_le (by simp; omega)]; rfl
theorem Zuw {l:List Nd} (h:Zez l=true) (c:Nat):(Zqu l c).length≤60:=by
 obtain ⟨h1,h2⟩:=Zou h c
 rw [h1]
 cases hb:Zkc l c with
 | none=>simp [Ty.txt]
 | some t=>exact (h2 t hb).2
theorem Zpg {l:List Nd} (h:Zez l=true):∀ (t:List Nat),(Zgh l t).length≤60 * t.length
 | []=>by simp [Zgh]
 | c :: t=>by
  have h1:=Zuw h c
  have h2:=Zpg h t
  simp only [Zgh,List.flatMap_cons,List.length_append,List.length_cons] at h2 ⊢
  omega
theorem Zwv {l:List Nd} {t:List Nat} {g:Nat} (hg:g < t.length):Zgh l (t.take (g + 1))=Zgh l (t.take g) ++ Zqu l t[g]:=by
 unfold Zgh; rw [List.take_succ_eq_append_getElem hg,List.flatMap_append]; simp
noncomputable def Zhh (l:List Nd) (t:List Nat):Zad:=match Zfu l t with | some u=>.tup [.str u,.bool true] | none=>.tup [.str [],.bool false]
theorem Zhm {h:Zaa} {a:Pt} {n c:Nat} {e:Bool} {l:List Nd} {t:List Nat} (r:Row h.length h a (n * 2) (Zec eP l)) (hn:n≤1048576) :
  Zac pg Zdn [.slice a n c e,.str t] h fun v h'=>v=Zhh l t∧Zbi h.length h h':=by
 have hl:l.length=n:=by have:=r.1; rw [Zbc Zgl] at this; omega
 apply Zbp.call
 refine (Zkr r hn).mono ?_
 rintro v h1 ⟨rfl,s1⟩
 simp only [Zag]
 refine Zdf (fun b1=>⟨by unfold Zhh Zfu; rw [b1]; rfl,s1⟩) (fun b1=>?_)
 refine (Zhi t h1).mono ?_
 rintro v h2 ⟨rfl,s2⟩
 simp only [Zag]
 have S2:=s1.cat s2
 refine Zdf (fun b2=>⟨by unfold Zhh Zfu; rw [b1,b2]; rfl,S2⟩) (fun b2=>?_)
 have ht60:=Zzi b2
 apply Zbp.J3i
 refine Zbp.L5ind _ _ _ _ _ _ _ (J:=fun (g:Nat) x6 x21 h'=>x21=(g:Int)∧g≤t.length∧Zbi h.length h h'∧x6=Zgh l (t.take g)) (fun g=>t.length - g) ?_ 0 _ _ _ ⟨rfl,by omega,S2,by simp [Zgh]⟩
 rintro g x6 x21 h' ⟨rfl,hg,hS,rfl⟩ R hR
 unfold Zbp.L5t
 refine Zar (fun hlt=>?_) (fun hge=>?_)
 ·have hgt:g < t.length:=by omega
  rw [Zby (by omega),Ykt hgt]
  refine ⟨⟨by omega,by omega,by omega⟩,?_⟩
  have hal:=Zpg b1 (t.take g)
  rw [List.length_take] at hal
  have fin:∀ (h3:Zaa) (x8:List Nat),Zbi h.length h h3→x8=Zqu l t[g]→Zbp.A9x2 (fun v h'=>v=Zhh l t∧Zbi h.length h h') R (Zgh l (t.take g)) x8 (g:Int) (((t.length:Nat):Int)) t a n c e h3:=by
   intro h3 x8 s3 hx
   apply Zbp.A9x2i
   have:=Zuw b1 t[g]
   rw [hx,Zby (by omega)]
   exact ⟨by omega,hR (g + 1) _ _ _ (by omega) ⟨rfl,by omega,s3,(Zwv hgt).symm⟩⟩
  refine Zbp.L9ind _ _ _ _ _ _ _ _ _ _ _ _ _ _ _ (J:=fun (q:Nat) x8 x31 h3=>x31=(q:Int)∧q≤n∧Zbi h.length h h3∧x8=[t[g]]∧(l.take q).find? (fun p=>decide (p.1=[t[g]]))=none) (fun q=>n - q) ?_ 0 _ _ _ ⟨rfl,by omega,hS,rfl,rfl⟩
  rintro q x8 x31 h3 ⟨rfl,hq,hS3,rfl,hf⟩ R9 hR9
  unfold Zbp.L9t
  refine Zar (fun hlt3=>?_) (fun hge3=>?_)
  ·obtain ⟨i,o,hql,rfl,hi,hr,_,_⟩:=(r.same hS3).pr (k:=q) (by omega)
   simp only [Zao,Int.toNat_natCast,hr,Zaw,Zaf,Zan,Zap,Zba]
   rw [Zgg]
   have sq:Zbi h3.length h3 (h3 ++ [Zci.cells Zaq [.str l[q].1,.str l[q].2] false]):=Zav
   simp only [Zas,Zph,Nat.zero_add,List.getElem?_cons_succ,List.getElem?_cons_zero,Zap]
   refine ⟨by omega,Zar (fun he=>?_) (fun he=>?_)⟩
   ·refine fin _ _ (hS3.cat sq) ?_
    unfold Zqu
    rw [Zzw hql hf (by simp [he])]
   ·rw [Zby (by omega)]
    exact hR9 (q + 1) _ _ _ (by omega) ⟨rfl,by omega,hS3.cat sq,rfl,Zrc hql hf (by simp [he])⟩
  ·have:q=n:=by omega
   subst this
   rw [List.take_of_length_le (by omega)] at hf
   exact fin _ _ hS3 (by unfold Zqu; rw [hf])
 ·apply Zbp.A5x0i
  have:g=t.length:=by omega
  subst this
  rw [List.take_length]
  refine Zar (fun hbig=>⟨?_,hS⟩) (fun hsm=>⟨?_,hS⟩)
  ·unfold Zhh Zfu
   rw [if_neg (by simp; omega)]
  ·unfold Zhh Zfu
   rw [if_pos (by rw [b1,b2]; simp; omega)]
end Go.Sim

set_option linter.unusedVariables false
set_option linter.unusedSimpArgs false
set_option maxRecDepth 20000
namespace Go.Sim
open Go Go.RowKit

theorem Yaq {s:List Nat} (h:((s.length:Nat):Int)≠1):Zku s=false:=by
 match s,h with
 | [],_=>rfl
 | [x],h=>exact absurd rfl h
 | _ :: _ :: _,_=>rfl
theorem Ylp {s:List Nat} (h:((s.length:Nat):Int)=1):∃ v,s=[v]:=by
 match s,h with
 | [],h=>simp at h
 | [x],_=>exact ⟨x,rfl⟩
 | _ :: _ :: _,h=>simp at h; omega
theorem Zoz {h:Zaa} {a:Pt} {n c:Nat} {e:Bool} {l:List Nd} (r:Row h.length h a (n * 2) (Zec eP l)) (hn:n≤1048576) (hb:∀ p∈l,p.2.length≤1048576) (hb1:∀ p∈l,∀ x∈p.1,x < 256) :
  Zac pg Zfw [.slice a n c e] h fun v h'=>v=.bool (Zez l)∧Zbi h.length h h':=by
 have hl:l.length=n:=by have:=r.1; rw [Zbc Zgl] at this; omega
 apply Zcm.call
 refine Zcm.L2ind _ _ _ _ _ _ _ _ _ _ (J:=fun (g:Nat) x7 h'=>x7=(g:Int)∧g≤n∧Zbi h.length h h'∧(List.range g).all (Zlg l)=true) (fun g=>n - g) ?_ 0 _ _ ⟨rfl,by omega,Zbi.refl _ _,rfl⟩
 rintro g x7 h' ⟨rfl,hg,hS,hk⟩ R hR
 unfold Zcm.L2t
 refine Zar (fun hlt=>?_) (fun hge=>?_)
 ·obtain ⟨i,o,hgl,rfl,hi,hr,_,_⟩:=(r.same hS).pr (k:=g) (by omega)
  have hat:Zlg l g=(Zku l[g].1 && Znl l[g].2 && (g == 0 || Zeb (l.getD (g - 1) ([],[])).1 l[g].1)):=by unfold Zlg; rw [Zll hgl]
  have no:Zlg l g=false→Zez l=false:=fun hno=>Znw hgl hno
  have hbg:=hb _ (List.getElem_mem hgl)
  have hbg1:=hb1 _ (List.getElem_mem hgl)
  simp only [Zao,Int.toNat_natCast,hr,Zaw,Zaf,Zan,Zap,Zba]
  rw [Zgg]
  generalize hq:h' ++ [Zci.cells Zaq [.str l[g].1,.str l[g].2] false]=hq'
  have sq:Zbi h'.length h' hq':=by rw [← hq]; exact Zav
  have oq:hq'[h'.length]?=some (.cells Zaq [.str l[g].1,.str l[g].2] false):=by rw [← hq]; simp
  have Sq:=hS.cat sq
  simp only [Zas,Zal oq,Nat.zero_add,List.getElem?_cons_succ,List.getElem?_cons_zero,Zap,true_and]
  refine ⟨by omega,Zie (fun b0=>⟨by rw [no (by rw [hat,Yaq b0]; rfl)],Sq⟩) (fun b0=>?_)⟩
  obtain ⟨v,hv⟩:=Ylp b0
  rw [hv] at hbg1
  have hvl:=hbg1 v (by simp)
  rw [hv]
  refine ⟨by simp,?_⟩
  simp only [Int.toNat_zero,List.getD_cons_zero]
  refine (Zul v).mono ?_
  rintro v' h2 ⟨rfl,rfl⟩
  simp only [Zag]
  have hiv:Zku l[g].1=Zam v:=by rw [hv]; rfl
  refine Zdf (fun b1=>⟨by rw [no (by rw [hat,hiv,b1]; rfl)],Sq⟩) (fun b1=>?_)
  simp only [Zal oq,List.getElem?_cons_succ,List.getElem?_cons_zero,Zap]
  refine (Zuk l[g].2 (by omega) h2).mono ?_
  rintro v' h3 ⟨rfl,s3⟩
  simp only [Zag]
  have S3:=Sq.cat s3
  refine Zdf (fun b2=>⟨by rw [no (by rw [hat,b2]; simp)],S3⟩) (fun b2=>?_)
  have go:(g=0 ∨ Zeb (l.getD (g - 1) ([],[])).1 l[g].1=true)→Zcm.J6 (fun v h'=>v=.bool (Zez l)∧Zbi h.length h h') R (g:Int) (((n:Nat):Int)) (some (i,o)) n c e (some (i,o)) n c e h3:=by
   intro hz
   apply Zcm.J6i
   rw [Zby (by omega)]
   refine hR (g + 1) _ _ (by omega) ⟨rfl,by omega,S3,Zmr hk ?_⟩
   rw [hat,hiv,b1,b2]
   rcases hz with rfl | hz
   ·rfl
   ·rw [hz]; simp
  refine Zar (fun hpos=>?_) (fun hz=>go (.inl (by omega)))
  have hg0:0 < g:=by omega
  obtain ⟨i',o',hgl',he,_,_,hc',_⟩:=(r.same S3).pr (k:=g - 1) (by omega)
  cases he
  rw [Ztg hg0 (by omega)]
  simp only [Zao,Int.toNat_natCast,Nat.add_zero,hc',Zal (s3.get oq (Own.lt oq)),List.getElem?_cons_zero,Zap,true_and]
  have hgd:l.getD (g - 1) ([],[])=l[g - 1]:=Zll hgl'
  refine ⟨by omega,Zdf (fun b3=>⟨by rw [no (by rw [hat,hiv,b1,b2,hgd,b3]; simp; omega)],S3⟩) (fun b3=>go (.inr (by rw [hgd]; exact b3)))⟩
 ·apply Zcm.A2x0i
  have:g=n:=by omega
  subst this
  exact ⟨by unfold Zez; rw [hl,hk],hS⟩
theorem Zdk.below {S:Nat→Prop} {h:Zaa}:∀ {t:Ty} {v:List Zad},Zdk S h t v→Zdk (fun j=>S j∧j < h.length) h t v
 | .k d,_,h=>h
 | .u d x,_,⟨j,c,e,r,hv,sj,hj,hr⟩=>⟨j,c,e,r,hv,⟨sj,Own.lt hj⟩,hj,hr.below⟩
 | .w d x y,_,⟨j,c,e,r,r',hv,sj,hj,hr,hr'⟩=>⟨j,c,e,r,r',hv,⟨sj,Own.lt hj⟩,hj,hr.below,hr'.below⟩
theorem Ygw {f:Nat→Option Ty} {t:Ty} (h:f t.hd=none ∨ t.ps≠[]):(subst f t).hd=t.hd∧(subst f t).ps=t.ps.map (subst f):=by
 cases t with
 | k c=>
  have:f c=none:=by rcases h with h | h; exact h; exact absurd rfl h
  simp [subst,this,Ty.hd,Ty.ps]
 | u c a=>simp [subst,Ty.hd,Ty.ps]
 | w c a b=>simp [subst,Ty.hd,Ty.ps]
theorem Zrs:pg.underlying Zfn=some (.slice Zab):=by kernel_rfl
theorem Zvr:pg.cellsOf Zab=2:=by kernel_rfl
theorem Zvi:pg.okElem Zab=true:=by kernel_rfl
theorem Zvy:pg.bytesOf Zab≤127:=Nat.le_of_ble_eq_true (by kernel_rfl)
theorem Zpq {vs:List (List Zad)} (h:∀ v∈vs,v.length=2):vs.flatten.length=vs.length * 2:=by
 rw [List.length_flatten]
 induction vs with
 | nil=>rfl
 | cons v vs ih=>
  have h1:=h v (by simp)
  have h2:=ih (fun x hx=>h x (by simp [hx]))
  simp only [List.map_cons,List.sum_cons,List.length_cons]; omega
theorem Zuj:∀ (N:Nat) {t:Ty} {S:Nat→Prop} {h:Zaa} {vt:List Zad} {i:Nat} {m:Bd},t.size≤N→t.ok=true→(∀ j,S j→j < h.length∧j≠i)→Zdk S h t vt→Yfq S h i m→(∀ v u,Zcl m v=some u→u.ok=true)→(∀ v,Zam v=false→Zcl m v=none) →
  Zac pg Zhk [.ptr (some (i,0)),.agg vt] h fun x h'=>Zbi h.length h h'∧∃ vs,x=.agg vs∧Zdk (fun j=>S j ∨ h.length≤j) h' (subst (Zcl m) t) vs
 | 0,t,S,h,vt,i,m,hN,_,_,_,_,_,_=>by have:=t.size_ps; omega
 | N + 1,t,S,h,vt,i,m,hN,ht,hSi,rt,rm,hmo,hmn=>by
  obtain ⟨at',ct,et,vts,rfl,rowt,hSt,hvtl,hvt⟩:=id rt.parts
  have hps2:t.ps.length≤2:=by cases t <;> simp [Ty.ps]
  have hil:=rm.lt
  apply Zfe.call
  simp only [Zba]
  generalize hh0:h ++ [Zci.cells Zab [.int .u8 (t.hd:Int),.slice at' t.ps.length ct et] false]=h0
  generalize hh1:h0 ++ [Zci.cells Zab [.int .u8 0,.slice none 0 0 true] false]=h1
  have s0:Zbi h.length h h0:=by rw [← hh0]; exact Zav
  have s1:Zbi h0.length h0 h1:=by rw [← hh1]; exact Zav
  have o0:h0[h.length]?=some (.cells Zab [.int .u8 (t.hd:Int),.slice at' t.ps.length ct et] false):=by rw [← hh0]; simp
  have oa:=s1.get o0 (Own.lt o0)
  have oz:h1[h0.length]?=some (.cells Zab [.int .u8 0,.slice none 0 0 true] false):=by rw [← hh1]; simp
  have S1:=s0.cat s1
  have l0:h0.length=h.length + 1:=by rw [← hh0]; simp
  have l1:h1.length=h.length + 2:=by rw [← hh1]; simp [l0]
  simp only [Zal oa,Nat.zero_add,List.getElem?_cons_succ,List.getElem?_cons_zero,Zae]
  refine (Zih t.hd).mono ?_
  rintro v h2 ⟨rfl,rfl⟩
  have rm1:=rm.same S1
  simp only [Zae,Zao]
  -- nothing stands for the letter
  have main:Zcl m t.hd=none→Zfe.J4 (fun x h'=>Zbi h.length h h'∧∃ vs,x=.agg vs∧Zdk (fun j=>S j ∨ h.length≤j) h' (subst (Zcl m) t) vs) h.length 0 (some (i,0)) h0.length 0 h2:=by
   intro hno
   obtain ⟨hsh,hsp⟩:=Ygw (f:=Zcl m) (t:=t) (.inl hno)
   apply Zfe.J4i
   simp only [Zal oa,Nat.zero_add,List.getElem?_cons_succ,List.getElem?_cons_zero,Zae,Zba]
   generalize hh3:h2 ++ [Zci.cells Zab [] false]=h3
   have s3:Zbi h2.length h2 h3:=by rw [← hh3]; exact Zav
   have o3:h3[h2.length]?=some (.cells Zab [] false):=by rw [← hh3]; simp
   have l3:h3.length=h2.length + 1:=by rw [← hh3]; simp
   rw [Zgg]
   generalize hh4:h3 ++ [Zci.cells Zab [.int .u8 (t.hd:Int),.slice (some (h2.length,0)) 0 0 true] false]=h4
   have s4:Zbi h3.length h3 h4:=by rw [← hh4]; exact Zav
   have o4:h4[h3.length]?=some (.cells Zab [.int .u8 (t.hd:Int),.slice (some (h2.length,0)) 0 0 true] false):=by rw [← hh4]; simp
   have l4:h4.length=h3.length + 1:=by rw [← hh4]; simp
   have oa4:=s4.get (s3.get oa (Own.lt oa)) (by have:=Own.lt oa; omega)
   have oz4:=s4.get (s3.get oz (Own.lt oz)) (by have:=Own.lt oz; omega)
   have o34:=s4.get o3 (Own.lt o3)
   have S4:=(S1.cat s3).cat s4
   simp only [Zas,Zal oa4,List.getElem?_cons_succ,List.getElem?_cons_zero,Zak]
   refine Zfe.L6ind _ _ _ _ _ _ _ _ _ _ _ (J:=fun (g:Nat) x35 h'=>x35=(g:Int)∧g≤t.ps.length∧Zbi h.length h h'∧h4.length≤h'.length∧h'[h0.length]?=some (.cells Zab [.int .u8 0,.slice none 0 0 true] false) ∧
    ∃ (a:Pt) (cp:Nat) (e:Bool) (vs:List (List Zad)),h'[h3.length]?=some (.cells Zab [.int .u8 (t.hd:Int),.slice a g cp e] false)∧vs.length=g∧Vec Zab h' a g cp vs.flatten∧(∀ j,a=some (j,0)→j=h2.length ∨ h4.length≤j) ∧
     ∀ (k:Nat) (v:List Zad) (x:Ty),vs[k]?=some v→t.ps[k]?=some x→Zdk (fun j=>(S j ∨ h4.length≤j)∧∀ j0,a=some (j0,0)→j≠j0) h' (subst (Zcl m) x) v)
    (fun g=>t.ps.length - g) ?_ 0 _ _ ⟨rfl,by omega,S4,Nat.le_refl _,oz4,some (h2.length,0),0,true,[],o4,rfl,Vec.mk1 (by simpa using o34),fun j hj=>by cases hj; exact .inl rfl,by simp⟩
   rintro g x35 h' ⟨rfl,hg,hS,hl4,hz,a,cp,e,vs,ho,hvl,hv,ha,hp⟩ R hR
   unfold Zfe.L6t
   have hz2:∀ v∈vs,v.length=2:=fun v hv=>by
    obtain ⟨k,hk,rfl⟩:=List.mem_iff_getElem.1 hv
    exact (hp k vs[k] (t.ps[k]'(by omega)) (List.getElem?_eq_getElem hk) (List.getElem?_eq_getElem (by omega))).len
   refine Zar (fun hlt=>?_) (fun hge=>?_)
   ·have hgt:g < t.ps.length:=by omega
    obtain ⟨jt,oft,a4,c4,e4,rfl,hrt,hkt⟩:=Zdk.get (rowt.same' hS) hvtl (fun k w x h1 h2=>(hvt k w x h1 h2).same hS) hgt
    simp only [Zao,Int.toNat_natCast,hrt,Zaw,Zaf,Zan,Zae,Zak,Zba]
    rw [Zgg]
    generalize hq:h' ++ [Zci.cells Zab [.int .u8 (t.ps[g].hd:Int),.slice a4 t.ps[g].ps.length c4 e4] false]=hq'
    have sq:Zbi h'.length h' hq':=by rw [← hq]; exact Zav
    have oq:=sq.get ho (Own.lt ho)
    simp only [Zas,Zal oq,Nat.zero_add,List.getElem?_cons_succ,List.getElem?_cons_zero,Zak]
    rw [← hq,Ybp,hq]
    simp only [Zaw,Zaf,Zan,Zae,Zak,true_and]
    have hmt:=List.getElem_mem hgt
    have h1:=Ty.size_part hmt
    have hlq:=sq.le
    have hSle:=hS.le
    refine ⟨by omega,(Zuj N (by omega) (Ty.ok_ps ht _ hmt) (S:=S) (fun j hj=>⟨by have:=(hSi j hj).1; omega,(hSi j hj).2⟩) (hkt.same sq) (rm.same (hS.cat sq)) hmo hmn).mono ?_⟩
    rintro v h5 ⟨s5,nv,rfl,hn5⟩
    obtain ⟨na,nc,ne,hnv⟩:=hn5.shape
    rw [hnv] at hn5
    have o5:=s5.get oq (Own.lt oq)
    simp only [hnv,Zdz,Zaf,Zan,Zae,Zak,Zal o5,List.getElem?_cons_succ,List.getElem?_cons_zero,true_and]
    have hc6:Zah (h5 ++ [Zci.cells Zab [.int .u8 ((subst (Zcl m) t.ps[g]).hd:Int),.slice na (subst (Zcl m) t.ps[g]).ps.length nc ne] false]) (.ptr (some (h3.length,1)))=some (.slice a g cp e):=by rw [Zal (Zkb o5)]; rfl
    refine ⟨by rw [hc6],?_⟩
    have v5:=(hv.same sq).same s5
    have hl5:=s5.le
    refine v5.pushN Zrs Zvr Zvi Zvy (by rw [Zpq hz2]; omega) rfl (by omega) rfl (by omega) (fun h7 hl7 hi7 hk7=>?_)
    simp only [Zak]
    have hz5:=s5.get (sq.get hz (Own.lt hz)) (by have:=Own.lt hz; omega)
    have ha5:∀ j,a=some (j,0)→j=h2.length ∨ h4.length≤j:=ha
    have o7:h7[h3.length]?=some (.cells Zab [.int .u8 (t.hd:Int),.slice a g cp e] false):=by
     rw [hk7 _ (Own.lt o5) fun j hj=>by rcases ha j hj with hh | hh <;> omega]; exact o5
    rw [Zbj o7 (by simp)]
    simp only [Zas,putRow,List.take_succ_cons,List.take_zero,List.length_cons,List.length_nil,List.drop_succ_cons,List.drop_nil,List.cons_append,List.nil_append,List.append_nil]
    rw [Zby (by omega)]
    have hS5:=(hS.cat sq).cat s5
    have h7o:∀ j,j < h5.length→(∀ j0,a=some (j0,0)→j≠j0)→j≠h3.length→(h7.set h3.length (Zci.cells Zab [.int .u8 (t.hd:Int),.slice (some (h5.length + 1,0)) (g + 1) (g + 1) false] false))[j]?=h5[j]?:=fun j hj hne hne2=>by rw [Zbr (by omega),hk7 j hj hne]
    refine hR (g + 1) _ _ (by omega) ⟨rfl,by omega,⟨by simp; omega,fun j hj=>?_⟩,by simp; omega,?_,some (h5.length + 1,0),g + 1,false,vs ++ [[.int .u8 ((subst (Zcl m) t.ps[g]).hd:Int),.slice na (subst (Zcl m) t.ps[g]).ps.length nc ne]],Zch o7,by simp [hvl],Vec.mk1 ?_,fun j hj=>by cases hj; right; omega,?_⟩
    ·rw [h7o j (by omega) (fun j0 hj0=>by rcases ha j0 hj0 with hh | hh <;> omega) (by omega)]; exact hS5.eq j hj
    ·rw [h7o _ (Own.lt hz5) (fun j0 hj0=>by rcases ha j0 hj0 with hh | hh <;> omega) (by omega)]; exact hz5
    ·rw [Zbr (by omega),hi7]; simp
    ·intro k v x hv' hx
     have hkeep:∀ {t':Ty} {v':List Zad},Zdk (fun j=>(S j ∨ h4.length≤j)∧∀ j0,a=some (j0,0)→j≠j0) h5 t' v'→Zdk (fun j=>(S j ∨ h4.length≤j)∧∀ j0,(some (h5.length + 1,0):Pt)=some (j0,0)→j≠j0) (h7.set h3.length (Zci.cells Zab [.int .u8 (t.hd:Int),.slice (some (h5.length + 1,0)) (g + 1) (g + 1) false] false)) t' v':=by
      intro t' v' hr
      have hr2:=hr.below
      refine Zdk.mono (S:=fun j=>((S j ∨ h4.length≤j)∧∀ j0,a=some (j0,0)→j≠j0)∧j < h5.length) (fun j hj=>⟨hj.1.1,fun j0 e0=>by cases e0; have:=hj.2; omega⟩) (hr2.agree fun j hj=>?_)
      refine h7o j hj.2 hj.1.2 ?_
      rcases hj.1.1 with h8 | h8
      ·have:=(hSi j h8).1; omega
      ·omega
     by_cases hkl:k < vs.length
     ·rw [List.getElem?_append_left hkl] at hv'
      exact hkeep (((hp k v x hv' hx).same sq).same s5)
     ·rw [List.getElem?_append_right (by omega)] at hv'
      have hk0:k=vs.length:=by
       by_cases e:k - vs.length=0
       ·omega
       ·rw [List.getElem?_eq_none (by simp; omega)] at hv'; cases hv'
      subst hk0
      simp at hv'
      subst hv'
      rw [hvl,List.getElem?_eq_getElem hgt] at hx
      cases hx
      refine hkeep (Zdk.mono (S:=fun j=>S j ∨ hq'.length≤j) (fun j hj=>⟨?_,fun j0 e0=>?_⟩) hn5)
      ·rcases hj with h8 | h8
       ·exact .inl h8
       ·exact .inr (by omega)
      ·have hj0:=(hv.same sq).lt' e0
       rcases hj with h8 | h8
       ·have:=(hSi j h8).1
        rcases ha j0 e0 with hh | hh <;> omega
       ·omega
   ·apply Zfe.A6x0i
    have:g=t.ps.length:=by omega
    subst this
    have hrow:=Zfv (o:=0) (n:=2) ho (by simp)
    rw [hrow]
    simp only [List.drop_zero,List.take_succ_cons,List.take_zero,Zaw,Zaf,Zan,Zae,Zak]
    rw [Zbj hz (by simp)]
    simp only [Zas]
    rw [Zfv (Zch hz) (by simp [putRow])]
    simp only [putRow,List.take_zero,List.nil_append,List.length_cons,List.length_nil,List.cons_append,List.drop_succ_cons,List.drop_zero,List.drop_nil,List.append_nil,List.take_succ_cons,Zaw,Zaf,Zae,Zak,Zan]
    refine ⟨⟨by simp; exact hS.le,fun j hj=>by rw [Zbr (by omega)]; exact hS.eq j hj⟩,_,rfl,?_⟩
    have hget:∀ j,j≠h0.length→(h'.set h0.length (Zci.cells Zab [.int .u8 (t.hd:Int),.slice a t.ps.length cp e] false))[j]?=h'[j]?:=fun j hj=>Zbr (fun e=>hj e.symm)
    rcases hv with ⟨rfl,h0',_,hvs⟩ | ⟨j0,rfl,hj0⟩
    ·-- no parts
     have hps:t.ps=[]:=List.eq_nil_of_length_eq_zero h0'
     cases t with
     | k d=>
      simp only [subst,show Zcl m d=none from hno,Option.getD_none]
      exact ⟨_,_,_,rfl⟩
     | u d x=>simp [Ty.ps] at hps
     | w d x y=>simp [Ty.ps] at hps
    ·have hj0n:j0≠h0.length:=by rcases ha j0 rfl with hh | hh <;> omega
     have hS4:=ha j0 rfl
     have:=Zdk.make (S:=fun j=>S j ∨ h.length≤j) (h:=h'.set h0.length (Zci.cells Zab [.int .u8 (t.hd:Int),.slice (some (j0,0)) t.ps.length cp e] false)) (t:=subst (Zcl m) t) (j:=j0) (n:=t.ps.length) (c:=cp) (e:=e) (vs:=vs)
      (by rw [hsp,List.length_map]) (.inr (by rcases hS4 with hh | hh <;> omega)) (by rw [hget j0 hj0n]; exact hj0) hvl (fun k w x hw hx=>by
       rw [hsp,List.getElem?_map] at hx
       obtain ⟨y,hy,rfl⟩:=Option.map_eq_some_iff.1 hx
       have hr:=hp k w y hw hy
       refine Zdk.mono (S:=fun j=>(S j ∨ h4.length≤j)∧∀ j1,(some (j0,0):Pt)=some (j1,0)→j≠j1) (fun j hj=>hj.1.imp id (fun h=>by omega)) (hr.agree fun j hj=>hget j ?_)
       rcases hj.1 with h8 | h8
       ·have:=(hSi j h8).1; omega
       ·omega)
     rw [hsh] at this
     exact this
  cases hv:Zam t.hd with
  | true=>
   obtain ⟨k,hk6,hkv,hix⟩:=Zus hv
   rw [hix]
   obtain ⟨x,hx1,hx2,hx3⟩:=rm1.get (k:=k) hk6
   rw [hkv,Option.bind_some] at hx3
   have hge:decide ((k:Int) ≥ 0)=true:=by simp
   simp only [hge,Zaz,Int.toNat_natCast,hx1,hx2,Zaw,Zaf,Zan]
   refine ⟨by omega,?_⟩
   cases hg:Zcl m t.hd with
   | none=>
    rw [hg] at hx3
    simp only at hx3
    subst hx3
    simp only [Zae,show ((0:Int) == 0)=true from rfl,Bool.not_true,Zat]
    exact main hg
   | some u=>
    rw [hg] at hx3
    simp only at hx3
    have hu:=hmo _ _ hg
    obtain ⟨ux,uc,ue,hux⟩:=hx3.shape
    simp only [List.cons.injEq,and_true] at hux
    obtain ⟨hux1,hux2⟩:=hux
    rw [hux1,hux2] at hx3
    rw [hux1,hux2]
    have hu0:(((u.hd:Nat):Int) == 0)=false:=by
     have:=Zsl hu
     have hne:u.hd≠0:=fun e=>by rw [e] at this; simp at this
     simp; omega
    simp only [Zae,Zak,hu0,Bool.not_false,Zaz]
    rw [Zbj oz (by simp)]
    simp only [Zas]
    rw [Zfv (Zch oz) (by simp [putRow])]
    simp only [putRow,List.take_zero,List.nil_append,List.length_cons,List.length_nil,List.cons_append,List.drop_succ_cons,List.drop_zero,List.drop_nil,List.append_nil,List.take_succ_cons,Zaw,Zaf,Zae,Zak,Zan]
    refine ⟨by omega,⟨by simp; omega,fun j hj=>by rw [Zbr (by omega)]; exact S1.eq j hj⟩,_,rfl,?_⟩
    have hsub:subst (Zcl m) t=u:=by rw [Zlo ht hv]; simp [subst,hg]
    rw [hsub]
    refine Zdk.mono (S:=S) (fun j hj=>.inl hj) (hx3.agree fun j hj=>Zbr (by have:=(hSi j hj).1; omega))
  | false=>
   rw [Yfe ht hv]
   have hge:decide ((-1:Int) ≥ 0)=false:=by decide
   simp only [hge,Zat]
   exact main (hmn _ hv)
end Go.Sim

set_option linter.unusedVariables false
set_option linter.unusedSimpArgs false
set_option maxRecDepth 20000
namespace Go.Sim
open Go Go.RowKit

section
variable {S:Nat→Prop} {i:Nat} {σ:Nat→Option Ty} {F:Nat→Ty}
theorem Ybu (rs:Rsv V12 σ F) (hdom:∀ c u,σ c=some u→V12 c=true∧okL Zpk u=true):∀ (N:Nat) {h:Zaa} {t:Ty} {vt:List Zad},(sb V12 F t).size≤N→Zna S h i σ→(∀ j,S j→j < h.length∧j≠i)→okL Zpk t=true→Zdk S h t vt →
  Zac pg Zia [.ptr (some (i,0)),.agg vt] h fun x h'=>Zbi h.length h h'∧∃ vs,x=.agg vs∧Zdk (fun j=>h.length≤j) h' (sb V12 F t) vs:=by
 intro N
 induction N with
 | zero=>intro h t vt hN; have:=Zlx (sb V12 F t); omega
 | succ N ih=>
  intro h t vt hN m hSi ht r
  obtain ⟨a0,c0,e0,rfl⟩:=r.shape
  obtain ⟨n,u,hw,hu,heq⟩:=rs.walked (fun t=>okL Zpk t=true) (fun c t h=>(hdom c t h).2) ht
  have hend:=hw.end_
  rw [heq] at hN ⊢
  obtain ⟨d,hd⟩:∃ d,d=u.hd:=⟨_,rfl⟩
  obtain ⟨T,hT⟩:∃ T,T=sb V12 F u:=⟨_,rfl⟩
  have hTT:T.hd=d∧T.ps=u.ps.map (sb V12 F):=by
   rw [hT,hd]
   cases hv:V12 u.hd with
   | false=>exact Yjf (.inr hv)
   | true=>
    have hk:=Zkd hu hv
    rw [hk,rs.var (hend _ hk)]
    exact ⟨rfl,rfl⟩
  obtain ⟨hTd,hTp⟩:=hTT
  rw [← hT]
  have hps2:u.ps.length≤2:=by cases u <;> simp [Ty.ps]
  have hil:=m.lt
  apply Zgr.call
  simp only [Zba]
  generalize hh0:h ++ [Zci.cells Zab [.int .u8 (t.hd:Int),.slice a0 t.ps.length c0 e0] false]=h0
  generalize hh1:h0 ++ [Zci.cells Zab [.int .u8 0,.slice none 0 0 true] false]=h1
  have s0:Zbi h.length h h0:=by rw [← hh0]; exact Zav
  have s1:Zbi h0.length h0 h1:=by rw [← hh1]; exact Zav
  have o0:h0[h.length]?=some (.cells Zab [.int .u8 (t.hd:Int),.slice a0 t.ps.length c0 e0] false):=by rw [← hh0]; simp
  have oa:=s1.get o0 (Own.lt o0)
  have oz:h1[h0.length]?=some (.cells Zab [.int .u8 0,.slice none 0 0 true] false):=by rw [← hh1]; simp
  have S1:=s0.cat s1
  have l0:h0.length=h.length + 1:=by rw [← hh0]; simp
  have l1:h1.length=h.length + 2:=by rw [← hh1]; simp [l0]
  rw [Zdp oa]
  simp only [Zaw,Zaf,Zan,Zae,Zak]
  refine (Zns (m.same S1) (fun j hj=>⟨by have:=(hSi j hj).1; omega,(hSi j hj).2⟩) hdom ht hw (r.same S1)).mono ?_
  rintro v h2 ⟨s2,va,rfl,r2⟩
  obtain ⟨at',ct,et,vts,rfl,row2,hSt,hvtl,hvt2⟩:=r2.parts
  have oa2:=s2.get oa (Own.lt oa)
  have oz2:=s2.get oz (Own.lt oz)
  have l2:=s2.le
  simp only [Zdz,Zaf,Zan,Zae,Zak]
  rw [Zbj oa2 (by simp)]
  simp only [Zas,putRow,List.take_zero,List.length_cons,List.length_nil,List.drop_succ_cons,List.drop_zero,List.drop_nil,List.cons_append,List.nil_append,List.append_nil,Nat.zero_add]
  generalize hh3:h2.set h.length (.cells Zab [.int .u8 (u.hd:Int),.slice at' u.ps.length ct et] false)=h3
  have oa3:h3[h.length]?=some (.cells Zab [.int .u8 (u.hd:Int),.slice at' u.ps.length ct et] false):=by rw [← hh3]; exact Zch oa2
  have l3:h3.length=h2.length:=by rw [← hh3]; simp
  have k3:∀ j,j≠h.length→h3[j]?=h2[j]?:=fun j hj=>by rw [← hh3]; exact Zbr fun e=>hj e.symm
  have oz3:h3[h0.length]?=some (.cells Zab [.int .u8 0,.slice none 0 0 true] false):=by rw [k3 _ (by omega)]; exact oz2
  have S3:Zbi h.length h h3:=⟨by omega,fun j hj=>by rw [k3 j (by omega),s2.eq j (by omega)]; exact S1.eq j hj⟩
  simp only [Zal oa3,List.getElem?_cons_succ,List.getElem?_cons_zero,Zae]
  generalize hh4:h3 ++ [Zci.cells Zab [] false]=h4
  have s4:Zbi h3.length h3 h4:=by rw [← hh4]; exact Zav
  have o4:h4[h3.length]?=some (.cells Zab [] false):=by rw [← hh4]; simp
  have l4:h4.length=h3.length + 1:=by rw [← hh4]; simp
  rw [Zgg]
  rw [← hd] at oa3 ⊢
  generalize hhB:h4 ++ [Zci.cells Zab [.int .u8 (d:Int),.slice (some (h3.length,0)) 0 0 true] false]=hB
  have sB:Zbi h4.length h4 hB:=by rw [← hhB]; exact Zav
  obtain ⟨oi,hoi⟩:∃ oi,oi=h4.length:=⟨_,rfl⟩
  obtain ⟨rb,hrb⟩:∃ rb,rb=h3.length:=⟨_,rfl⟩
  have oB:hB[oi]?=some (.cells Zab [.int .u8 (d:Int),.slice (some (rb,0)) 0 0 true] false):=by rw [← hhB,hoi,hrb]; simp
  have lB:hB.length=h4.length + 1:=by rw [← hhB]; simp
  have rB:hB[rb]?=some (.cells Zab [] false):=by rw [hrb]; exact sB.get o4 (Own.lt o4)
  have zB:=sB.get (s4.get oz3 (Own.lt oz3)) (by have:=Own.lt oz3; omega)
  have oaB:=sB.get (s4.get oa3 (Own.lt oa3)) (by have:=Own.lt oa3; omega)
  have SB:=(S3.cat s4).cat sB
  rw [← hoi]
  simp only [Zas,Zal oaB,List.getElem?_cons_succ,List.getElem?_cons_zero,Zak]
  have holdS:∀ h':Zaa,Zbi h.length h h'→∀ j,S j→h'[j]?=h2[j]?:=fun h' hS j hj=>by
   have:=(hSi j hj).1
   rw [hS.eq j this,← S1.eq j this,← s2.eq j (by omega)]
  have hold:∀ h':Zaa,Zbi h.length h h'→∀ j o,u.ps.length * 2≠0→at'=some (j,o)→h'[j]?=h2[j]?:=fun h' hS j o h0 ha=>holdS h' hS j (hSt j o (by omega) ha)
  have rowB:=row2
  have hvt:=hvt2
  have hSQ:∀ h':Zaa,h.length≤h'.length→∀ j,S j→j < h'.length∧j≠i:=fun h' hl j hj=>⟨by have:=(hSi j hj).1; omega,(hSi j hj).2⟩
  refine Zgr.L4ind (J:=fun (g:Nat) x18 h'=>x18=(g:Int)∧g≤u.ps.length∧Zbi h.length h h'∧hB.length≤h'.length∧h'[h0.length]?=some (.cells Zab [.int .u8 0,.slice none 0 0 true] false) ∧
   ∃ (a:Pt) (cp:Nat) (e:Bool) (vs:List (List Zad)),h'[oi]?=some (.cells Zab [.int .u8 (d:Int),.slice a g cp e] false)∧vs.length=g∧Vec Zab h' a g cp vs.flatten∧(∀ j,a=some (j,0)→j=rb ∨ hB.length≤j) ∧
    ∀ (k:Nat) (v:List Zad) (x:Ty),vs[k]?=some v→u.ps[k]?=some x→Zdk (fun j=>hB.length≤j∧∀ j0,a=some (j0,0)→j≠j0) h' (sb V12 F x) v) (m:=fun g=>u.ps.length - g) (hr:=?_) (g:=0)
   (hj:=⟨rfl,by omega,SB,Nat.le_refl _,zB,some (rb,0),0,true,[],oB,rfl,Vec.mk1 (by simpa using rB),fun j hj=>by cases hj; exact .inl rfl,by simp⟩)
  rintro g x18 h' ⟨rfl,hg,hS,hl4,hz,a,cp,e,vs,ho,hvl,hv,ha,hp⟩ R hR
  unfold Zgr.L4t
  have hz2:∀ v∈vs,v.length=2:=fun v hv=>by
   obtain ⟨k,hk,rfl⟩:=List.mem_iff_getElem.1 hv
   exact (hp k vs[k] (u.ps[k]'(by omega)) (List.getElem?_eq_getElem hk) (List.getElem?_eq_getElem (by omega))).len
  refine Zar (fun hlt=>?_) (fun hge=>?_)
  ·have hgt:g < u.ps.length:=by omega
   obtain ⟨jt,oft,a4,c4,e4,rfl,hrt,hkt⟩:=Zdk.get (Ylq rowB (by omega) fun j o h0 ha _=>hold h' hS j o h0 ha) hvtl (fun k w x h1 h2=>(hvt k w x h1 h2).agree fun j hj=>holdS h' hS j hj) hgt
   simp only [Zao,Int.toNat_natCast,hrt,Zaw,Zaf,Zan,Zae,Zak,Zba]
   rw [Zgg]
   generalize hq:h' ++ [Zci.cells Zab [.int .u8 (u.ps[g].hd:Int),.slice a4 u.ps[g].ps.length c4 e4] false]=hq'
   have sq:Zbi h'.length h' hq':=by rw [← hq]; exact Zav
   have oq:=sq.get ho (Own.lt ho)
   simp only [Zas,Zal oq,Nat.zero_add,List.getElem?_cons_succ,List.getElem?_cons_zero,Zak]
   rw [← hq,Ybp,hq]
   simp only [Zaw,Zaf,Zan,Zae,Zak,true_and]
   have hmt:=List.getElem_mem hgt
   have hlq:=sq.le
   have hSle:=hS.le
   have SQ:=hS.cat sq
   refine ⟨by omega,(ih (by have:=Zlm (V:=V12) hmt F; omega) (m.same SQ) (hSQ hq' SQ.le) (Ydo hu _ hmt) (hkt.same sq)).mono ?_⟩
   rintro v h5 ⟨s5,nv,rfl,hn5⟩
   obtain ⟨na,nc,ne,hnv⟩:=hn5.shape
   rw [hnv] at hn5
   have o5:=s5.get oq (Own.lt oq)
   simp only [hnv,Zdz,Zaf,Zan,Zae,Zak,Zal o5,List.getElem?_cons_succ,List.getElem?_cons_zero,true_and]
   have hc6:Zah (h5 ++ [Zci.cells Zab [.int .u8 ((sb V12 F u.ps[g]).hd:Int),.slice na (sb V12 F u.ps[g]).ps.length nc ne] false]) (.ptr (some (oi,1)))=some (.slice a g cp e):=by rw [Zal (Zkb o5)]; rfl
   refine ⟨by rw [hc6],?_⟩
   have v5:=(hv.same sq).same s5
   have hl5:=s5.le
   refine v5.pushN Zrs Zvr Zvi Zvy (by rw [Zpq hz2]; omega) rfl (by omega) rfl (by omega) (fun h7 hl7 hi7 hk7=>?_)
   simp only [Zak]
   have hz5:=s5.get (sq.get hz (Own.lt hz)) (by have:=Own.lt hz; omega)
   have o7:h7[oi]?=some (.cells Zab [.int .u8 (d:Int),.slice a g cp e] false):=by
    rw [hk7 _ (Own.lt o5) fun j hj=>by rcases ha j hj with hh | hh <;> omega]; exact o5
   rw [Zbj o7 (by simp)]
   simp only [Zas,putRow,List.take_succ_cons,List.take_zero,List.length_cons,List.length_nil,List.drop_succ_cons,List.drop_nil,List.cons_append,List.nil_append,List.append_nil]
   rw [Zby (by omega)]
   have hS5:=SQ.cat s5
   have h7o:∀ j,j < h5.length→(∀ j0,a=some (j0,0)→j≠j0)→j≠oi→(h7.set oi (Zci.cells Zab [.int .u8 (d:Int),.slice (some (h5.length + 1,0)) (g + 1) (g + 1) false] false))[j]?=h5[j]?:=fun j hj hne hne2=>by rw [Zbr (by omega),hk7 j hj hne]
   refine hR (g + 1) _ _ (by omega) ⟨rfl,by omega,⟨by simp; omega,fun j hj=>?_⟩,by simp; omega,?_,some (h5.length + 1,0),g + 1,false,vs ++ [[.int .u8 ((sb V12 F u.ps[g]).hd:Int),.slice na (sb V12 F u.ps[g]).ps.length nc ne]],Zch o7,by simp [hvl],Vec.mk1 ?_,fun j hj=>by cases hj; right; omega,?_⟩
   ·rw [h7o j (by omega) (fun j0 hj0=>by rcases ha j0 hj0 with hh | hh <;> omega) (by omega)]; exact hS5.eq j hj
   ·rw [h7o _ (Own.lt hz5) (fun j0 hj0=>by rcases ha j0 hj0 with hh | hh <;> omega) (by omega)]; exact hz5
   ·rw [Zbr (by omega),hi7]; simp
   ·intro k v x hv' hx
    have hkeep:∀ {t':Ty} {v':List Zad},Zdk (fun j=>hB.length≤j∧∀ j0,a=some (j0,0)→j≠j0) h5 t' v'→Zdk (fun j=>hB.length≤j∧∀ j0,(some (h5.length + 1,0):Pt)=some (j0,0)→j≠j0) (h7.set oi (Zci.cells Zab [.int .u8 (d:Int),.slice (some (h5.length + 1,0)) (g + 1) (g + 1) false] false)) t' v':=by
     intro t' v' hr
     refine Zdk.mono (S:=fun j=>(hB.length≤j∧∀ j0,a=some (j0,0)→j≠j0)∧j < h5.length) (fun j hj=>⟨hj.1.1,fun j0 e0=>by cases e0; have:=hj.2; omega⟩) (hr.below.agree fun j hj=>?_)
     exact h7o j hj.2 hj.1.2 (by have:=hj.1.1; omega)
    by_cases hkl:k < vs.length
    ·rw [List.getElem?_append_left hkl] at hv'
     exact hkeep (((hp k v x hv' hx).same sq).same s5)
    ·rw [List.getElem?_append_right (by omega)] at hv'
     have hk0:k=vs.length:=by
      by_cases e:k - vs.length=0
      ·omega
      ·rw [List.getElem?_eq_none (by simp; omega)] at hv'; cases hv'
     subst hk0
     simp at hv'
     subst hv'
     rw [hvl,List.getElem?_eq_getElem hgt] at hx
     cases hx
     refine hkeep (Zdk.mono (S:=fun j=>hq'.length≤j) (fun j hj=>⟨by omega,fun j0 e0=>?_⟩) hn5)
     have hj0:=(hv.same sq).lt' e0
     omega
  ·apply Zgr.A4x0i
   have:g=u.ps.length:=by omega
   subst this
   rw [Zfv (o:=0) (n:=2) ho (by simp)]
   simp only [List.drop_zero,List.take_succ_cons,List.take_zero,Zaw,Zaf,Zan,Zae,Zak]
   rw [Zbj hz (by simp)]
   simp only [Zas]
   rw [Zfv (Zch hz) (by simp [putRow])]
   simp only [putRow,List.take_zero,List.nil_append,List.length_cons,List.length_nil,List.cons_append,List.drop_succ_cons,List.drop_zero,List.drop_nil,List.append_nil,List.take_succ_cons,Zaw,Zaf,Zae,Zak,Zan]
   refine ⟨⟨by simp; exact hS.le,fun j hj=>by rw [Zbr (by omega)]; exact hS.eq j hj⟩,_,rfl,?_⟩
   have hget:∀ j,j≠h0.length→(h'.set h0.length (Zci.cells Zab [.int .u8 (d:Int),.slice a u.ps.length cp e] false))[j]?=h'[j]?:=fun j hj=>Zbr (fun e=>hj e.symm)
   rw [← hTd]
   rcases hv with ⟨rfl,h0',_,hvs⟩ | ⟨j0,rfl,hj0⟩
   ·-- no parts
    have hps:T.ps=[]:=by rw [hTp,List.eq_nil_of_length_eq_zero h0']; rfl
    have hTk:=Ymc (t:=T) (by rw [hps]; rfl)
    rw [hTk,h0']
    exact ⟨_,_,_,rfl⟩
   ·have hj0n:j0≠h0.length:=by rcases ha j0 rfl with hh | hh <;> omega
    have hS4:=ha j0 rfl
    refine Zdk.make (S:=fun j=>h.length≤j) (t:=T) (j:=j0) (n:=u.ps.length) (c:=cp) (e:=e) (vs:=vs) (by rw [hTp,List.length_map]) (by rcases hS4 with hh | hh <;> omega) (by rw [hTd,hget j0 hj0n]; exact hj0) hvl (fun k w x hw hx=>?_)
    rw [hTp,List.getElem?_map] at hx
    obtain ⟨y,hy,rfl⟩:=Option.map_eq_some_iff.1 hx
    have hr:=hp k w y hw hy
    rw [hTd]
    refine Zdk.mono (S:=fun j=>hB.length≤j∧∀ j1,(some (j0,0):Pt)=some (j1,0)→j≠j1) (fun j hj=>by have:=hj.1; omega) (hr.agree fun j hj=>hget j (by have:=hj.1; omega))
end
end Go.Sim

set_option linter.unusedVariables false
set_option linter.unusedSimpArgs false
set_option maxRecDepth 20000
namespace Go.Sim
open Go Go.RowKit

theorem Zyt {c d:Nat} (hc:V12 c=true) (hd:V12 d=true) (h:Zlq c=Zlq d):c=d:=by
 obtain ⟨k,hk,hkv,hix⟩:=Zji hc
 obtain ⟨k',hk',hkv',hix'⟩:=Zji hd
 unfold Zlq at h
 rw [hix,hix'] at h
 have:k=k':=by simpa using h
 subst this
 rw [hkv] at hkv'
 exact Option.some.inj hkv'
def tg (σ:Nat→Option Ty) (F:Nat→Ty) (k:Nat):Nat→Option Ty:=fun c=>if V12 c=true∧Zlq c < k∧σ c≠none then some (F c) else none
theorem Yax {P:Ty→Prop} (hP:∀ t,P t→okL Zpk t=true) (hPs:∀ t,P t→∀ p∈t.ps,P p) {S:Nat→Prop} {h:Zaa} {a b:Ty} {va vb:List Zad} (hS:∀ j,S j→j < h.length) (ha:P a) (hb:P b) (ra:Zdk S h a va) (rb:Zdk S h b vb) :
  Zac pg Zjg [.agg va,.agg vb] h fun v h'=>Zbi h.length h h'∧∃ q bl,v=.tup [.ptr (some (q,0)),.bool bl]∧((bl=true∧∃ σ F,Rsv V12 σ F∧(∀ θ,Sol V12 σ θ ↔ sb V12 θ a=sb V12 θ b)∧Inc Zlq V12 σ∧(∀ c t,σ c=some t→P (.k c)∧P t) ∧
   ∃ S',(∀ j,S' j→j≠q)∧Zna S' h' q (tg σ F 12)) ∨ (bl=false∧∀ θ:Nat→Ty,sb V12 θ a≠sb V12 θ b)):=by
 obtain ⟨aa,ca,ea,rfl⟩:=ra.shape
 obtain ⟨ab,cb,eb,rfl⟩:=rb.shape
 apply Zei.call
 rw [← Ybx]
 simp only [Zba]
 generalize hh0:h ++ [Zci.cells Zab [.int .u8 (a.hd:Int),.slice aa a.ps.length ca ea] false]=h0
 generalize hh1:h0 ++ [Zci.cells Zab [.int .u8 (b.hd:Int),.slice ab b.ps.length cb eb] false]=h1
 generalize hh2:h1 ++ [Zci.cells Zbe (Zec eR (List.replicate 12 (Zad.int .u8 0,Zad.slice none 0 0 true))) false]=h2
 have s0:Zbi h.length h h0:=by rw [← hh0]; exact Zav
 have s1:Zbi h0.length h0 h1:=by rw [← hh1]; exact Zav
 have s2:Zbi h1.length h1 h2:=by rw [← hh2]; exact Zav
 have l0:h0.length=h.length + 1:=by rw [← hh0]; simp
 have l1:h1.length=h.length + 2:=by rw [← hh1]; simp [l0]
 have l2:h2.length=h.length + 3:=by rw [← hh2]; simp [l1]
 have oa0:h0[h.length]?=some (.cells Zab [.int .u8 (a.hd:Int),.slice aa a.ps.length ca ea] false):=by rw [← hh0]; simp
 have oa:=(s1.cat s2).get oa0 (Own.lt oa0)
 have ob1:h1[h0.length]?=some (.cells Zab [.int .u8 (b.hd:Int),.slice ab b.ps.length cb eb] false):=by rw [← hh1]; simp
 have ob:=s2.get ob1 (Own.lt ob1)
 have om:h2[h1.length]?=some (.cells Zbe (Zec eR (List.replicate 12 (Zad.int .u8 0,Zad.slice none 0 0 true))) false):=by rw [← hh2]; simp
 have S2:=(s0.cat s1).cat s2
 rw [Zdp oa,Zdp ob]
 simp only [Zaw,Zaf,Zan,Zae,Zak]
 refine (Yah (S:=S) (i:=h1.length) hP hPs _ _ (Nat.le_refl _) (Nat.le_refl _) Rsv.nil (fun c d hc=>by cases hc) (fun c t hc=>by cases hc) (Zna.nil om) (fun j hj=>⟨by have:=hS j hj; omega,by have:=hS j hj; omega⟩) ha hb (ra.same S2) (rb.same S2)).mono ?_
 rintro v h3 ⟨K3,⟨rfl,σ,F,m3,rs,hsol,hi,hσ,_⟩ | ⟨rfl,hno⟩⟩
 ·have hdom:∀ c u,σ c=some u→V12 c=true∧okL Zpk u=true:=fun c u h=>⟨rs.dom c u h,hP u (hσ c u h).2⟩
  simp only [Zag,Bool.not_true,Zat]
  have l3:=K3.le
  have S3:Zbi h.length h h3:=⟨by omega,fun j hj=>by rw [K3.eq j (by omega) (by omega)]; exact S2.eq j hj⟩
  generalize hhB:h3 ++ [Zci.cells Zbe (Zec eR (List.replicate 12 (Zad.int .u8 0,Zad.slice none 0 0 true))) false]=hB
  have sB:Zbi h3.length h3 hB:=by rw [← hhB]; exact Zav
  have oB:hB[h3.length]?=some (.cells Zbe (Zec eR (List.replicate 12 (Zad.int .u8 0,Zad.slice none 0 0 true))) false):=by rw [← hhB]; simp
  have lB:hB.length=h3.length + 1:=by rw [← hhB]; simp
  have mB:=m3.same sB
  have hSB:∀ j,S j→j < h3.length:=fun j hj=>by have:=hS j hj; omega
  have tg0:tg σ F 0=fun _=>none:=by funext c; simp [tg]
  refine Zei.L6ind (J:=fun (k:Nat) x19 h'=>x19=(k:Int)∧k≤12∧Zeo h3.length hB h'∧Zna (fun j=>hB.length≤j) h' h3.length (tg σ F k)) (m:=fun k=>12 - k) (hr:=?_) (g:=0) (hj:=⟨rfl,by omega,Zeo.refl _ _,by rw [tg0]; exact Zna.nil oB⟩)
  rintro k x19 h4 ⟨rfl,hk,K4,mo⟩ R hR
  unfold Zei.L6t
  have l4:=K4.le
  refine Zar (fun hlt=>?_) (fun hge=>?_)
  ·have hk12:k < 12:=by omega
   obtain ⟨v,hv⟩:∃ v,Zee[k]?=some v:=⟨_,List.getElem?_eq_getElem (show k < Zee.length from hk12)⟩
   have hvv:=Ydq hv
   have hrv:Zlq v=k:=by
    obtain ⟨k',hk',hkv',hix'⟩:=Zji hvv
    have h5:=List.getElem?_eq_some_iff.1 hv
    have h6:=List.getElem?_eq_some_iff.1 hkv'
    have:k=k':=(List.getElem_inj (h₀:=h5.1) (h₁:=h6.1) Zvz).1 (h5.2.trans h6.2.symm)
    unfold Zlq; rw [hix',this]; rfl
   have m4:Zna S h4 h1.length σ:=mB.keep (K4.eq _ (by omega) (by omega)) fun j hj _=>K4.eq j (by have:=hSB j hj; omega) (by have:=hSB j hj; omega)
   obtain ⟨x,hx1,hx2,hx3⟩:=m4.get hv
   have next:∀ h',Zeo h3.length hB h'→Zna (fun j=>hB.length≤j) h' h3.length (tg σ F (k + 1))→Zei.J10 (fun v h'=>Zbi h.length h h'∧∃ q bl,v=.tup [.ptr (some (q,0)),.bool bl]∧((bl=true∧∃ σ F,Rsv V12 σ F∧(∀ θ,Sol V12 σ θ ↔ sb V12 θ a=sb V12 θ b)∧Inc Zlq V12 σ∧(∀ c t,σ c=some t→P (.k c)∧P t) ∧
     ∃ S',(∀ j,S' j→j≠q)∧Zna S' h' q (tg σ F 12)) ∨ (bl=false∧∀ θ:Nat→Ty,sb V12 θ a≠sb V12 θ b))) R (k:Int) h1.length 0 h3.length 0 h':=by
    intro h' K' m'
    apply Zei.J10i
    rw [Zby (by omega)]
    exact hR (k + 1) _ _ (by omega) ⟨rfl,by omega,K',m'⟩
   simp only [Int.toNat_natCast,hx1]
   cases hs:σ v with
   | none=>
    rw [hs] at hx3
    simp only at hx3
    subst hx3
    simp only [Zae,show ((0:Int) == 0)=true from rfl,Bool.not_true,Zat]
    have:tg σ F (k + 1)=tg σ F k:=by
     funext c
     unfold tg
     by_cases hc:V12 c=true∧σ c≠none
     ·have hne:Zlq c≠k:=fun e=>hc.2 (by rw [Zyt hc.1 hvv (by rw [e,hrv])]; exact hs)
      have:(Zlq c < k + 1) ↔ Zlq c < k:=by omega
      simp [hc,this]
     ·have h1:¬ (V12 c=true∧Zlq c < k + 1∧σ c≠none):=fun h=>hc ⟨h.1,h.2.2⟩
      have h2:¬ (V12 c=true∧Zlq c < k∧σ c≠none):=fun h=>hc ⟨h.1,h.2.2⟩
      rw [if_neg h1,if_neg h2]
    refine ⟨by omega,next h4 K4 (by rw [this]; exact mo)⟩
   | some t=>
    rw [hs] at hx3
    simp only at hx3
    have htok:=(hdom _ _ hs).2
    obtain ⟨wa,wc,we,hwx⟩:=hx3.shape
    simp only [List.cons.injEq,and_true] at hwx
    obtain ⟨hw1,hw2⟩:=hwx
    have hne:((t.hd:Int) == 0)=false:=by
     have:=Zne htok
     have hne:t.hd≠0:=fun e=>by rw [e] at this; simp at this
     simp; omega
    rw [hw1,hw2] at hx2 hx3
    rw [hw1]
    simp only [Zae,hne,Bool.not_false,Zaz,hx2,Zaw,Zaf,Zan,Zak]
    refine ⟨by omega,by omega,(Ybu rs hdom _ (Nat.le_refl _) m4 (fun j hj=>⟨by have:=hSB j hj; omega,by have:=hS j hj; omega⟩) htok hx3).mono ?_⟩
    rintro v5 h5 ⟨s5,vs,rfl,r5⟩
    obtain ⟨fa,fc,fe,rfl⟩:=r5.shape
    simp only [Zdz,Zaf,Zan,Zae,Zak]
    have l5:=s5.le
    obtain ⟨h6,hst,K6,m6⟩:=(mo.same s5).put (fun j hj=>by omega) hv (t:=sb V12 F t) (x:=.int .u8 ((sb V12 F t).hd:Int)) (y:=.slice fa (sb V12 F t).ps.length fc fe) (r5.mono fun j hj=>by omega)
    rw [hst]
    simp only [Zas]
    have:tg σ F (k + 1)=upd (tg σ F k) v (sb V12 F t):=by
     funext c
     unfold upd
     by_cases e:c=v
     ·subst e
      rw [if_pos rfl,← rs.som c t hs]
      unfold tg
      rw [if_pos ⟨hvv,by omega,by rw [hs]; simp⟩]
     ·rw [if_neg e]
      unfold tg
      by_cases hc:V12 c=true
      ·have hne:Zlq c≠k:=fun e'=>e (Zyt hc hvv (by rw [e',hrv]))
       have:(Zlq c < k + 1) ↔ Zlq c < k:=by omega
       simp [this]
      ·simp [hc]
    exact ⟨by omega,next h6 ((K4.trans (Yar s5)).trans K6) (by rw [this]; exact m6)⟩
  ·apply Zei.A6x0i
   have:k=12:=by omega
   subst this
   refine ⟨⟨by omega,fun j hj=>by rw [K4.eq j (by omega) (by omega),sB.eq j (by omega)]; exact S3.eq j hj⟩,_,_,rfl,.inl ⟨rfl,σ,F,rs,fun θ=>?_,hi,hσ,_,fun j hj=>?_,mo⟩⟩
   ·rw [hsol θ]; exact ⟨And.right,fun h=>⟨Sol.nil,h⟩⟩
   ·have:hB.length≤j:=hj
    omega
 ·simp only [Zag,Bool.not_false,Zaz]
  refine ⟨⟨by have:=K3.le; omega,fun j hj=>by rw [K3.eq j (by omega) (by omega)]; exact S2.eq j hj⟩,_,_,rfl,.inr ⟨rfl,fun θ=>hno θ Sol.nil⟩⟩
end Go.Sim

set_option linter.unusedVariables false
set_option linter.unusedSimpArgs false
set_option maxRecDepth 20000
namespace Go.Sim
open Go Go.RowKit

end Go.Sim

set_option linter.unusedVariables false
set_option linter.unusedSimpArgs false
set_option maxRecDepth 20000
namespace Go.Sim
open Go Go.RowKit

end Go.Sim

set_option linter.unusedVariables false
set_option linter.unusedSimpArgs false
set_option maxRecDepth 20000
namespace Go.Sim
open Go Go.RowKit

end Go.Sim

set_option linter.unusedVariables false
set_option linter.unusedSimpArgs false
set_option maxRecDepth 20000
namespace Go.Sim
open Go Go.RowKit

theorem Zfa.low {α:Type} {ty:TypeId} {enc:α→List Zad} {b b':Nat} {h:Zaa} {a:Pt} {n:Nat} {l:List α} (f:Zfa ty enc b h a n l) (hb:b'≤b):Zfa ty enc b' h a n l:=
 ⟨f.1,f.2.imp id fun ⟨i,ha,hbi,hi⟩=>⟨i,ha,by omega,hi⟩⟩
end Go.Sim

set_option linter.unusedVariables false
set_option linter.unusedSimpArgs false
set_option maxRecDepth 20000
namespace Go.Sim
open Go Go.RowKit

theorem Row.i64 {b:Nat} {h:Zaa} {a:Pt} {n:Nat} {l:List Int} (r:Row b h a n (Zec eI l)) {k:Nat} (hk:k < n):∃ i o,∃ hk':k < l.length,a=some (i,o)∧i < b∧Zah h (.ptr (some (i,o + k * 1)))=some (.int .i64 l[k]):=by
 obtain ⟨i,o,hk',ha,hi,hc⟩:=Row.el1 Yld r hk
 exact ⟨i,o,hk',ha,hi,hc⟩
end Go.Sim
