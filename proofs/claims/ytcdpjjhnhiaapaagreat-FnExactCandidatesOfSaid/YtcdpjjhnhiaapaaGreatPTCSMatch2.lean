/- A part of the proof of a statement of this seat: see the text that holds the theorem. No condition. -/
import Derived.Test.YtcdpjjhnhiaapaaGreatNm
set_option linter.unusedVariables false
set_option linter.unusedSimpArgs false
set_option linter.all false
/- Printed by wip/tool: what the functions' bodies do, in the words of 'den'. -/
set_option maxRecDepth 100000
set_option linter.unusedVariables false
namespace Go.Sim
open Go Go.RowKit
/-! Function loop.example/instancesearch/laws.FnExactCandidatesOf -/
namespace F_laws_FnExactCandidatesOf
noncomputable abbrev fn : Func := Go.Proofs.Tryz.f6
def kp : Keeps := [(2000008, [2, 3, 6, 7]), (2000010, [9, 6, 10, 7, 8, 2, 3]), (4000013, [8, 2, 9, 6, 10, 7, 3]), (2000013, [56, 8, 9, 6, 10, 7, 2, 3]), (4000019, [9, 2, 3, 6, 7]), (2000027, [14, 6, 15, 7, 9, 12]), (4000030, [9, 12])]
noncomputable def C (p : List Nat) : Code := (cod fn).sub p
def KR (Q : QT) : KT := retA pg fn.results.toList Q
def J13 (Q : QT) (i8 o8 i2 o2 : Nat) (a9 : Pt) (n9 c9 : Nat) (e9 : Bool) (a6 : Pt) (n6 c6 : Nat) (e6 x10 x7 : Bool) (i3 o3 : Nat) (h : AHeap) : Prop := Den pg fn.ntmps (C [1, 1, 1, 1, 1, 1, 1, 1, 1, 1]) [(8, .ptr (some (i8, o8))), (2, .ptr (some (i2, o2))), (9, .slice a9 n9 c9 e9), (6, .slice a6 n6 c6 e6), (10, .bool x10), (7, .bool x7), (3, .ptr (some (i3, o3)))] h (KR Q)
def J19 (Q : QT) (a9 : Pt) (n9 c9 : Nat) (e9 : Bool) (i2 o2 i3 o3 : Nat) (a6 : Pt) (n6 c6 : Nat) (e6 x7 : Bool) (h : AHeap) : Prop := Den pg fn.ntmps (C [1, 1, 1, 1, 1, 1, 1, 1, 1, 1, 1, 1, 1, 1]) [(9, .slice a9 n9 c9 e9), (2, .ptr (some (i2, o2))), (3, .ptr (some (i3, o3))), (6, .slice a6 n6 c6 e6), (7, .bool x7)] h (KR Q)
def J30 (Q : QT) (a9 : Pt) (n9 c9 : Nat) (e9 : Bool) (x12 : Int) (h : AHeap) : Prop := Den pg fn.ntmps (C [1, 1, 1, 1, 1, 1, 1, 1, 1, 1, 1, 1, 1, 1, 1, 1, 1, 1, 1, 1, 1, 1]) [(9, .slice a9 n9 c9 e9), (12, .int .i64 x12)] h (KR Q)
theorem J13i (Q : QT) (i8 o8 i2 o2 : Nat) (a9 : Pt) (n9 c9 : Nat) (e9 : Bool) (a6 : Pt) (n6 c6 : Nat) (e6 x10 x7 : Bool) (i3 o3 : Nat) (h : AHeap) (ht :
 xRow (hRow h (.ptr (some (i8, o8))) 2) fun cs_158 => xCons cs_158 fun c_159 r_160 => xSl (some c_159) fun a_161 n_162 c_163 e_164 => xCons r_160 fun c_165 r_166 => xSl (some c_165) fun a_167 n_168 c_169 e_170 => xNil r_166 (xRow (hRow h (.ptr (some (i2, o2))) 2) fun cs_171 => xCons cs_171 fun c_172 r_173 => xSl (some c_172) fun a_174 n_175 c_176 e_177 => xCons r_173 fun c_178 r_179 => xSl (some c_178) fun a_180 n_181 c_182 e_183 => xNil r_179 ((hRow h (.ptr (some (i8, o8))) 2 = hRow h (.ptr (some (i8, o8))) 2) ∧ SCall pg n_laws_toWorld [.agg [.slice a_174 n_175 c_176 e_177, .slice a_180 n_181 c_182 e_183]] h fun v_184 h_185 =>
 xAgg v_184 fun cs_186 => xCons cs_186 fun c_187 r_188 => xSl (some c_187) fun a_189 n_190 c_191 e_192 => xCons r_188 fun c_193 r_194 => xSl (some c_193) fun a_195 n_196 c_197 e_198 => xNil r_194 ((hRow h_185 (.ptr (some (i8, o8))) 2 = hRow h (.ptr (some (i8, o8))) 2) ∧ SCall pg n_laws_eqWorld [.agg [.slice a_161 n_162 c_163 e_164, .slice a_167 n_168 c_169 e_170], .agg [.slice a_189 n_190 c_191 e_192, .slice a_195 n_196 c_197 e_198]] h_185 fun v_199 h_200 =>
 xBool (some v_199) fun b_201 => bcase (!b_201) (Q (.bool false) h_200) (xRow (hRow h_200 (.ptr (some (i8, o8))) 2) fun cs_202 => xCons cs_202 fun c_203 r_204 => xSl (some c_203) fun a_205 n_206 c_207 e_208 => xCons r_204 fun c_209 r_210 => xSl (some c_209) fun a_211 n_212 c_213 e_214 => xNil r_210 (SCall pg n_laws_markWorld [.agg [.slice a_205 n_206 c_207 e_208, .slice a_211 n_212 c_213 e_214], .int .i64 1] h_200 fun v_215 h_216 =>
 xInt .i64 (some v_215) fun x_217 => bcase (decide ((x_217 : Int) < 0)) (Q (.bool false) h_216) (SCall pg n_laws_eqIntS [.slice a9 n9 c9 e9, .slice a6 n6 c6 e6] h_216 fun v_218 h_219 =>
 xBool (some v_218) fun b_220 => bcase (!b_220) (Q (.bool false) h_219) (bcase (!(x10 == x7)) (Q (.bool false) h_219) (J19 Q a9 n9 c9 e9 i2 o2 i3 o3 a6 n6 c6 e6 x7 h_219))))))))) : J13 Q i8 o8 i2 o2 a9 n9 c9 e9 a6 n6 c6 e6 x10 x7 i3 o3 h :=
  den_Den (kp := kp) (@cast _ (den pg fn.ntmps kp (C [1, 1, 1, 1, 1, 1, 1, 1, 1, 1]) [(8, .ptr (some (i8, o8))), (2, .ptr (some (i2, o2))), (9, .slice a9 n9 c9 e9), (6, .slice a6 n6 c6 e6), (10, .bool x10), (7, .bool x7), (3, .ptr (some (i3, o3)))] h (KR Q)) (by kernel_rfl) ht)
theorem J19i (Q : QT) (a9 : Pt) (n9 c9 : Nat) (e9 : Bool) (i2 o2 i3 o3 : Nat) (a6 : Pt) (n6 c6 : Nat) (e6 x7 : Bool) (h : AHeap) (ht :
 SCall pg n_laws_markIntS [.slice a9 n9 c9 e9, .int .i64 1] h fun v_221 h_222 =>
 xInt .i64 (some v_221) fun x_223 => SCall pg n_laws_heldIntS [.slice a9 n9 c9 e9, .int .i64 1] h_222 fun v_224 h_225 =>
 xInt .i64 (some v_224) fun x_226 => bcase (decide ((x_226 : Int) < 0)) (Q (.bool false) h_225) (bcase (!((x_226 : Int) == x_223)) (Q (.bool false) h_225) (xRow (hRow h_225 (.ptr (some (i2, o2))) 2) fun cs_227 => xCons cs_227 fun c_228 r_229 => xSl (some c_228) fun a_230 n_231 c_232 e_233 => xCons r_229 fun c_234 r_235 => xSl (some c_234) fun a_236 n_237 c_238 e_239 => xNil r_235 (xRow (hRow h_225 (.ptr (some (i3, o3))) 2) fun cs_240 => xCons cs_240 fun c_241 r_242 => xStr (some c_241) fun s_243 => xCons r_242 fun c_244 r_245 => xStr (some c_244) fun s_246 => xNil r_245 (SCall pg n_laws_toWorld [.agg [.slice a_230 n_231 c_232 e_233, .slice a_236 n_237 c_238 e_239]] h_225 fun v_247 h_248 =>
 xAgg v_247 fun cs_249 => xCons cs_249 fun c_250 r_251 => xSl (some c_250) fun a_252 n_253 c_254 e_255 => xCons r_251 fun c_256 r_257 => xSl (some c_256) fun a_258 n_259 c_260 e_261 => xNil r_257 ((hRow h_248 (.ptr (some (i3, o3))) 2 = hRow h_225 (.ptr (some (i3, o3))) 2) ∧ SCall pg n_laws_toNeed [.agg [.str s_243, .str s_246]] h_248 fun v_262 h_263 =>
 xAgg v_262 fun cs_264 => xCons cs_264 fun c_265 r_266 => xStr (some c_265) fun s_267 => xCons r_266 fun c_268 r_269 => xStr (some c_268) fun s_270 => xNil r_269 ((hRow h_263 (.ptr (some (i2, o2))) 2 = hRow h_248 (.ptr (some (i2, o2))) 2) ∧ SCall pg n_impl_CandidatesOf [.agg [.slice a_252 n_253 c_254 e_255, .slice a_258 n_259 c_260 e_261], .agg [.str s_267, .str s_270]] h_263 fun v_271 h_272 =>
 xTup v_271 fun cs_273 => xCons cs_273 fun c_274 r_275 => xSl (some c_274) fun a_276 n_277 c_278 e_279 => xCons r_275 fun c_280 r_281 => xBool (some c_280) fun b_282 => xNil r_281 ((hRow h_272 (.ptr (some (i3, o3))) 2 = hRow h_263 (.ptr (some (i3, o3))) 2) ∧ (hRow h_272 (.ptr (some (i2, o2))) 2 = hRow h_263 (.ptr (some (i2, o2))) 2) ∧ SCall pg n_laws_eqIntS [.slice a_276 n_277 c_278 e_279, .slice a6 n6 c6 e6] h_272 fun v_283 h_284 =>
 xBool (some v_283) fun b_285 => bcase (!b_285) (Q (.bool false) h_284) (bcase (!(b_282 == x7)) (Q (.bool false) h_284) (J30 Q a9 n9 c9 e9 x_223 h_284)))))))))) : J19 Q a9 n9 c9 e9 i2 o2 i3 o3 a6 n6 c6 e6 x7 h :=
  den_Den (kp := kp) (@cast _ (den pg fn.ntmps kp (C [1, 1, 1, 1, 1, 1, 1, 1, 1, 1, 1, 1, 1, 1]) [(9, .slice a9 n9 c9 e9), (2, .ptr (some (i2, o2))), (3, .ptr (some (i3, o3))), (6, .slice a6 n6 c6 e6), (7, .bool x7)] h (KR Q)) (by kernel_rfl) ht)
theorem J30i (Q : QT) (a9 : Pt) (n9 c9 : Nat) (e9 : Bool) (x12 : Int) (h : AHeap) (ht :
 SCall pg n_laws_heldIntS [.slice a9 n9 c9 e9, .int .i64 1] h fun v_286 h_287 =>
 xInt .i64 (some v_286) fun x_288 => bcase (decide ((x_288 : Int) < 0)) (Q (.bool false) h_287) (bcase (!((x_288 : Int) == x12)) (Q (.bool false) h_287) (Q (.bool true) h_287))) : J30 Q a9 n9 c9 e9 x12 h :=
  den_Den (kp := kp) (@cast _ (den pg fn.ntmps kp (C [1, 1, 1, 1, 1, 1, 1, 1, 1, 1, 1, 1, 1, 1, 1, 1, 1, 1, 1, 1, 1, 1]) [(9, .slice a9 n9 c9 e9), (12, .int .i64 x12)] h (KR Q)) (by kernel_rfl) ht)
theorem call (a0x0 : Pt) (n0x0 c0x0 : Nat) (e0x0 : Bool) (a0x1 : Pt) (n0x1 c0x1 : Nat) (e0x1 : Bool) (x1x0 x1x1 : List Nat) (h : AHeap) (Q : QT) (ht :
 letH (h ++ [.cells t_laws_World [.slice a0x0 n0x0 c0x0 e0x0, .slice a0x1 n0x1 c0x1 e0x1] false]) fun h_0 => letH (h_0 ++ [.cells t_laws_Need [.str x1x0, .str x1x1] false]) fun h_1 => xRow (hRow h_1 (.ptr (some (List.length h, 0))) 2) fun cs_2 => xCons cs_2 fun c_3 r_4 => xSl (some c_3) fun a_5 n_6 c_7 e_8 => xCons r_4 fun c_9 r_10 => xSl (some c_9) fun a_11 n_12 c_13 e_14 => xNil r_10 (SCall pg n_laws_szWorld [.agg [.slice a_5 n_6 c_7 e_8, .slice a_11 n_12 c_13 e_14], .int .i64 1048576] h_1 fun v_15 h_16 =>
 xInt .i64 (some v_15) fun x_17 => bcase (decide ((x_17 : Int) < 0)) (Q (.bool true) h_16) (xRow (hRow h_16 (.ptr (some (List.length h_0, 0))) 2) fun cs_18 => xCons cs_18 fun c_19 r_20 => xStr (some c_19) fun s_21 => xCons r_20 fun c_22 r_23 => xStr (some c_22) fun s_24 => xNil r_23 (SCall pg n_laws_szNeed [.agg [.str s_21, .str s_24], .int .i64 x_17] h_16 fun v_25 h_26 =>
 xInt .i64 (some v_25) fun x_27 => bcase (decide ((x_27 : Int) < 0)) (Q (.bool true) h_26) (xRow (hRow h_26 (.ptr (some (List.length h, 0))) 2) fun cs_28 => xCons cs_28 fun c_29 r_30 => xSl (some c_29) fun a_31 n_32 c_33 e_34 => xCons r_30 fun c_35 r_36 => xSl (some c_35) fun a_37 n_38 c_39 e_40 => xNil r_36 (xRow (hRow h_26 (.ptr (some (List.length h_0, 0))) 2) fun cs_41 => xCons cs_41 fun c_42 r_43 => xStr (some c_42) fun s_44 => xCons r_43 fun c_45 r_46 => xStr (some c_45) fun s_47 => xNil r_46 (SCall pg n_laws_toWorld [.agg [.slice a_31 n_32 c_33 e_34, .slice a_37 n_38 c_39 e_40]] h_26 fun v_48 h_49 =>
 xAgg v_48 fun cs_50 => xCons cs_50 fun c_51 r_52 => xSl (some c_51) fun a_53 n_54 c_55 e_56 => xCons r_52 fun c_57 r_58 => xSl (some c_57) fun a_59 n_60 c_61 e_62 => xNil r_58 ((hRow h_49 (.ptr (some (List.length h_0, 0))) 2 = hRow h_26 (.ptr (some (List.length h_0, 0))) 2) ∧ SCall pg n_laws_toNeed [.agg [.str s_44, .str s_47]] h_49 fun v_63 h_64 =>
 xAgg v_63 fun cs_65 => xCons cs_65 fun c_66 r_67 => xStr (some c_66) fun s_68 => xCons r_67 fun c_69 r_70 => xStr (some c_69) fun s_71 => xNil r_70 ((hRow h_64 (.ptr (some (List.length h, 0))) 2 = hRow h_49 (.ptr (some (List.length h, 0))) 2) ∧ SCall pg n_spec_CandidatesOf [.agg [.slice a_53 n_54 c_55 e_56, .slice a_59 n_60 c_61 e_62], .agg [.str s_68, .str s_71]] h_64 fun v_72 h_73 =>
 xTup v_72 fun cs_74 => xCons cs_74 fun c_75 r_76 => xSl (some c_75) fun a_77 n_78 c_79 e_80 => xCons r_76 fun c_81 r_82 => xBool (some c_81) fun b_83 => xNil r_82 ((hRow h_73 (.ptr (some (List.length h_0, 0))) 2 = hRow h_64 (.ptr (some (List.length h_0, 0))) 2) ∧ (hRow h_73 (.ptr (some (List.length h, 0))) 2 = hRow h_64 (.ptr (some (List.length h, 0))) 2) ∧ xRow (hRow h_73 (.ptr (some (List.length h, 0))) 2) fun cs_84 => xCons cs_84 fun c_85 r_86 => xSl (some c_85) fun a_87 n_88 c_89 e_90 => xCons r_86 fun c_91 r_92 => xSl (some c_91) fun a_93 n_94 c_95 e_96 => xNil r_92 (SCall pg n_laws_toWorld [.agg [.slice a_87 n_88 c_89 e_90, .slice a_93 n_94 c_95 e_96]] h_73 fun v_97 h_98 =>
 xAgg v_97 fun cs_99 => xCons cs_99 fun c_100 r_101 => xSl (some c_100) fun a_102 n_103 c_104 e_105 => xCons r_101 fun c_106 r_107 => xSl (some c_106) fun a_108 n_109 c_110 e_111 => xNil r_107 (letH (h_98 ++ [.cells t_impl_World [.slice none 0 0 true, .slice none 0 0 true] false]) fun h_112 => xHeap (hStore h_112 (.ptr (some (List.length h_98, 0))) [.slice a_102 n_103 c_104 e_105, .slice a_108 n_109 c_110 e_111]) fun h_113 => xRow (hRow h_113 (.ptr (some (List.length h_98, 0))) 2) fun cs_114 => xCons cs_114 fun c_115 r_116 => xSl (some c_115) fun a_117 n_118 c_119 e_120 => xCons r_116 fun c_121 r_122 => xSl (some c_121) fun a_123 n_124 c_125 e_126 => xNil r_122 (xRow (hRow h_113 (.ptr (some (List.length h_0, 0))) 2) fun cs_127 => xCons cs_127 fun c_128 r_129 => xStr (some c_128) fun s_130 => xCons r_129 fun c_131 r_132 => xStr (some c_131) fun s_133 => xNil r_132 ((hRow h_113 (.ptr (some (List.length h_98, 0))) 2 = hRow h_113 (.ptr (some (List.length h_98, 0))) 2) ∧ SCall pg n_laws_toNeed [.agg [.str s_130, .str s_133]] h_113 fun v_134 h_135 =>
 xAgg v_134 fun cs_136 => xCons cs_136 fun c_137 r_138 => xStr (some c_137) fun s_139 => xCons r_138 fun c_140 r_141 => xStr (some c_140) fun s_142 => xNil r_141 ((hRow h_135 (.ptr (some (List.length h_98, 0))) 2 = hRow h_113 (.ptr (some (List.length h_98, 0))) 2) ∧ SCall pg n_impl_CandidatesOf [.agg [.slice a_117 n_118 c_119 e_120, .slice a_123 n_124 c_125 e_126], .agg [.str s_139, .str s_142]] h_135 fun v_143 h_144 =>
 xTup v_143 fun cs_145 => xCons cs_145 fun c_146 r_147 => xSl (some c_146) fun a_148 n_149 c_150 e_151 => xCons r_147 fun c_152 r_153 => xBool (some c_152) fun b_154 => xNil r_153 (SCall pg n_laws_eqIntS [.slice a_148 n_149 c_150 e_151, .slice a_77 n_78 c_79 e_80] h_144 fun v_155 h_156 =>
 xBool (some v_155) fun b_157 => bcase (!b_157) (Q (.bool false) h_156) (bcase (!(b_154 == b_83)) (Q (.bool false) h_156) (J13 Q (List.length h_98) 0 (List.length h) 0 a_148 n_149 c_150 e_151 a_77 n_78 c_79 e_80 b_154 b_83 (List.length h_0) 0 h_156)))))))))))))))))) : SCall pg n_laws_FnExactCandidatesOf [.agg [.slice a0x0 n0x0 c0x0 e0x0, .slice a0x1 n0x1 c0x1 e0x1], .agg [.str x1x0, .str x1x1]] h Q :=
  SCall.of_body kp (c := cod fn) (fn := fn) Go.Proofs.Tryz.func6 (by kernel_rfl) (by kernel_rfl) (Nat.le_of_ble_eq_true (by kernel_rfl))
    (@cast _ (den pg fn.ntmps kp (cod fn) (Env.args 0 [.agg [.slice a0x0 n0x0 c0x0 e0x0, .slice a0x1 n0x1 c0x1 e0x1], .agg [.str x1x0, .str x1x1]]) h (KR Q)) (by kernel_rfl) ht)
end F_laws_FnExactCandidatesOf
end Go.Sim

/- Printed by wip/tool: what the functions' bodies do, in the words of 'den'. -/
set_option maxRecDepth 100000
set_option linter.unusedVariables false
namespace Go.Sim
open Go Go.RowKit
/-! Function loop.example/instancesearch/impl.NeedValid -/
namespace F_impl_NeedValid
noncomputable abbrev fn : Func := Go.Proofs.Tryz.f50
def kp : Keeps := []
noncomputable def C (p : List Nat) : Code := (cod fn).sub p
def KR (Q : QT) : KT := retA pg fn.results.toList Q
theorem call (a0x0 : Pt) (n0x0 c0x0 : Nat) (e0x0 : Bool) (a0x1 : Pt) (n0x1 c0x1 : Nat) (e0x1 : Bool) (x1x0 x1x1 : List Nat) (h : AHeap) (Q : QT) (ht :
 letH (h ++ [.cells t_impl_World [.slice a0x0 n0x0 c0x0 e0x0, .slice a0x1 n0x1 c0x1 e0x1] false]) fun h_0 => letH (h_0 ++ [.cells t_impl_Need [.str x1x0, .str x1x1] false]) fun h_1 => xRow (hRow h_1 (.ptr (some (List.length h, 0))) 2) fun cs_2 => xCons cs_2 fun c_3 r_4 => xSl (some c_3) fun a_5 n_6 c_7 e_8 => xCons r_4 fun c_9 r_10 => xSl (some c_9) fun a_11 n_12 c_13 e_14 => xNil r_10 (SCall pg n_impl_WorldValid [.agg [.slice a_5 n_6 c_7 e_8, .slice a_11 n_12 c_13 e_14]] h_1 fun v_15 h_16 =>
 xBool (some v_15) fun b_17 => bcase b_17 (xRow (hRow h_16 (.ptr (some (List.length h, 0))) 2) fun cs_18 => xCons cs_18 fun c_19 r_20 => xSl (some c_19) fun a_21 n_22 c_23 e_24 => xCons r_20 fun c_25 r_26 => xSl (some c_25) fun a_27 n_28 c_29 e_30 => xNil r_26 (xRow (hRow h_16 (.ptr (some (List.length h_0, 0))) 2) fun cs_31 => xCons cs_31 fun c_32 r_33 => xStr (some c_32) fun s_34 => xCons r_33 fun c_35 r_36 => xStr (some c_35) fun s_37 => xNil r_36 (SCall pg n_impl_needOk [.agg [.slice a_21 n_22 c_23 e_24, .slice a_27 n_28 c_29 e_30], .agg [.str s_34, .str s_37]] h_16 fun v_38 h_39 =>
 xBool (some v_38) fun b_40 => Q (.bool b_40) h_39))) (Q (.bool false) h_16))) : SCall pg n_impl_NeedValid [.agg [.slice a0x0 n0x0 c0x0 e0x0, .slice a0x1 n0x1 c0x1 e0x1], .agg [.str x1x0, .str x1x1]] h Q :=
  SCall.of_body kp (c := cod fn) (fn := fn) Go.Proofs.Tryz.func50 (by kernel_rfl) (by kernel_rfl) (Nat.le_of_ble_eq_true (by kernel_rfl))
    (@cast _ (den pg fn.ntmps kp (cod fn) (Env.args 0 [.agg [.slice a0x0 n0x0 c0x0 e0x0, .slice a0x1 n0x1 c0x1 e0x1], .agg [.str x1x0, .str x1x1]]) h (KR Q)) (by kernel_rfl) ht)
end F_impl_NeedValid
/-! Function loop.example/instancesearch/impl.candidates$1 -/
namespace F_impl_candidates_lit1
noncomputable abbrev fn : Func := Go.Proofs.Tryz.f89
def kp : Keeps := []
noncomputable def C (p : List Nat) : Code := (cod fn).sub p
def KR (Q : QT) : KT := retA pg fn.results.toList Q
theorem call (x0x0 x0x1 : List Nat) (a0x2 : Pt) (n0x2 c0x2 : Nat) (e0x2 : Bool) (v1 : AVal) (h : AHeap) (Q : QT) (ht :
 letH (h ++ [.cells t_impl_Instance [.str x0x0, .str x0x1, .slice a0x2 n0x2 c0x2 e0x2] false]) fun h_0 => xStr (hCell h_0 (.ptr (some (List.length h, 0 + 0 + 1)))) fun s_1 => fieldAddrA pg t_impl_Need v1 1 fun v_2 => xStr (hCell h_0 (v_2)) fun s_3 => SCall pg n_impl_IsInstance [.str s_1, .str s_3] h_0 fun v_4 h_5 =>
 xBool (some v_4) fun b_6 => Q (.bool b_6) h_5) : SCall pg n_impl_candidates_lit1 [.agg [.str x0x0, .str x0x1, .slice a0x2 n0x2 c0x2 e0x2], v1] h Q :=
  SCall.of_body kp (c := cod fn) (fn := fn) Go.Proofs.Tryz.func89 (by kernel_rfl) (by kernel_rfl) (Nat.le_of_ble_eq_true (by kernel_rfl))
    (@cast _ (den pg fn.ntmps kp (cod fn) (Env.args 0 [.agg [.str x0x0, .str x0x1, .slice a0x2 n0x2 c0x2 e0x2], v1]) h (KR Q)) (by kernel_rfl) ht)
end F_impl_candidates_lit1
/-! Function loop.example/instancesearch/impl.among -/
namespace F_impl_among__impl_candidates_lit1
noncomputable abbrev fn : Func := Go.Proofs.Tryz.f88
def kp : Keeps := [(3000003, [7]), (1000003, [1, 2, 7, 12, 13, 14]), (4000007, [14, 13, 12, 1, 2, 7])]
noncomputable def C (p : List Nat) : Code := (cod fn).sub p
def KR (Q : QT) : KT := retA pg fn.results.toList Q
abbrev T3 := List Nat → AVal → Pt → Nat → Nat → Bool → Pt → Nat → Nat → Bool → Int → Int → AHeap → Prop
def E3 (R3 : T3) (env : Env) (h : AHeap) : Prop := eVal 1 env fun v env => xStr (some v) fun x1 => eVal 2 env fun v env => eFn n_impl_candidates_lit1 v fun cs => xCons cs fun c cs' => xAny (some c) fun v2x0 => xNil cs' (eVal 7 env fun v env => xSl (some v) fun a7 n7 c7 e7 => eVal 12 env fun v env => xSl (some v) fun a12 n12 c12 e12 => eVal 13 env fun v env => eInt .i64 v fun x13 => eVal 14 env fun v env => eInt .i64 v fun x14 => eNil env (R3 x1 v2x0 a7 n7 c7 e7 a12 n12 c12 e12 x13 x14 h))
theorem E3elim {R3 : T3} {env : Env} {h : AHeap} (hi : E3 R3 env h) : ∃ x1, ∃ v2x0, ∃ a7, ∃ n7, ∃ c7, ∃ e7, ∃ a12, ∃ n12, ∃ c12, ∃ e12, ∃ x13, ∃ x14, env = [(1, .str x1), (2, .fn n_impl_candidates_lit1 [v2x0]), (7, .slice a7 n7 c7 e7), (12, .slice a12 n12 c12 e12), (13, .int .i64 x13), (14, .int .i64 x14)] ∧ R3 x1 v2x0 a7 n7 c7 e7 a12 n12 c12 e12 x13 x14 h := by
  unfold E3 at hi
  have hi0 := hi
  clear hi
  obtain ⟨v, env, rfl, hi1⟩ := eVal_elim hi0
  obtain ⟨x1, rfl, hi2⟩ := xStr_elim hi1
  obtain ⟨v, env, rfl, hi3⟩ := eVal_elim hi2
  obtain ⟨cs, rfl, hi4⟩ := eFn_elim hi3
  obtain ⟨c, cs', rfl, hi5⟩ := xCons_elim hi4
  obtain ⟨v2x0, hx, hi6⟩ := xAny_elim hi5
  replace hx := (Option.some.inj hx).symm
  subst hx
  obtain ⟨rfl, hi7⟩ := xNil_elim hi6
  obtain ⟨v, env, rfl, hi8⟩ := eVal_elim hi7
  obtain ⟨a7, n7, c7, e7, rfl, hi9⟩ := xSl_elim hi8
  obtain ⟨v, env, rfl, hi10⟩ := eVal_elim hi9
  obtain ⟨a12, n12, c12, e12, rfl, hi11⟩ := xSl_elim hi10
  obtain ⟨v, env, rfl, hi12⟩ := eVal_elim hi11
  obtain ⟨x13, rfl, hi13⟩ := eInt_elim hi12
  obtain ⟨v, env, rfl, hi14⟩ := eVal_elim hi13
  obtain ⟨x14, rfl, hi15⟩ := eInt_elim hi14
  obtain ⟨rfl, hi16⟩ := eNil_elim hi15
  have hi := hi16
  exact ⟨x1, v2x0, a7, n7, c7, e7, a12, n12, c12, e12, x13, x14, rfl, hi⟩
def K0 (Q : QT) : KT := andThen (fun env' h' => (match kp.find 4000008 with | some ks => Den pg fn.ntmps (C [1, 1, 1]) (env'.keep ks) h' (KR Q) | none => den pg fn.ntmps kp (C [1, 1, 1]) env' h' (KR Q))) (KR Q)
def K1 (Q : QT) : KT := onExit 0 (K0 Q)
def K2 (Q : QT) : KT := left kp 3 (K1 Q)
def K3 (Q : QT) (R3 : T3) : KT := rnd ((kp.find 1000003).getD []) (E3 R3) (K2 Q)
def L3 (Q : QT) (x1 : List Nat) (v2x0 : AVal) (a7 : Pt) (n7 c7 : Nat) (e7 : Bool) (a12 : Pt) (n12 c12 : Nat) (e12 : Bool) (x13 x14 : Int) (h : AHeap) : Prop := Loop (Den pg fn.ntmps (C [1, 1, 0, 1, 0, 0])) ((kp.find 1000003).getD []) (K2 Q) [(1, .str x1), (2, .fn n_impl_candidates_lit1 [v2x0]), (7, .slice a7 n7 c7 e7), (12, .slice a12 n12 c12 e12), (13, .int .i64 x13), (14, .int .i64 x14)] h
def J7 (Q : QT) (R3 : T3) (x14 x13 : Int) (a12 : Pt) (n12 c12 : Nat) (e12 : Bool) (x1 : List Nat) (v2x0 : AVal) (a7 : Pt) (n7 c7 : Nat) (e7 : Bool) (h : AHeap) : Prop := Den pg fn.ntmps (C [1, 1, 0, 1, 0, 0, 1, 1, 1]) [(14, .int .i64 x14), (13, .int .i64 x13), (12, .slice a12 n12 c12 e12), (1, .str x1), (2, .fn n_impl_candidates_lit1 [v2x0]), (7, .slice a7 n7 c7 e7)] h (K3 Q R3)
def A3x0 (Q : QT) (a7 : Pt) (n7 c7 : Nat) (e7 : Bool) (h : AHeap) : Prop := At (K1 Q) (.exit 0) [(7, .slice a7 n7 c7 e7)] h
def L3t (Q : QT) (R3 : T3) (x1 : List Nat) (v2x0 : AVal) (a7 : Pt) (n7 c7 : Nat) (e7 : Bool) (a12 : Pt) (n12 c12 : Nat) (e12 : Bool) (x13 x14 : Int) (h : AHeap) : Prop :=
 bcase (decide ((x14 : Int) < x13)) ((0 ≤ (x14 : Int) ∧ (x14 : Int) < (n12 : Nat)) ∧ (xSome a12 fun i_6 o_7 => xRow (hRow h (.ptr (some (i_6, o_7 + (Int.toNat x14) * 3))) 3) fun cs_8 => xCons cs_8 fun c_9 r_10 => xStr (some c_9) fun s_11 => xCons r_10 fun c_12 r_13 => xStr (some c_12) fun s_14 => xCons r_13 fun c_15 r_16 => xSl (some c_15) fun a_17 n_18 c_19 e_20 => xNil r_16 (letH (h ++ [.cells t_impl_Instance [.str [], .str [], .slice none 0 0 true] false]) fun h_21 => xHeap (hStore h_21 (.ptr (some (List.length h, 0))) [.str s_11, .str s_14, .slice a_17 n_18 c_19 e_20]) fun h_22 => xStr (hCell h_22 (.ptr (some (List.length h, 0 + 0 + 0)))) fun s_23 => bcase (decide (s_23 = x1)) (xRow (hRow h_22 (.ptr (some (List.length h, 0))) 3) fun cs_24 => xCons cs_24 fun c_25 r_26 => xStr (some c_25) fun s_27 => xCons r_26 fun c_28 r_29 => xStr (some c_28) fun s_30 => xCons r_29 fun c_31 r_32 => xSl (some c_31) fun a_33 n_34 c_35 e_36 => xNil r_32 (SCall pg n_impl_candidates_lit1 [.agg [.str s_27, .str s_30, .slice a_33 n_34 c_35 e_36], v2x0] h_22 fun v_37 h_38 =>
 xBool (some v_37) fun b_39 => bcase b_39 (letH (h_38 ++ [.cells t_int [.int .i64 x14] false]) fun h_40 => appendA pg t_L_int h_40 (.slice a7 n7 c7 e7) (.slice (some (List.length h_38, 0)) 1 1 true) fun v_41 h_42 => xSl (some v_41) fun a_43 n_44 c_45 e_46 => J7 Q R3 x14 x13 a12 n12 c12 e12 x1 v2x0 a_43 n_44 c_45 e_46 h_42) (J7 Q R3 x14 x13 a12 n12 c12 e12 x1 v2x0 a7 n7 c7 e7 h_38))) (J7 Q R3 x14 x13 a12 n12 c12 e12 x1 v2x0 a7 n7 c7 e7 h_22)))) (A3x0 Q a7 n7 c7 e7 h)
theorem L3den (Q : QT) (R3 : T3) (x1 : List Nat) (v2x0 : AVal) (a7 : Pt) (n7 c7 : Nat) (e7 : Bool) (a12 : Pt) (n12 c12 : Nat) (e12 : Bool) (x13 x14 : Int) (h : AHeap) (ht : L3t Q R3 x1 v2x0 a7 n7 c7 e7 a12 n12 c12 e12 x13 x14 h) : Den pg fn.ntmps (C [1, 1, 0, 1, 0, 0]) [(1, .str x1), (2, .fn n_impl_candidates_lit1 [v2x0]), (7, .slice a7 n7 c7 e7), (12, .slice a12 n12 c12 e12), (13, .int .i64 x13), (14, .int .i64 x14)] h (K3 Q R3) :=
  den_Den (kp := kp) (@cast _ (den pg fn.ntmps kp (C [1, 1, 0, 1, 0, 0]) [(1, .str x1), (2, .fn n_impl_candidates_lit1 [v2x0]), (7, .slice a7 n7 c7 e7), (12, .slice a12 n12 c12 e12), (13, .int .i64 x13), (14, .int .i64 x14)] h (K3 Q R3)) (by kernel_rfl) ht)
theorem L3ind (Q : QT) (x1 : List Nat) (v2x0 : AVal) (a12 : Pt) (n12 c12 : Nat) (e12 : Bool) (x13 : Int) {G : Type} (J : G → Pt → Nat → Nat → Bool → Int → AHeap → Prop) (m : G → Nat)
 (hr : ∀ (g : G) (a7 : Pt) (n7 c7 : Nat) (e7 : Bool) (x14 : Int) (h : AHeap), J g a7 n7 c7 e7 x14 h → ∀ (R3 : T3), (∀ g' (a7 : Pt) (n7 c7 : Nat) (e7 : Bool) (x14 : Int) (h : AHeap), m g' < m g → J g' a7 n7 c7 e7 x14 h → R3 x1 v2x0 a7 n7 c7 e7 a12 n12 c12 e12 x13 x14 h) → L3t Q R3 x1 v2x0 a7 n7 c7 e7 a12 n12 c12 e12 x13 x14 h)
 (g : G) (a7 : Pt) (n7 c7 : Nat) (e7 : Bool) (x14 : Int) (h : AHeap) (hj : J g a7 n7 c7 e7 x14 h) : L3 Q x1 v2x0 a7 n7 c7 e7 a12 n12 c12 e12 x13 x14 h := by
  refine Loop.inv2 (fun g => E3 fun x1' v2x0' a7 n7 c7 e7 a12' n12' c12' e12' x13' x14 h => x1 = x1' ∧ v2x0 = v2x0' ∧ a12 = a12' ∧ n12 = n12' ∧ c12 = c12' ∧ e12 = e12' ∧ x13 = x13' ∧ J g a7 n7 c7 e7 x14 h) (fun g => E3 fun x1' v2x0' a7 n7 c7 e7 a12' n12' c12' e12' x13' x14 h => x1 = x1' ∧ v2x0 = v2x0' ∧ a12 = a12' ∧ n12 = n12' ∧ c12 = c12' ∧ e12 = e12' ∧ x13 = x13' ∧ ∃ g', m g' < m g ∧ J g' a7 n7 c7 e7 x14 h) m ?_ ?_ g ⟨rfl, rfl, rfl, rfl, rfl, rfl, rfl, hj⟩
  · intro g env h hi
    obtain ⟨x1', v2x0', a7, n7, c7, e7, a12', n12', c12', e12', x13', x14, rfl, rfl, rfl, rfl, rfl, rfl, rfl, rfl, hj⟩ := E3elim hi
    exact L3den Q (fun x1' v2x0' a7 n7 c7 e7 a12' n12' c12' e12' x13' x14 h => x1 = x1' ∧ v2x0 = v2x0' ∧ a12 = a12' ∧ n12 = n12' ∧ c12 = c12' ∧ e12 = e12' ∧ x13 = x13' ∧ ∃ g', m g' < m g ∧ J g' a7 n7 c7 e7 x14 h) x1 v2x0 a7 n7 c7 e7 a12 n12 c12 e12 x13 x14 h (hr g a7 n7 c7 e7 x14 h hj (fun x1' v2x0' a7 n7 c7 e7 a12' n12' c12' e12' x13' x14 h => x1 = x1' ∧ v2x0 = v2x0' ∧ a12 = a12' ∧ n12 = n12' ∧ c12 = c12' ∧ e12 = e12' ∧ x13 = x13' ∧ ∃ g', m g' < m g ∧ J g' a7 n7 c7 e7 x14 h) fun g' a7 n7 c7 e7 x14 h hlt hj => ⟨rfl, rfl, rfl, rfl, rfl, rfl, rfl, g', hlt, hj⟩)
  · intro g env h hi
    obtain ⟨x1', v2x0', a7, n7, c7, e7, a12', n12', c12', e12', x13', x14, rfl, rfl, rfl, rfl, rfl, rfl, rfl, rfl, g', hlt, hj⟩ := E3elim hi
    exact ⟨g', hlt, rfl, rfl, rfl, rfl, rfl, rfl, rfl, hj⟩
theorem J7i (Q : QT) (R3 : T3) (x14 x13 : Int) (a12 : Pt) (n12 c12 : Nat) (e12 : Bool) (x1 : List Nat) (v2x0 : AVal) (a7 : Pt) (n7 c7 : Nat) (e7 : Bool) (h : AHeap) (ht :
 R3 x1 v2x0 a7 n7 c7 e7 a12 n12 c12 e12 x13 (IntKind.wrap .i64 (x14 + 1)) h) : J7 Q R3 x14 x13 a12 n12 c12 e12 x1 v2x0 a7 n7 c7 e7 h :=
  den_Den (kp := kp) (@cast _ (den pg fn.ntmps kp (C [1, 1, 0, 1, 0, 0, 1, 1, 1]) [(14, .int .i64 x14), (13, .int .i64 x13), (12, .slice a12 n12 c12 e12), (1, .str x1), (2, .fn n_impl_candidates_lit1 [v2x0]), (7, .slice a7 n7 c7 e7)] h (K3 Q R3)) (by kernel_rfl) ht)
theorem A3x0i (Q : QT) (a7 : Pt) (n7 c7 : Nat) (e7 : Bool) (h : AHeap) (ht :
 Q (.slice a7 n7 c7 e7) h) : A3x0 Q a7 n7 c7 e7 h :=
  At.mk (@cast _ ((K1 Q) (.exit 0) [(7, .slice a7 n7 c7 e7)] h) (by kernel_rfl) ht)
theorem call (a0x0 : Pt) (n0x0 c0x0 : Nat) (e0x0 : Bool) (a0x1 : Pt) (n0x1 c0x1 : Nat) (e0x1 : Bool) (x1 : List Nat) (v2x0 : AVal) (h : AHeap) (Q : QT) (ht :
 letH (h ++ [.cells t_impl_World [.slice a0x0 n0x0 c0x0 e0x0, .slice a0x1 n0x1 c0x1 e0x1] false]) fun h_0 => letH (h_0 ++ [.cells t_int [] false]) fun h_1 => xSl (hCell h_1 (.ptr (some (List.length h, 0 + 1)))) fun a_2 n_3 c_4 e_5 => L3 Q x1 v2x0 (some (List.length h_0, 0)) 0 0 true a_2 n_3 c_4 e_5 (((n_3 : Nat) : Int)) 0 h_1) : SCall pg n_impl_among [.agg [.slice a0x0 n0x0 c0x0 e0x0, .slice a0x1 n0x1 c0x1 e0x1], .str x1, .fn n_impl_candidates_lit1 [v2x0]] h Q :=
  SCall.of_body kp (c := cod fn) (fn := fn) Go.Proofs.Tryz.func88 (by kernel_rfl) (by kernel_rfl) (Nat.le_of_ble_eq_true (by kernel_rfl))
    (@cast _ (den pg fn.ntmps kp (cod fn) (Env.args 0 [.agg [.slice a0x0 n0x0 c0x0 e0x0, .slice a0x1 n0x1 c0x1 e0x1], .str x1, .fn n_impl_candidates_lit1 [v2x0]]) h (KR Q)) (by kernel_rfl) ht)
end F_impl_among__impl_candidates_lit1
/-! Function loop.example/instancesearch/impl.candidates -/
namespace F_impl_candidates
noncomputable abbrev fn : Func := Go.Proofs.Tryz.f51
def kp : Keeps := []
noncomputable def C (p : List Nat) : Code := (cod fn).sub p
def KR (Q : QT) : KT := retA pg fn.results.toList Q
theorem call (a0x0 : Pt) (n0x0 c0x0 : Nat) (e0x0 : Bool) (a0x1 : Pt) (n0x1 c0x1 : Nat) (e0x1 : Bool) (x1x0 x1x1 : List Nat) (h : AHeap) (Q : QT) (ht :
 letH (h ++ [.cells t_impl_World [.slice a0x0 n0x0 c0x0 e0x0, .slice a0x1 n0x1 c0x1 e0x1] false]) fun h_0 => letH (h_0 ++ [.cells t_impl_Need [.str x1x0, .str x1x1] false]) fun h_1 => xRow (hRow h_1 (.ptr (some (List.length h, 0))) 2) fun cs_2 => xCons cs_2 fun c_3 r_4 => xSl (some c_3) fun a_5 n_6 c_7 e_8 => xCons r_4 fun c_9 r_10 => xSl (some c_9) fun a_11 n_12 c_13 e_14 => xNil r_10 (xStr (hCell h_1 (.ptr (some (List.length h_0, 0 + 0)))) fun s_15 => SCall pg n_impl_among [.agg [.slice a_5 n_6 c_7 e_8, .slice a_11 n_12 c_13 e_14], .str s_15, .fn n_impl_candidates_lit1 [.ptr (some (List.length h_0, 0))]] h_1 fun v_16 h_17 =>
 xSl (some v_16) fun a_18 n_19 c_20 e_21 => Q (.slice a_18 n_19 c_20 e_21) h_17)) : SCall pg n_impl_candidates [.agg [.slice a0x0 n0x0 c0x0 e0x0, .slice a0x1 n0x1 c0x1 e0x1], .agg [.str x1x0, .str x1x1]] h Q :=
  SCall.of_body kp (c := cod fn) (fn := fn) Go.Proofs.Tryz.func51 (by kernel_rfl) (by kernel_rfl) (Nat.le_of_ble_eq_true (by kernel_rfl))
    (@cast _ (den pg fn.ntmps kp (cod fn) (Env.args 0 [.agg [.slice a0x0 n0x0 c0x0 e0x0, .slice a0x1 n0x1 c0x1 e0x1], .agg [.str x1x0, .str x1x1]]) h (KR Q)) (by kernel_rfl) ht)
end F_impl_candidates
/-! Function loop.example/instancesearch/impl.CandidatesOf -/
namespace F_impl_CandidatesOf
noncomputable abbrev fn : Func := Go.Proofs.Tryz.f15
def kp : Keeps := []
noncomputable def C (p : List Nat) : Code := (cod fn).sub p
def KR (Q : QT) : KT := retA pg fn.results.toList Q
theorem call (a0x0 : Pt) (n0x0 c0x0 : Nat) (e0x0 : Bool) (a0x1 : Pt) (n0x1 c0x1 : Nat) (e0x1 : Bool) (x1x0 x1x1 : List Nat) (h : AHeap) (Q : QT) (ht :
 letH (h ++ [.cells t_impl_World [.slice a0x0 n0x0 c0x0 e0x0, .slice a0x1 n0x1 c0x1 e0x1] false]) fun h_0 => letH (h_0 ++ [.cells t_impl_Need [.str x1x0, .str x1x1] false]) fun h_1 => xRow (hRow h_1 (.ptr (some (List.length h, 0))) 2) fun cs_2 => xCons cs_2 fun c_3 r_4 => xSl (some c_3) fun a_5 n_6 c_7 e_8 => xCons r_4 fun c_9 r_10 => xSl (some c_9) fun a_11 n_12 c_13 e_14 => xNil r_10 (xRow (hRow h_1 (.ptr (some (List.length h_0, 0))) 2) fun cs_15 => xCons cs_15 fun c_16 r_17 => xStr (some c_16) fun s_18 => xCons r_17 fun c_19 r_20 => xStr (some c_19) fun s_21 => xNil r_20 (SCall pg n_impl_NeedValid [.agg [.slice a_5 n_6 c_7 e_8, .slice a_11 n_12 c_13 e_14], .agg [.str s_18, .str s_21]] h_1 fun v_22 h_23 =>
 xBool (some v_22) fun b_24 => bcase (!b_24) (Q (.tup [.slice none 0 0 true, .bool false]) h_23) (xRow (hRow h_23 (.ptr (some (List.length h, 0))) 2) fun cs_25 => xCons cs_25 fun c_26 r_27 => xSl (some c_26) fun a_28 n_29 c_30 e_31 => xCons r_27 fun c_32 r_33 => xSl (some c_32) fun a_34 n_35 c_36 e_37 => xNil r_33 (xRow (hRow h_23 (.ptr (some (List.length h_0, 0))) 2) fun cs_38 => xCons cs_38 fun c_39 r_40 => xStr (some c_39) fun s_41 => xCons r_40 fun c_42 r_43 => xStr (some c_42) fun s_44 => xNil r_43 (SCall pg n_impl_candidates [.agg [.slice a_28 n_29 c_30 e_31, .slice a_34 n_35 c_36 e_37], .agg [.str s_41, .str s_44]] h_23 fun v_45 h_46 =>
 xSl (some v_45) fun a_47 n_48 c_49 e_50 => Q (.tup [.slice a_47 n_48 c_49 e_50, .bool true]) h_46)))))) : SCall pg n_impl_CandidatesOf [.agg [.slice a0x0 n0x0 c0x0 e0x0, .slice a0x1 n0x1 c0x1 e0x1], .agg [.str x1x0, .str x1x1]] h Q :=
  SCall.of_body kp (c := cod fn) (fn := fn) Go.Proofs.Tryz.func15 (by kernel_rfl) (by kernel_rfl) (Nat.le_of_ble_eq_true (by kernel_rfl))
    (@cast _ (den pg fn.ntmps kp (cod fn) (Env.args 0 [.agg [.slice a0x0 n0x0 c0x0 e0x0, .slice a0x1 n0x1 c0x1 e0x1], .agg [.str x1x0, .str x1x1]]) h (KR Q)) (by kernel_rfl) ht)
end F_impl_CandidatesOf
/-! Function loop.example/instancesearch/spec.l4Candidates -/
namespace F_spec_l4Candidates
noncomputable abbrev fn : Func := Go.Proofs.Tryz.f54
def kp : Keeps := [(3000003, [5]), (1000003, [3, 5, 10, 11, 12]), (4000007, [12, 11, 10, 3, 5])]
noncomputable def C (p : List Nat) : Code := (cod fn).sub p
def KR (Q : QT) : KT := retA pg fn.results.toList Q
abbrev T3 := Nat → Nat → Pt → Nat → Nat → Bool → Pt → Nat → Nat → Bool → Int → Int → AHeap → Prop
def E3 (R3 : T3) (env : Env) (h : AHeap) : Prop := eVal 3 env fun v env => xPtr (some v) fun a => xSome a fun i3 o3 => eVal 5 env fun v env => xSl (some v) fun a5 n5 c5 e5 => eVal 10 env fun v env => xSl (some v) fun a10 n10 c10 e10 => eVal 11 env fun v env => eInt .i64 v fun x11 => eVal 12 env fun v env => eInt .i64 v fun x12 => eNil env (R3 i3 o3 a5 n5 c5 e5 a10 n10 c10 e10 x11 x12 h)
theorem E3elim {R3 : T3} {env : Env} {h : AHeap} (hi : E3 R3 env h) : ∃ i3, ∃ o3, ∃ a5, ∃ n5, ∃ c5, ∃ e5, ∃ a10, ∃ n10, ∃ c10, ∃ e10, ∃ x11, ∃ x12, env = [(3, .ptr (some (i3, o3))), (5, .slice a5 n5 c5 e5), (10, .slice a10 n10 c10 e10), (11, .int .i64 x11), (12, .int .i64 x12)] ∧ R3 i3 o3 a5 n5 c5 e5 a10 n10 c10 e10 x11 x12 h := by
  unfold E3 at hi
  have hi0 := hi
  clear hi
  obtain ⟨v, env, rfl, hi1⟩ := eVal_elim hi0
  obtain ⟨a, rfl, hi2⟩ := xPtr_elim hi1
  obtain ⟨i3, o3, rfl, hi3⟩ := xSome_elim hi2
  obtain ⟨v, env, rfl, hi4⟩ := eVal_elim hi3
  obtain ⟨a5, n5, c5, e5, rfl, hi5⟩ := xSl_elim hi4
  obtain ⟨v, env, rfl, hi6⟩ := eVal_elim hi5
  obtain ⟨a10, n10, c10, e10, rfl, hi7⟩ := xSl_elim hi6
  obtain ⟨v, env, rfl, hi8⟩ := eVal_elim hi7
  obtain ⟨x11, rfl, hi9⟩ := eInt_elim hi8
  obtain ⟨v, env, rfl, hi10⟩ := eVal_elim hi9
  obtain ⟨x12, rfl, hi11⟩ := eInt_elim hi10
  obtain ⟨rfl, hi12⟩ := eNil_elim hi11
  have hi := hi12
  exact ⟨i3, o3, a5, n5, c5, e5, a10, n10, c10, e10, x11, x12, rfl, hi⟩
def K0 (Q : QT) : KT := andThen (fun env' h' => (match kp.find 4000008 with | some ks => Den pg fn.ntmps (C [1, 1, 1]) (env'.keep ks) h' (KR Q) | none => den pg fn.ntmps kp (C [1, 1, 1]) env' h' (KR Q))) (KR Q)
def K1 (Q : QT) : KT := onExit 0 (K0 Q)
def K2 (Q : QT) : KT := left kp 3 (K1 Q)
def K3 (Q : QT) (R3 : T3) : KT := rnd ((kp.find 1000003).getD []) (E3 R3) (K2 Q)
def L3 (Q : QT) (i3 o3 : Nat) (a5 : Pt) (n5 c5 : Nat) (e5 : Bool) (a10 : Pt) (n10 c10 : Nat) (e10 : Bool) (x11 x12 : Int) (h : AHeap) : Prop := Loop (Den pg fn.ntmps (C [1, 1, 0, 1, 0, 0])) ((kp.find 1000003).getD []) (K2 Q) [(3, .ptr (some (i3, o3))), (5, .slice a5 n5 c5 e5), (10, .slice a10 n10 c10 e10), (11, .int .i64 x11), (12, .int .i64 x12)] h
def J7 (Q : QT) (R3 : T3) (x12 x11 : Int) (a10 : Pt) (n10 c10 : Nat) (e10 : Bool) (i3 o3 : Nat) (a5 : Pt) (n5 c5 : Nat) (e5 : Bool) (h : AHeap) : Prop := Den pg fn.ntmps (C [1, 1, 0, 1, 0, 0, 1, 1, 1]) [(12, .int .i64 x12), (11, .int .i64 x11), (10, .slice a10 n10 c10 e10), (3, .ptr (some (i3, o3))), (5, .slice a5 n5 c5 e5)] h (K3 Q R3)
def A3x0 (Q : QT) (a5 : Pt) (n5 c5 : Nat) (e5 : Bool) (h : AHeap) : Prop := At (K1 Q) (.exit 0) [(5, .slice a5 n5 c5 e5)] h
def L3t (Q : QT) (R3 : T3) (i3 o3 : Nat) (a5 : Pt) (n5 c5 : Nat) (e5 : Bool) (a10 : Pt) (n10 c10 : Nat) (e10 : Bool) (x11 x12 : Int) (h : AHeap) : Prop :=
 bcase (decide ((x12 : Int) < x11)) ((0 ≤ (x12 : Int) ∧ (x12 : Int) < (n10 : Nat)) ∧ (xSome a10 fun i_7 o_8 => xRow (hRow h (.ptr (some (i_7, o_8 + (Int.toNat x12) * 3))) 3) fun cs_9 => xCons cs_9 fun c_10 r_11 => xStr (some c_10) fun s_12 => xCons r_11 fun c_13 r_14 => xStr (some c_13) fun s_15 => xCons r_14 fun c_16 r_17 => xSl (some c_16) fun a_18 n_19 c_20 e_21 => xNil r_17 (letH (h ++ [.cells t_impl_Instance [.str [], .str [], .slice none 0 0 true] false]) fun h_22 => xHeap (hStore h_22 (.ptr (some (List.length h, 0))) [.str s_12, .str s_15, .slice a_18 n_19 c_20 e_21]) fun h_23 => xStr (hCell h_23 (.ptr (some (List.length h, 0 + 0 + 0)))) fun s_24 => xStr (hCell h_23 (.ptr (some (i3, o3 + 0)))) fun s_25 => bcase (decide (s_24 = s_25)) (xStr (hCell h_23 (.ptr (some (List.length h, 0 + 0 + 1)))) fun s_26 => xStr (hCell h_23 (.ptr (some (i3, o3 + 1)))) fun s_27 => SCall pg n_spec_IsInstance [.str s_26, .str s_27] h_23 fun v_28 h_29 =>
 xBool (some v_28) fun b_30 => bcase b_30 (letH (h_29 ++ [.cells t_int [.int .i64 x12] false]) fun h_31 => appendA pg t_L_int h_31 (.slice a5 n5 c5 e5) (.slice (some (List.length h_29, 0)) 1 1 true) fun v_32 h_33 => xSl (some v_32) fun a_34 n_35 c_36 e_37 => J7 Q R3 x12 x11 a10 n10 c10 e10 i3 o3 a_34 n_35 c_36 e_37 h_33) (J7 Q R3 x12 x11 a10 n10 c10 e10 i3 o3 a5 n5 c5 e5 h_29)) (J7 Q R3 x12 x11 a10 n10 c10 e10 i3 o3 a5 n5 c5 e5 h_23)))) (A3x0 Q a5 n5 c5 e5 h)
theorem L3den (Q : QT) (R3 : T3) (i3 o3 : Nat) (a5 : Pt) (n5 c5 : Nat) (e5 : Bool) (a10 : Pt) (n10 c10 : Nat) (e10 : Bool) (x11 x12 : Int) (h : AHeap) (ht : L3t Q R3 i3 o3 a5 n5 c5 e5 a10 n10 c10 e10 x11 x12 h) : Den pg fn.ntmps (C [1, 1, 0, 1, 0, 0]) [(3, .ptr (some (i3, o3))), (5, .slice a5 n5 c5 e5), (10, .slice a10 n10 c10 e10), (11, .int .i64 x11), (12, .int .i64 x12)] h (K3 Q R3) :=
  den_Den (kp := kp) (@cast _ (den pg fn.ntmps kp (C [1, 1, 0, 1, 0, 0]) [(3, .ptr (some (i3, o3))), (5, .slice a5 n5 c5 e5), (10, .slice a10 n10 c10 e10), (11, .int .i64 x11), (12, .int .i64 x12)] h (K3 Q R3)) (by kernel_rfl) ht)
theorem L3ind (Q : QT) (i3 o3 : Nat) (a10 : Pt) (n10 c10 : Nat) (e10 : Bool) (x11 : Int) {G : Type} (J : G → Pt → Nat → Nat → Bool → Int → AHeap → Prop) (m : G → Nat)
 (hr : ∀ (g : G) (a5 : Pt) (n5 c5 : Nat) (e5 : Bool) (x12 : Int) (h : AHeap), J g a5 n5 c5 e5 x12 h → ∀ (R3 : T3), (∀ g' (a5 : Pt) (n5 c5 : Nat) (e5 : Bool) (x12 : Int) (h : AHeap), m g' < m g → J g' a5 n5 c5 e5 x12 h → R3 i3 o3 a5 n5 c5 e5 a10 n10 c10 e10 x11 x12 h) → L3t Q R3 i3 o3 a5 n5 c5 e5 a10 n10 c10 e10 x11 x12 h)
 (g : G) (a5 : Pt) (n5 c5 : Nat) (e5 : Bool) (x12 : Int) (h : AHeap) (hj : J g a5 n5 c5 e5 x12 h) : L3 Q i3 o3 a5 n5 c5 e5 a10 n10 c10 e10 x11 x12 h := by
  refine Loop.inv2 (fun g => E3 fun i3' o3' a5 n5 c5 e5 a10' n10' c10' e10' x11' x12 h => i3 = i3' ∧ o3 = o3' ∧ a10 = a10' ∧ n10 = n10' ∧ c10 = c10' ∧ e10 = e10' ∧ x11 = x11' ∧ J g a5 n5 c5 e5 x12 h) (fun g => E3 fun i3' o3' a5 n5 c5 e5 a10' n10' c10' e10' x11' x12 h => i3 = i3' ∧ o3 = o3' ∧ a10 = a10' ∧ n10 = n10' ∧ c10 = c10' ∧ e10 = e10' ∧ x11 = x11' ∧ ∃ g', m g' < m g ∧ J g' a5 n5 c5 e5 x12 h) m ?_ ?_ g ⟨rfl, rfl, rfl, rfl, rfl, rfl, rfl, hj⟩
  · intro g env h hi
    obtain ⟨i3', o3', a5, n5, c5, e5, a10', n10', c10', e10', x11', x12, rfl, rfl, rfl, rfl, rfl, rfl, rfl, rfl, hj⟩ := E3elim hi
    exact L3den Q (fun i3' o3' a5 n5 c5 e5 a10' n10' c10' e10' x11' x12 h => i3 = i3' ∧ o3 = o3' ∧ a10 = a10' ∧ n10 = n10' ∧ c10 = c10' ∧ e10 = e10' ∧ x11 = x11' ∧ ∃ g', m g' < m g ∧ J g' a5 n5 c5 e5 x12 h) i3 o3 a5 n5 c5 e5 a10 n10 c10 e10 x11 x12 h (hr g a5 n5 c5 e5 x12 h hj (fun i3' o3' a5 n5 c5 e5 a10' n10' c10' e10' x11' x12 h => i3 = i3' ∧ o3 = o3' ∧ a10 = a10' ∧ n10 = n10' ∧ c10 = c10' ∧ e10 = e10' ∧ x11 = x11' ∧ ∃ g', m g' < m g ∧ J g' a5 n5 c5 e5 x12 h) fun g' a5 n5 c5 e5 x12 h hlt hj => ⟨rfl, rfl, rfl, rfl, rfl, rfl, rfl, g', hlt, hj⟩)
  · intro g env h hi
    obtain ⟨i3', o3', a5, n5, c5, e5, a10', n10', c10', e10', x11', x12, rfl, rfl, rfl, rfl, rfl, rfl, rfl, rfl, g', hlt, hj⟩ := E3elim hi
    exact ⟨g', hlt, rfl, rfl, rfl, rfl, rfl, rfl, rfl, hj⟩
theorem J7i (Q : QT) (R3 : T3) (x12 x11 : Int) (a10 : Pt) (n10 c10 : Nat) (e10 : Bool) (i3 o3 : Nat) (a5 : Pt) (n5 c5 : Nat) (e5 : Bool) (h : AHeap) (ht :
 R3 i3 o3 a5 n5 c5 e5 a10 n10 c10 e10 x11 (IntKind.wrap .i64 (x12 + 1)) h) : J7 Q R3 x12 x11 a10 n10 c10 e10 i3 o3 a5 n5 c5 e5 h :=
  den_Den (kp := kp) (@cast _ (den pg fn.ntmps kp (C [1, 1, 0, 1, 0, 0, 1, 1, 1]) [(12, .int .i64 x12), (11, .int .i64 x11), (10, .slice a10 n10 c10 e10), (3, .ptr (some (i3, o3))), (5, .slice a5 n5 c5 e5)] h (K3 Q R3)) (by kernel_rfl) ht)
theorem A3x0i (Q : QT) (a5 : Pt) (n5 c5 : Nat) (e5 : Bool) (h : AHeap) (ht :
 Q (.slice a5 n5 c5 e5) h) : A3x0 Q a5 n5 c5 e5 h :=
  At.mk (@cast _ ((K1 Q) (.exit 0) [(5, .slice a5 n5 c5 e5)] h) (by kernel_rfl) ht)
theorem call (a0x0 : Pt) (n0x0 c0x0 : Nat) (e0x0 : Bool) (a0x1 : Pt) (n0x1 c0x1 : Nat) (e0x1 : Bool) (x1x0 x1x1 : List Nat) (h : AHeap) (Q : QT) (ht :
 letH (h ++ [.cells t_impl_World [.slice a0x0 n0x0 c0x0 e0x0, .slice a0x1 n0x1 c0x1 e0x1] false]) fun h_0 => letH (h_0 ++ [.cells t_impl_Need [.str x1x0, .str x1x1] false]) fun h_1 => letH (h_1 ++ [.cells t_int [] false]) fun h_2 => xSl (hCell h_2 (.ptr (some (List.length h, 0 + 1)))) fun a_3 n_4 c_5 e_6 => L3 Q (List.length h_0) 0 (some (List.length h_1, 0)) 0 0 true a_3 n_4 c_5 e_6 (((n_4 : Nat) : Int)) 0 h_2) : SCall pg n_spec_l4Candidates [.agg [.slice a0x0 n0x0 c0x0 e0x0, .slice a0x1 n0x1 c0x1 e0x1], .agg [.str x1x0, .str x1x1]] h Q :=
  SCall.of_body kp (c := cod fn) (fn := fn) Go.Proofs.Tryz.func54 (by kernel_rfl) (by kernel_rfl) (Nat.le_of_ble_eq_true (by kernel_rfl))
    (@cast _ (den pg fn.ntmps kp (cod fn) (Env.args 0 [.agg [.slice a0x0 n0x0 c0x0 e0x0, .slice a0x1 n0x1 c0x1 e0x1], .agg [.str x1x0, .str x1x1]]) h (KR Q)) (by kernel_rfl) ht)
end F_spec_l4Candidates
/-! Function loop.example/instancesearch/spec.CandidatesOf -/
namespace F_spec_CandidatesOf
noncomputable abbrev fn : Func := Go.Proofs.Tryz.f20
def kp : Keeps := []
noncomputable def C (p : List Nat) : Code := (cod fn).sub p
def KR (Q : QT) : KT := retA pg fn.results.toList Q
theorem call (a0x0 : Pt) (n0x0 c0x0 : Nat) (e0x0 : Bool) (a0x1 : Pt) (n0x1 c0x1 : Nat) (e0x1 : Bool) (x1x0 x1x1 : List Nat) (h : AHeap) (Q : QT) (ht :
 letH (h ++ [.cells t_impl_World [.slice a0x0 n0x0 c0x0 e0x0, .slice a0x1 n0x1 c0x1 e0x1] false]) fun h_0 => letH (h_0 ++ [.cells t_impl_Need [.str x1x0, .str x1x1] false]) fun h_1 => xRow (hRow h_1 (.ptr (some (List.length h, 0))) 2) fun cs_2 => xCons cs_2 fun c_3 r_4 => xSl (some c_3) fun a_5 n_6 c_7 e_8 => xCons r_4 fun c_9 r_10 => xSl (some c_9) fun a_11 n_12 c_13 e_14 => xNil r_10 (xRow (hRow h_1 (.ptr (some (List.length h_0, 0))) 2) fun cs_15 => xCons cs_15 fun c_16 r_17 => xStr (some c_16) fun s_18 => xCons r_17 fun c_19 r_20 => xStr (some c_19) fun s_21 => xNil r_20 (SCall pg n_spec_NeedValid [.agg [.slice a_5 n_6 c_7 e_8, .slice a_11 n_12 c_13 e_14], .agg [.str s_18, .str s_21]] h_1 fun v_22 h_23 =>
 xBool (some v_22) fun b_24 => bcase (!b_24) (letH (h_23 ++ [.cells t_int [] false]) fun h_25 => Q (.tup [.slice (some (List.length h_23, 0)) 0 0 true, .bool false]) h_25) (xRow (hRow h_23 (.ptr (some (List.length h, 0))) 2) fun cs_26 => xCons cs_26 fun c_27 r_28 => xSl (some c_27) fun a_29 n_30 c_31 e_32 => xCons r_28 fun c_33 r_34 => xSl (some c_33) fun a_35 n_36 c_37 e_38 => xNil r_34 (xRow (hRow h_23 (.ptr (some (List.length h_0, 0))) 2) fun cs_39 => xCons cs_39 fun c_40 r_41 => xStr (some c_40) fun s_42 => xCons r_41 fun c_43 r_44 => xStr (some c_43) fun s_45 => xNil r_44 (SCall pg n_spec_l4Candidates [.agg [.slice a_29 n_30 c_31 e_32, .slice a_35 n_36 c_37 e_38], .agg [.str s_42, .str s_45]] h_23 fun v_46 h_47 =>
 xSl (some v_46) fun a_48 n_49 c_50 e_51 => Q (.tup [.slice a_48 n_49 c_50 e_51, .bool true]) h_47)))))) : SCall pg n_spec_CandidatesOf [.agg [.slice a0x0 n0x0 c0x0 e0x0, .slice a0x1 n0x1 c0x1 e0x1], .agg [.str x1x0, .str x1x1]] h Q :=
  SCall.of_body kp (c := cod fn) (fn := fn) Go.Proofs.Tryz.func20 (by kernel_rfl) (by kernel_rfl) (Nat.le_of_ble_eq_true (by kernel_rfl))
    (@cast _ (den pg fn.ntmps kp (cod fn) (Env.args 0 [.agg [.slice a0x0 n0x0 c0x0 e0x0, .slice a0x1 n0x1 c0x1 e0x1], .agg [.str x1x0, .str x1x1]]) h (KR Q)) (by kernel_rfl) ht)
end F_spec_CandidatesOf
end Go.Sim

/- Printed by wip/tool: what the functions' bodies do, in the words of 'den'. -/
set_option maxRecDepth 100000
set_option linter.unusedVariables false
namespace Go.Sim
open Go Go.RowKit
/-! Function loop.example/instancesearch/impl.special -/
namespace F_impl_special
noncomputable abbrev fn : Func := Go.Proofs.Tryz.f40
def kp : Keeps := []
noncomputable def C (p : List Nat) : Code := (cod fn).sub p
def KR (Q : QT) : KT := retA pg fn.results.toList Q
theorem call (x0x0 x0x1 : List Nat) (a0x2 : Pt) (n0x2 c0x2 : Nat) (e0x2 : Bool) (x1x0 x1x1 : List Nat) (a1x2 : Pt) (n1x2 c1x2 : Nat) (e1x2 : Bool) (h : AHeap) (Q : QT) (ht :
 letH (h ++ [.cells t_impl_Instance [.str x0x0, .str x0x1, .slice a0x2 n0x2 c0x2 e0x2] false]) fun h_0 => letH (h_0 ++ [.cells t_impl_Instance [.str x1x0, .str x1x1, .slice a1x2 n1x2 c1x2 e1x2] false]) fun h_1 => xStr (hCell h_1 (.ptr (some (List.length h, 0 + 0 + 0)))) fun s_2 => xStr (hCell h_1 (.ptr (some (List.length h_0, 0 + 0 + 0)))) fun s_3 => bcase (decide (s_2 = s_3)) (xStr (hCell h_1 (.ptr (some (List.length h_0, 0 + 0 + 1)))) fun s_4 => xStr (hCell h_1 (.ptr (some (List.length h, 0 + 0 + 1)))) fun s_5 => SCall pg n_impl_IsInstance [.str s_4, .str s_5] h_1 fun v_6 h_7 =>
 xBool (some v_6) fun b_8 => Q (.bool b_8) h_7) (Q (.bool false) h_1)) : SCall pg n_impl_special [.agg [.str x0x0, .str x0x1, .slice a0x2 n0x2 c0x2 e0x2], .agg [.str x1x0, .str x1x1, .slice a1x2 n1x2 c1x2 e1x2]] h Q :=
  SCall.of_body kp (c := cod fn) (fn := fn) Go.Proofs.Tryz.func40 (by kernel_rfl) (by kernel_rfl) (Nat.le_of_ble_eq_true (by kernel_rfl))
    (@cast _ (den pg fn.ntmps kp (cod fn) (Env.args 0 [.agg [.str x0x0, .str x0x1, .slice a0x2 n0x2 c0x2 e0x2], .agg [.str x1x0, .str x1x1, .slice a1x2 n1x2 c1x2 e1x2]]) h (KR Q)) (by kernel_rfl) ht)
end F_impl_special
/-! Function loop.example/instancesearch/impl.IsSpecial -/
namespace F_impl_IsSpecial
noncomputable abbrev fn : Func := Go.Proofs.Tryz.f11
def kp : Keeps := [(2000002, [6])]
noncomputable def C (p : List Nat) : Code := (cod fn).sub p
def KR (Q : QT) : KT := retA pg fn.results.toList Q
theorem call (a0x0 : Pt) (n0x0 c0x0 : Nat) (e0x0 : Bool) (a0x1 : Pt) (n0x1 c0x1 : Nat) (e0x1 : Bool) (x1 x2 : Int) (h : AHeap) (Q : QT) (ht :
 letH (h ++ [.cells t_impl_World [.slice a0x0 n0x0 c0x0 e0x0, .slice a0x1 n0x1 c0x1 e0x1] false]) fun h_0 => xSl (hCell h_0 (.ptr (some (List.length h, 0 + 1)))) fun a_1 n_2 c_3 e_4 => xRow (hRow h_0 (.ptr (some (List.length h, 0))) 2) fun cs_5 => xCons cs_5 fun c_6 r_7 => xSl (some c_6) fun a_8 n_9 c_10 e_11 => xCons r_7 fun c_12 r_13 => xSl (some c_12) fun a_14 n_15 c_16 e_17 => xNil r_13 (SCall pg n_impl_WorldValid [.agg [.slice a_8 n_9 c_10 e_11, .slice a_14 n_15 c_16 e_17]] h_0 fun v_18 h_19 =>
 xBool (some v_18) fun b_20 => bcase b_20 (bcase (decide ((x1 : Int) ≥ 0)) (bcase (decide ((x1 : Int) < (((n_2 : Nat) : Int)))) (bcase (decide ((x2 : Int) ≥ 0)) (bcase (decide ((x2 : Int) < (((n_2 : Nat) : Int)))) (xSl (hCell h_19 (.ptr (some (List.length h, 0 + 1)))) fun a_21 n_22 c_23 e_24 => (0 ≤ (x1 : Int) ∧ (x1 : Int) < (n_22 : Nat)) ∧ (xSome a_21 fun i_25 o_26 => xRow (hRow h_19 (.ptr (some (i_25, o_26 + (Int.toNat x1) * 3))) 3) fun cs_27 => xCons cs_27 fun c_28 r_29 => xStr (some c_28) fun s_30 => xCons r_29 fun c_31 r_32 => xStr (some c_31) fun s_33 => xCons r_32 fun c_34 r_35 => xSl (some c_34) fun a_36 n_37 c_38 e_39 => xNil r_35 (xSl (hCell h_19 (.ptr (some (List.length h, 0 + 1)))) fun a_40 n_41 c_42 e_43 => (hRow h_19 (.ptr (some (i_25, o_26 + (Int.toNat x1) * 3))) 3 = hRow h_19 (.ptr (some (i_25, o_26 + (Int.toNat x1) * 3))) 3) ∧ (hCell h_19 (.ptr (some (List.length h, 0 + 1))) = hCell h_19 (.ptr (some (List.length h, 0 + 1)))) ∧ (0 ≤ (x2 : Int) ∧ (x2 : Int) < (n_41 : Nat)) ∧ (xSome a_40 fun i_44 o_45 => xRow (hRow h_19 (.ptr (some (i_44, o_45 + (Int.toNat x2) * 3))) 3) fun cs_46 => xCons cs_46 fun c_47 r_48 => xStr (some c_47) fun s_49 => xCons r_48 fun c_50 r_51 => xStr (some c_50) fun s_52 => xCons r_51 fun c_53 r_54 => xSl (some c_53) fun a_55 n_56 c_57 e_58 => xNil r_54 ((hRow h_19 (.ptr (some (i_25, o_26 + (Int.toNat x1) * 3))) 3 = hRow h_19 (.ptr (some (i_25, o_26 + (Int.toNat x1) * 3))) 3) ∧ (hCell h_19 (.ptr (some (List.length h, 0 + 1))) = hCell h_19 (.ptr (some (List.length h, 0 + 1)))) ∧ SCall pg n_impl_special [.agg [.str s_30, .str s_33, .slice a_36 n_37 c_38 e_39], .agg [.str s_49, .str s_52, .slice a_55 n_56 c_57 e_58]] h_19 fun v_59 h_60 =>
 xBool (some v_59) fun b_61 => (hCell h_60 (.ptr (some (List.length h, 0 + 1))) = hCell h_19 (.ptr (some (List.length h, 0 + 1)))) ∧ Q (.bool b_61) h_60))))) ((hRow h_19 (.tup []) 3 = hRow h_19 (.tup []) 3) ∧ (hCell h_19 (.tup []) = hCell h_19 (.tup [])) ∧ (hRow h_19 (.tup []) 3 = hRow h_19 (.tup []) 3) ∧ (hCell h_19 (.tup []) = hCell h_19 (.tup [])) ∧ (hCell h_19 (.tup []) = hCell h_19 (.tup [])) ∧ Q (.bool false) h_19)) ((hRow h_19 (.tup []) 3 = hRow h_19 (.tup []) 3) ∧ (hCell h_19 (.tup []) = hCell h_19 (.tup [])) ∧ (hRow h_19 (.tup []) 3 = hRow h_19 (.tup []) 3) ∧ (hCell h_19 (.tup []) = hCell h_19 (.tup [])) ∧ (hCell h_19 (.tup []) = hCell h_19 (.tup [])) ∧ Q (.bool false) h_19)) ((hRow h_19 (.tup []) 3 = hRow h_19 (.tup []) 3) ∧ (hCell h_19 (.tup []) = hCell h_19 (.tup [])) ∧ (hRow h_19 (.tup []) 3 = hRow h_19 (.tup []) 3) ∧ (hCell h_19 (.tup []) = hCell h_19 (.tup [])) ∧ (hCell h_19 (.tup []) = hCell h_19 (.tup [])) ∧ Q (.bool false) h_19)) ((hRow h_19 (.tup []) 3 = hRow h_19 (.tup []) 3) ∧ (hCell h_19 (.tup []) = hCell h_19 (.tup [])) ∧ (hRow h_19 (.tup []) 3 = hRow h_19 (.tup []) 3) ∧ (hCell h_19 (.tup []) = hCell h_19 (.tup [])) ∧ (hCell h_19 (.tup []) = hCell h_19 (.tup [])) ∧ Q (.bool false) h_19)) ((hRow h_19 (.tup []) 3 = hRow h_19 (.tup []) 3) ∧ (hCell h_19 (.tup []) = hCell h_19 (.tup [])) ∧ (hRow h_19 (.tup []) 3 = hRow h_19 (.tup []) 3) ∧ (hCell h_19 (.tup []) = hCell h_19 (.tup [])) ∧ (hCell h_19 (.tup []) = hCell h_19 (.tup [])) ∧ Q (.bool false) h_19))) : SCall pg n_impl_IsSpecial [.agg [.slice a0x0 n0x0 c0x0 e0x0, .slice a0x1 n0x1 c0x1 e0x1], .int .i64 x1, .int .i64 x2] h Q :=
  SCall.of_body kp (c := cod fn) (fn := fn) Go.Proofs.Tryz.func11 (by kernel_rfl) (by kernel_rfl) (Nat.le_of_ble_eq_true (by kernel_rfl))
    (@cast _ (den pg fn.ntmps kp (cod fn) (Env.args 0 [.agg [.slice a0x0 n0x0 c0x0 e0x0, .slice a0x1 n0x1 c0x1 e0x1], .int .i64 x1, .int .i64 x2]) h (KR Q)) (by kernel_rfl) ht)
end F_impl_IsSpecial
/-! Function loop.example/instancesearch/spec.IsSpecial -/
namespace F_spec_IsSpecial
noncomputable abbrev fn : Func := Go.Proofs.Tryz.f9
def kp : Keeps := [(4000003, [3, 1, 2]), (2000003, [6])]
noncomputable def C (p : List Nat) : Code := (cod fn).sub p
def KR (Q : QT) : KT := retA pg fn.results.toList Q
def J3 (Q : QT) (i3 o3 : Nat) (x1 x2 : Int) (h : AHeap) : Prop := Den pg fn.ntmps (C [1, 1]) [(3, .ptr (some (i3, o3))), (1, .int .i64 x1), (2, .int .i64 x2)] h (KR Q)
theorem J3i (Q : QT) (i3 o3 : Nat) (x1 x2 : Int) (h : AHeap) (ht :
 xSl (hCell h (.ptr (some (i3, o3 + 1)))) fun a_31 n_32 c_33 e_34 => (0 ≤ (x1 : Int) ∧ (x1 : Int) < (n_32 : Nat)) ∧ (xSome a_31 fun i_35 o_36 => xStr (hCell h (.ptr (some (i_35, o_36 + (Int.toNat x1) * 3 + 0 + 0)))) fun s_37 => xSl (hCell h (.ptr (some (i3, o3 + 1)))) fun a_38 n_39 c_40 e_41 => (hCell h (.ptr (some (i_35, o_36 + (Int.toNat x1) * 3 + 0 + 0))) = hCell h (.ptr (some (i_35, o_36 + (Int.toNat x1) * 3 + 0 + 0)))) ∧ (hCell h (.ptr (some (i3, o3 + 1))) = hCell h (.ptr (some (i3, o3 + 1)))) ∧ (0 ≤ (x2 : Int) ∧ (x2 : Int) < (n_39 : Nat)) ∧ (xSome a_38 fun i_42 o_43 => xStr (hCell h (.ptr (some (i_42, o_43 + (Int.toNat x2) * 3 + 0 + 0)))) fun s_44 => (hCell h (.ptr (some (i_35, o_36 + (Int.toNat x1) * 3 + 0 + 0))) = hCell h (.ptr (some (i_35, o_36 + (Int.toNat x1) * 3 + 0 + 0)))) ∧ (hCell h (.ptr (some (i3, o3 + 1))) = hCell h (.ptr (some (i3, o3 + 1)))) ∧ bcase (decide (s_37 = s_44)) (xSl (hCell h (.ptr (some (i3, o3 + 1)))) fun a_45 n_46 c_47 e_48 => (0 ≤ (x2 : Int) ∧ (x2 : Int) < (n_46 : Nat)) ∧ (xSome a_45 fun i_49 o_50 => xStr (hCell h (.ptr (some (i_49, o_50 + (Int.toNat x2) * 3 + 0 + 1)))) fun s_51 => xSl (hCell h (.ptr (some (i3, o3 + 1)))) fun a_52 n_53 c_54 e_55 => (hCell h (.ptr (some (i_49, o_50 + (Int.toNat x2) * 3 + 0 + 1))) = hCell h (.ptr (some (i_49, o_50 + (Int.toNat x2) * 3 + 0 + 1)))) ∧ (hCell h (.ptr (some (i3, o3 + 1))) = hCell h (.ptr (some (i3, o3 + 1)))) ∧ (hCell h (.ptr (some (i_35, o_36 + (Int.toNat x1) * 3 + 0 + 0))) = hCell h (.ptr (some (i_35, o_36 + (Int.toNat x1) * 3 + 0 + 0)))) ∧ (hCell h (.ptr (some (i3, o3 + 1))) = hCell h (.ptr (some (i3, o3 + 1)))) ∧ (0 ≤ (x1 : Int) ∧ (x1 : Int) < (n_53 : Nat)) ∧ (xSome a_52 fun i_56 o_57 => xStr (hCell h (.ptr (some (i_56, o_57 + (Int.toNat x1) * 3 + 0 + 1)))) fun s_58 => (hCell h (.ptr (some (i_49, o_50 + (Int.toNat x2) * 3 + 0 + 1))) = hCell h (.ptr (some (i_49, o_50 + (Int.toNat x2) * 3 + 0 + 1)))) ∧ (hCell h (.ptr (some (i3, o3 + 1))) = hCell h (.ptr (some (i3, o3 + 1)))) ∧ (hCell h (.ptr (some (i_35, o_36 + (Int.toNat x1) * 3 + 0 + 0))) = hCell h (.ptr (some (i_35, o_36 + (Int.toNat x1) * 3 + 0 + 0)))) ∧ (hCell h (.ptr (some (i3, o3 + 1))) = hCell h (.ptr (some (i3, o3 + 1)))) ∧ SCall pg n_spec_IsInstance [.str s_51, .str s_58] h fun v_59 h_60 =>
 xBool (some v_59) fun b_61 => (hCell h_60 (.ptr (some (i3, o3 + 1))) = hCell h (.ptr (some (i3, o3 + 1)))) ∧ (hCell h_60 (.ptr (some (i_35, o_36 + (Int.toNat x1) * 3 + 0 + 0))) = hCell h (.ptr (some (i_35, o_36 + (Int.toNat x1) * 3 + 0 + 0)))) ∧ (hCell h_60 (.ptr (some (i3, o3 + 1))) = hCell h (.ptr (some (i3, o3 + 1)))) ∧ Q (.bool b_61) h_60))) ((hCell h (.tup []) = hCell h (.tup [])) ∧ (hCell h (.tup []) = hCell h (.tup [])) ∧ (hCell h (.ptr (some (i_35, o_36 + (Int.toNat x1) * 3 + 0 + 0))) = hCell h (.ptr (some (i_35, o_36 + (Int.toNat x1) * 3 + 0 + 0)))) ∧ (hCell h (.ptr (some (i3, o3 + 1))) = hCell h (.ptr (some (i3, o3 + 1)))) ∧ (hCell h (.tup []) = hCell h (.tup [])) ∧ (hCell h (.tup []) = hCell h (.tup [])) ∧ (hCell h (.ptr (some (i_35, o_36 + (Int.toNat x1) * 3 + 0 + 0))) = hCell h (.ptr (some (i_35, o_36 + (Int.toNat x1) * 3 + 0 + 0)))) ∧ (hCell h (.ptr (some (i3, o3 + 1))) = hCell h (.ptr (some (i3, o3 + 1)))) ∧ (hCell h (.tup []) = hCell h (.tup [])) ∧ (hCell h (.ptr (some (i_35, o_36 + (Int.toNat x1) * 3 + 0 + 0))) = hCell h (.ptr (some (i_35, o_36 + (Int.toNat x1) * 3 + 0 + 0)))) ∧ (hCell h (.ptr (some (i3, o3 + 1))) = hCell h (.ptr (some (i3, o3 + 1)))) ∧ Q (.bool false) h)))) : J3 Q i3 o3 x1 x2 h :=
  den_Den (kp := kp) (@cast _ (den pg fn.ntmps kp (C [1, 1]) [(3, .ptr (some (i3, o3))), (1, .int .i64 x1), (2, .int .i64 x2)] h (KR Q)) (by kernel_rfl) ht)
theorem call (a0x0 : Pt) (n0x0 c0x0 : Nat) (e0x0 : Bool) (a0x1 : Pt) (n0x1 c0x1 : Nat) (e0x1 : Bool) (x1 x2 : Int) (h : AHeap) (Q : QT) (ht :
 letH (h ++ [.cells t_impl_World [.slice a0x0 n0x0 c0x0 e0x0, .slice a0x1 n0x1 c0x1 e0x1] false]) fun h_0 => xRow (hRow h_0 (.ptr (some (List.length h, 0))) 2) fun cs_1 => xCons cs_1 fun c_2 r_3 => xSl (some c_2) fun a_4 n_5 c_6 e_7 => xCons r_3 fun c_8 r_9 => xSl (some c_8) fun a_10 n_11 c_12 e_13 => xNil r_9 (SCall pg n_spec_WorldValid [.agg [.slice a_4 n_5 c_6 e_7, .slice a_10 n_11 c_12 e_13]] h_0 fun v_14 h_15 =>
 xBool (some v_14) fun b_16 => bcase (!b_16) (Q (.bool false) h_15) (xSl (hCell h_15 (.ptr (some (List.length h, 0 + 1)))) fun a_17 n_18 c_19 e_20 => SCall pg n_spec_l1In [.int .i64 x1, .int .i64 0, .int .i64 (IntKind.wrap .i64 ((((n_18 : Nat) : Int)) - 1))] h_15 fun v_21 h_22 =>
 xBool (some v_21) fun b_23 => bcase (!b_23) (Q (.bool false) h_22) (xSl (hCell h_22 (.ptr (some (List.length h, 0 + 1)))) fun a_24 n_25 c_26 e_27 => SCall pg n_spec_l1In [.int .i64 x2, .int .i64 0, .int .i64 (IntKind.wrap .i64 ((((n_25 : Nat) : Int)) - 1))] h_22 fun v_28 h_29 =>
 xBool (some v_28) fun b_30 => bcase (!b_30) (Q (.bool false) h_29) (J3 Q (List.length h) 0 x1 x2 h_29))))) : SCall pg n_spec_IsSpecial [.agg [.slice a0x0 n0x0 c0x0 e0x0, .slice a0x1 n0x1 c0x1 e0x1], .int .i64 x1, .int .i64 x2] h Q :=
  SCall.of_body kp (c := cod fn) (fn := fn) Go.Proofs.Tryz.func9 (by kernel_rfl) (by kernel_rfl) (Nat.le_of_ble_eq_true (by kernel_rfl))
    (@cast _ (den pg fn.ntmps kp (cod fn) (Env.args 0 [.agg [.slice a0x0 n0x0 c0x0 e0x0, .slice a0x1 n0x1 c0x1 e0x1], .int .i64 x1, .int .i64 x2]) h (KR Q)) (by kernel_rfl) ht)
end F_spec_IsSpecial
end Go.Sim

/- Printed by wip/tool: what the functions' bodies do, in the words of 'den'. -/
set_option maxRecDepth 100000
set_option linter.unusedVariables false
namespace Go.Sim
open Go Go.RowKit
/-! Function loop.example/instancesearch/spec.l2Length -/
namespace F_spec_l2Length
noncomputable abbrev fn : Func := Go.Proofs.Tryz.f98
def kp : Keeps := [(3000003, [1, 3]), (1000003, [1, 3, 7, 8, 9]), (4000009, [3])]
noncomputable def C (p : List Nat) : Code := (cod fn).sub p
def KR (Q : QT) : KT := retA pg fn.results.toList Q
abbrev T3 := Nat → Nat → Int → Pt → Nat → Nat → Bool → Int → Int → AHeap → Prop
def E3 (R3 : T3) (env : Env) (h : AHeap) : Prop := eVal 1 env fun v env => xPtr (some v) fun a => xSome a fun i1 o1 => eVal 3 env fun v env => eInt .i64 v fun x3 => eVal 7 env fun v env => xSl (some v) fun a7 n7 c7 e7 => eVal 8 env fun v env => eInt .i64 v fun x8 => eVal 9 env fun v env => eInt .i64 v fun x9 => eNil env (R3 i1 o1 x3 a7 n7 c7 e7 x8 x9 h)
theorem E3elim {R3 : T3} {env : Env} {h : AHeap} (hi : E3 R3 env h) : ∃ i1, ∃ o1, ∃ x3, ∃ a7, ∃ n7, ∃ c7, ∃ e7, ∃ x8, ∃ x9, env = [(1, .ptr (some (i1, o1))), (3, .int .i64 x3), (7, .slice a7 n7 c7 e7), (8, .int .i64 x8), (9, .int .i64 x9)] ∧ R3 i1 o1 x3 a7 n7 c7 e7 x8 x9 h := by
  unfold E3 at hi
  have hi0 := hi
  clear hi
  obtain ⟨v, env, rfl, hi1⟩ := eVal_elim hi0
  obtain ⟨a, rfl, hi2⟩ := xPtr_elim hi1
  obtain ⟨i1, o1, rfl, hi3⟩ := xSome_elim hi2
  obtain ⟨v, env, rfl, hi4⟩ := eVal_elim hi3
  obtain ⟨x3, rfl, hi5⟩ := eInt_elim hi4
  obtain ⟨v, env, rfl, hi6⟩ := eVal_elim hi5
  obtain ⟨a7, n7, c7, e7, rfl, hi7⟩ := xSl_elim hi6
  obtain ⟨v, env, rfl, hi8⟩ := eVal_elim hi7
  obtain ⟨x8, rfl, hi9⟩ := eInt_elim hi8
  obtain ⟨v, env, rfl, hi10⟩ := eVal_elim hi9
  obtain ⟨x9, rfl, hi11⟩ := eInt_elim hi10
  obtain ⟨rfl, hi12⟩ := eNil_elim hi11
  have hi := hi12
  exact ⟨i1, o1, x3, a7, n7, c7, e7, x8, x9, rfl, hi⟩
def K0 (Q : QT) : KT := andThen (fun env' h' => (match kp.find 4000007 with | some ks => Den pg fn.ntmps (C [1, 1, 1]) (env'.keep ks) h' (KR Q) | none => den pg fn.ntmps kp (C [1, 1, 1]) env' h' (KR Q))) (KR Q)
def K1 (Q : QT) : KT := onExit 0 (K0 Q)
def K2 (Q : QT) : KT := left kp 3 (K1 Q)
def K3 (Q : QT) (R3 : T3) : KT := rnd ((kp.find 1000003).getD []) (E3 R3) (K2 Q)
def L3 (Q : QT) (i1 o1 : Nat) (x3 : Int) (a7 : Pt) (n7 c7 : Nat) (e7 : Bool) (x8 x9 : Int) (h : AHeap) : Prop := Loop (Den pg fn.ntmps (C [1, 1, 0, 1, 0, 0])) ((kp.find 1000003).getD []) (K2 Q) [(1, .ptr (some (i1, o1))), (3, .int .i64 x3), (7, .slice a7 n7 c7 e7), (8, .int .i64 x8), (9, .int .i64 x9)] h
def A3x0 (Q : QT) (i1 o1 : Nat) (x3 : Int) (h : AHeap) : Prop := At (K1 Q) (.exit 0) [(1, .ptr (some (i1, o1))), (3, .int .i64 x3)] h
def J9 (Q : QT) (x3 : Int) (h : AHeap) : Prop := Den pg fn.ntmps (C [1, 1, 1, 1]) [(3, .int .i64 x3)] h (KR Q)
def L3t (Q : QT) (R3 : T3) (i1 o1 : Nat) (x3 : Int) (a7 : Pt) (n7 c7 : Nat) (e7 : Bool) (x8 x9 : Int) (h : AHeap) : Prop :=
 bcase (decide ((x9 : Int) < x8)) ((0 ≤ (x9 : Int) ∧ (x9 : Int) < (n7 : Nat)) ∧ (xSome a7 fun i_5 o_6 => xRow (hRow h (.ptr (some (i_5, o_6 + (Int.toNat x9) * 2))) 2) fun cs_7 => xCons cs_7 fun c_8 r_9 => xInt .u8 (some c_8) fun x_10 => xCons r_9 fun c_11 r_12 => xSl (some c_11) fun a_13 n_14 c_15 e_16 => xNil r_12 (letH (h ++ [.cells t_spec_l1Node [.int .u8 0, .slice none 0 0 true] false]) fun h_17 => xHeap (hStore h_17 (.ptr (some (List.length h, 0))) [.int .u8 x_10, .slice a_13 n_14 c_15 e_16]) fun h_18 => xRow (hRow h_18 (.ptr (some (List.length h, 0))) 2) fun cs_19 => xCons cs_19 fun c_20 r_21 => xInt .u8 (some c_20) fun x_22 => xCons r_21 fun c_23 r_24 => xSl (some c_23) fun a_25 n_26 c_27 e_28 => xNil r_24 (SCall pg n_spec_l2Length [.agg [.int .u8 x_22, .slice a_25 n_26 c_27 e_28]] h_18 fun v_29 h_30 =>
 xInt .i64 (some v_29) fun x_31 => R3 i1 o1 (IntKind.wrap .i64 ((IntKind.wrap .i64 (x3 + 1)) + x_31)) a7 n7 c7 e7 x8 (IntKind.wrap .i64 (x9 + 1)) h_30)))) (A3x0 Q i1 o1 x3 h)
theorem L3den (Q : QT) (R3 : T3) (i1 o1 : Nat) (x3 : Int) (a7 : Pt) (n7 c7 : Nat) (e7 : Bool) (x8 x9 : Int) (h : AHeap) (ht : L3t Q R3 i1 o1 x3 a7 n7 c7 e7 x8 x9 h) : Den pg fn.ntmps (C [1, 1, 0, 1, 0, 0]) [(1, .ptr (some (i1, o1))), (3, .int .i64 x3), (7, .slice a7 n7 c7 e7), (8, .int .i64 x8), (9, .int .i64 x9)] h (K3 Q R3) :=
  den_Den (kp := kp) (@cast _ (den pg fn.ntmps kp (C [1, 1, 0, 1, 0, 0]) [(1, .ptr (some (i1, o1))), (3, .int .i64 x3), (7, .slice a7 n7 c7 e7), (8, .int .i64 x8), (9, .int .i64 x9)] h (K3 Q R3)) (by kernel_rfl) ht)
theorem L3ind (Q : QT) (i1 o1 : Nat) (a7 : Pt) (n7 c7 : Nat) (e7 : Bool) (x8 : Int) {G : Type} (J : G → Int → Int → AHeap → Prop) (m : G → Nat)
 (hr : ∀ (g : G) (x3 x9 : Int) (h : AHeap), J g x3 x9 h → ∀ (R3 : T3), (∀ g' (x3 x9 : Int) (h : AHeap), m g' < m g → J g' x3 x9 h → R3 i1 o1 x3 a7 n7 c7 e7 x8 x9 h) → L3t Q R3 i1 o1 x3 a7 n7 c7 e7 x8 x9 h)
 (g : G) (x3 x9 : Int) (h : AHeap) (hj : J g x3 x9 h) : L3 Q i1 o1 x3 a7 n7 c7 e7 x8 x9 h := by
  refine Loop.inv2 (fun g => E3 fun i1' o1' x3 a7' n7' c7' e7' x8' x9 h => i1 = i1' ∧ o1 = o1' ∧ a7 = a7' ∧ n7 = n7' ∧ c7 = c7' ∧ e7 = e7' ∧ x8 = x8' ∧ J g x3 x9 h) (fun g => E3 fun i1' o1' x3 a7' n7' c7' e7' x8' x9 h => i1 = i1' ∧ o1 = o1' ∧ a7 = a7' ∧ n7 = n7' ∧ c7 = c7' ∧ e7 = e7' ∧ x8 = x8' ∧ ∃ g', m g' < m g ∧ J g' x3 x9 h) m ?_ ?_ g ⟨rfl, rfl, rfl, rfl, rfl, rfl, rfl, hj⟩
  · intro g env h hi
    obtain ⟨i1', o1', x3, a7', n7', c7', e7', x8', x9, rfl, rfl, rfl, rfl, rfl, rfl, rfl, rfl, hj⟩ := E3elim hi
    exact L3den Q (fun i1' o1' x3 a7' n7' c7' e7' x8' x9 h => i1 = i1' ∧ o1 = o1' ∧ a7 = a7' ∧ n7 = n7' ∧ c7 = c7' ∧ e7 = e7' ∧ x8 = x8' ∧ ∃ g', m g' < m g ∧ J g' x3 x9 h) i1 o1 x3 a7 n7 c7 e7 x8 x9 h (hr g x3 x9 h hj (fun i1' o1' x3 a7' n7' c7' e7' x8' x9 h => i1 = i1' ∧ o1 = o1' ∧ a7 = a7' ∧ n7 = n7' ∧ c7 = c7' ∧ e7 = e7' ∧ x8 = x8' ∧ ∃ g', m g' < m g ∧ J g' x3 x9 h) fun g' x3 x9 h hlt hj => ⟨rfl, rfl, rfl, rfl, rfl, rfl, rfl, g', hlt, hj⟩)
  · intro g env h hi
    obtain ⟨i1', o1', x3, a7', n7', c7', e7', x8', x9, rfl, rfl, rfl, rfl, rfl, rfl, rfl, rfl, g', hlt, hj⟩ := E3elim hi
    exact ⟨g', hlt, rfl, rfl, rfl, rfl, rfl, rfl, rfl, hj⟩
theorem A3x0i (Q : QT) (i1 o1 : Nat) (x3 : Int) (h : AHeap) (ht :
 xSl (hCell h (.ptr (some (i1, o1 + 1)))) fun a_32 n_33 c_34 e_35 => bcase (decide (((((n_33 : Nat) : Int)) : Int) > 0)) (J9 Q (IntKind.wrap .i64 (x3 + 1)) h) (J9 Q x3 h)) : A3x0 Q i1 o1 x3 h :=
  At.mk (@cast _ ((K1 Q) (.exit 0) [(1, .ptr (some (i1, o1))), (3, .int .i64 x3)] h) (by kernel_rfl) ht)
theorem J9i (Q : QT) (x3 : Int) (h : AHeap) (ht :
 Q (.int .i64 x3) h) : J9 Q x3 h :=
  den_Den (kp := kp) (@cast _ (den pg fn.ntmps kp (C [1, 1, 1, 1]) [(3, .int .i64 x3)] h (KR Q)) (by kernel_rfl) ht)
theorem call (x0x0 : Int) (a0x1 : Pt) (n0x1 c0x1 : Nat) (e0x1 : Bool) (h : AHeap) (Q : QT) (ht :
 letH (h ++ [.cells t_spec_l1Node [.int .u8 x0x0, .slice a0x1 n0x1 c0x1 e0x1] false]) fun h_0 => xSl (hCell h_0 (.ptr (some (List.length h, 0 + 1)))) fun a_1 n_2 c_3 e_4 => L3 Q (List.length h) 0 1 a_1 n_2 c_3 e_4 (((n_2 : Nat) : Int)) 0 h_0) : SCall pg n_spec_l2Length [.agg [.int .u8 x0x0, .slice a0x1 n0x1 c0x1 e0x1]] h Q :=
  SCall.of_body kp (c := cod fn) (fn := fn) Go.Proofs.Tryz.func98 (by kernel_rfl) (by kernel_rfl) (Nat.le_of_ble_eq_true (by kernel_rfl))
    (@cast _ (den pg fn.ntmps kp (cod fn) (Env.args 0 [.agg [.int .u8 x0x0, .slice a0x1 n0x1 c0x1 e0x1]]) h (KR Q)) (by kernel_rfl) ht)
end F_spec_l2Length
/-! Function loop.example/instancesearch/spec.l2Told -/
namespace F_spec_l2Told
noncomputable abbrev fn : Func := Go.Proofs.Tryz.f117
def kp : Keeps := [(3000003, [4, 2, 3]), (1000003, [4, 8, 10]), (2000004, [6, 5, 10, 8, 4]), (4000006, [6, 4, 5, 10, 8]), (2000008, [10, 8, 4]), (4000009, [10, 8, 4])]
noncomputable def C (p : List Nat) : Code := (cod fn).sub p
def KR (Q : QT) : KT := retA pg fn.results.toList Q
abbrev T3 := Pt → Nat → Nat → Bool → Pt → Int → AHeap → Prop
def E3 (R3 : T3) (env : Env) (h : AHeap) : Prop := eVal 4 env fun v env => xSl (some v) fun a4 n4 c4 e4 => eVal 8 env fun v env => xPtr (some v) fun a8 => eVal 10 env fun v env => eInt .i64 v fun x10 => eNil env (R3 a4 n4 c4 e4 a8 x10 h)
theorem E3elim {R3 : T3} {env : Env} {h : AHeap} (hi : E3 R3 env h) : ∃ a4, ∃ n4, ∃ c4, ∃ e4, ∃ a8, ∃ x10, env = [(4, .slice a4 n4 c4 e4), (8, .ptr a8), (10, .int .i64 x10)] ∧ R3 a4 n4 c4 e4 a8 x10 h := by
  unfold E3 at hi
  have hi0 := hi
  clear hi
  obtain ⟨v, env, rfl, hi1⟩ := eVal_elim hi0
  obtain ⟨a4, n4, c4, e4, rfl, hi2⟩ := xSl_elim hi1
  obtain ⟨v, env, rfl, hi3⟩ := eVal_elim hi2
  obtain ⟨a8, rfl, hi4⟩ := xPtr_elim hi3
  obtain ⟨v, env, rfl, hi5⟩ := eVal_elim hi4
  obtain ⟨x10, rfl, hi6⟩ := eInt_elim hi5
  obtain ⟨rfl, hi7⟩ := eNil_elim hi6
  have hi := hi7
  exact ⟨a4, n4, c4, e4, a8, x10, rfl, hi⟩
def K0 (Q : QT) : KT := andThen (fun env' h' => (match kp.find 4000010 with | some ks => Den pg fn.ntmps (C [1, 1, 1]) (env'.keep ks) h' (KR Q) | none => den pg fn.ntmps kp (C [1, 1, 1]) env' h' (KR Q))) (KR Q)
def K1 (Q : QT) : KT := onExit 0 (K0 Q)
def K2 (Q : QT) : KT := left kp 3 (K1 Q)
def K3 (Q : QT) (R3 : T3) : KT := rnd ((kp.find 1000003).getD []) (E3 R3) (K2 Q)
def K4 (Q : QT) (R3 : T3) : KT := andThen (fun env' h' => (match kp.find 4000009 with | some ks => Den pg fn.ntmps (C [1, 1, 0, 1, 0, 0, 1, 1, 1]) (env'.keep ks) h' (K3 Q R3) | none => den pg fn.ntmps kp (C [1, 1, 0, 1, 0, 0, 1, 1, 1]) env' h' (K3 Q R3))) (K3 Q R3)
def K5 (Q : QT) (R3 : T3) : KT := onExit 1 (K4 Q R3)
def L3 (Q : QT) (a4 : Pt) (n4 c4 : Nat) (e4 : Bool) (a8 : Pt) (x10 : Int) (h : AHeap) : Prop := Loop (Den pg fn.ntmps (C [1, 1, 0, 1, 0, 0])) ((kp.find 1000003).getD []) (K2 Q) [(4, .slice a4 n4 c4 e4), (8, .ptr a8), (10, .int .i64 x10)] h
def J9 (Q : QT) (R3 : T3) (x10 : Int) (a8 a4 : Pt) (n4 c4 : Nat) (e4 : Bool) (h : AHeap) : Prop := Den pg fn.ntmps (C [1, 1, 0, 1, 0, 0, 1, 1, 1]) [(10, .int .i64 x10), (8, .ptr a8), (4, .slice a4 n4 c4 e4)] h (K3 Q R3)
def J6 (Q : QT) (R3 : T3) (i6 o6 : Nat) (a4 : Pt) (n4 c4 : Nat) (e4 : Bool) (x5 x10 : Int) (a8 : Pt) (h : AHeap) : Prop := Den pg fn.ntmps (C [1, 1, 0, 1, 0, 0, 1, 1, 0, 0, 1, 1]) [(6, .ptr (some (i6, o6))), (4, .slice a4 n4 c4 e4), (5, .int .i64 x5), (10, .int .i64 x10), (8, .ptr a8)] h (K5 Q R3)
def A3x0 (Q : QT) (a4 : Pt) (n4 c4 : Nat) (e4 : Bool) (h : AHeap) : Prop := At (K1 Q) (.exit 0) [(4, .slice a4 n4 c4 e4), (2, .undef), (3, .undef)] h
def L3t (Q : QT) (R3 : T3) (a4 : Pt) (n4 c4 : Nat) (e4 : Bool) (a8 : Pt) (x10 : Int) (h : AHeap) : Prop :=
 bcase (decide ((x10 : Int) < 12)) (xSome a8 fun i_3 o_4 => (0 ≤ (x10 : Int) ∧ (x10 : Int) < (12 : Nat)) ∧ (xRow (hRow h (.ptr (some (i_3, o_4 + (Int.toNat x10) * 2))) 2) fun cs_5 => xCons cs_5 fun c_6 r_7 => xInt .u8 (some c_6) fun x_8 => xCons r_7 fun c_9 r_10 => xSl (some c_9) fun a_11 n_12 c_13 e_14 => xNil r_10 (letH (h ++ [.cells t_spec_l1Node [.int .u8 0, .slice none 0 0 true] false]) fun h_15 => (hRow h_15 (.ptr (some (i_3, o_4 + (Int.toNat x10) * 2))) 2 = hRow h (.ptr (some (i_3, o_4 + (Int.toNat x10) * 2))) 2) ∧ xHeap (hStore h_15 (.ptr (some (List.length h, 0))) [.int .u8 x_8, .slice a_11 n_12 c_13 e_14]) fun h_16 => xInt .u8 (hCell h_16 (.ptr (some (List.length h, 0 + 0)))) fun x_17 => bcase ((x_17 : Int) == 0) (J9 Q R3 x10 a8 a4 n4 c4 e4 h_16) (bcase (decide ((x10 : Int) ≥ 6)) (J9 Q R3 x10 a8 a4 n4 c4 e4 h_16) (J6 Q R3 (List.length h) 0 a4 n4 c4 e4 x10 x10 a8 h_16))))) (A3x0 Q a4 n4 c4 e4 h)
theorem L3den (Q : QT) (R3 : T3) (a4 : Pt) (n4 c4 : Nat) (e4 : Bool) (a8 : Pt) (x10 : Int) (h : AHeap) (ht : L3t Q R3 a4 n4 c4 e4 a8 x10 h) : Den pg fn.ntmps (C [1, 1, 0, 1, 0, 0]) [(4, .slice a4 n4 c4 e4), (8, .ptr a8), (10, .int .i64 x10)] h (K3 Q R3) :=
  den_Den (kp := kp) (@cast _ (den pg fn.ntmps kp (C [1, 1, 0, 1, 0, 0]) [(4, .slice a4 n4 c4 e4), (8, .ptr a8), (10, .int .i64 x10)] h (K3 Q R3)) (by kernel_rfl) ht)
theorem L3ind (Q : QT) (a8 : Pt) {G : Type} (J : G → Pt → Nat → Nat → Bool → Int → AHeap → Prop) (m : G → Nat)
 (hr : ∀ (g : G) (a4 : Pt) (n4 c4 : Nat) (e4 : Bool) (x10 : Int) (h : AHeap), J g a4 n4 c4 e4 x10 h → ∀ (R3 : T3), (∀ g' (a4 : Pt) (n4 c4 : Nat) (e4 : Bool) (x10 : Int) (h : AHeap), m g' < m g → J g' a4 n4 c4 e4 x10 h → R3 a4 n4 c4 e4 a8 x10 h) → L3t Q R3 a4 n4 c4 e4 a8 x10 h)
 (g : G) (a4 : Pt) (n4 c4 : Nat) (e4 : Bool) (x10 : Int) (h : AHeap) (hj : J g a4 n4 c4 e4 x10 h) : L3 Q a4 n4 c4 e4 a8 x10 h := by
  refine Loop.inv2 (fun g => E3 fun a4 n4 c4 e4 a8' x10 h => a8 = a8' ∧ J g a4 n4 c4 e4 x10 h) (fun g => E3 fun a4 n4 c4 e4 a8' x10 h => a8 = a8' ∧ ∃ g', m g' < m g ∧ J g' a4 n4 c4 e4 x10 h) m ?_ ?_ g ⟨rfl, hj⟩
  · intro g env h hi
    obtain ⟨a4, n4, c4, e4, a8', x10, rfl, rfl, hj⟩ := E3elim hi
    exact L3den Q (fun a4 n4 c4 e4 a8' x10 h => a8 = a8' ∧ ∃ g', m g' < m g ∧ J g' a4 n4 c4 e4 x10 h) a4 n4 c4 e4 a8 x10 h (hr g a4 n4 c4 e4 x10 h hj (fun a4 n4 c4 e4 a8' x10 h => a8 = a8' ∧ ∃ g', m g' < m g ∧ J g' a4 n4 c4 e4 x10 h) fun g' a4 n4 c4 e4 x10 h hlt hj => ⟨rfl, g', hlt, hj⟩)
  · intro g env h hi
    obtain ⟨a4, n4, c4, e4, a8', x10, rfl, rfl, g', hlt, hj⟩ := E3elim hi
    exact ⟨g', hlt, rfl, hj⟩
theorem J9i (Q : QT) (R3 : T3) (x10 : Int) (a8 a4 : Pt) (n4 c4 : Nat) (e4 : Bool) (h : AHeap) (ht :
 R3 a4 n4 c4 e4 a8 (IntKind.wrap .i64 (x10 + 1)) h) : J9 Q R3 x10 a8 a4 n4 c4 e4 h :=
  den_Den (kp := kp) (@cast _ (den pg fn.ntmps kp (C [1, 1, 0, 1, 0, 0, 1, 1, 1]) [(10, .int .i64 x10), (8, .ptr a8), (4, .slice a4 n4 c4 e4)] h (K3 Q R3)) (by kernel_rfl) ht)
theorem J6i (Q : QT) (R3 : T3) (i6 o6 : Nat) (a4 : Pt) (n4 c4 : Nat) (e4 : Bool) (x5 x10 : Int) (a8 : Pt) (h : AHeap) (ht :
 xRow (hRow h (.ptr (some (i6, o6))) 2) fun cs_18 => xCons cs_18 fun c_19 r_20 => xInt .u8 (some c_19) fun x_21 => xCons r_20 fun c_22 r_23 => xSl (some c_22) fun a_24 n_25 c_26 e_27 => xNil r_23 (SCall pg n_spec_l2Length [.agg [.int .u8 x_21, .slice a_24 n_25 c_26 e_27]] h fun v_28 h_29 =>
 xInt .i64 (some v_28) fun x_30 => bcase (decide ((x_30 : Int) > 60)) (letH (h_29 ++ [.cells t_impl_Binding [] false]) fun h_31 => Q (.tup [.slice (some (List.length h_29, 0)) 0 0 true, .bool false]) h_31) ((0 ≤ (x5 : Int) ∧ (x5 : Int) ≤ IntKind.wrap .i64 (x5 + 1) ∧ (IntKind.wrap .i64 (x5 + 1) : Int) ≤ (List.length ([88, 89, 90, 120, 121, 122, 49, 50, 51, 52, 53, 54]) : Nat)) ∧ (xRow (hRow h_29 (.ptr (some (i6, o6))) 2) fun cs_32 => xCons cs_32 fun c_33 r_34 => xInt .u8 (some c_33) fun x_35 => xCons r_34 fun c_36 r_37 => xSl (some c_36) fun a_38 n_39 c_40 e_41 => xNil r_37 (SCall pg n_spec_l1Text [.agg [.int .u8 x_35, .slice a_38 n_39 c_40 e_41]] h_29 fun v_42 h_43 =>
 xStr (some v_42) fun s_44 => letH (h_43 ++ [.cells t_impl_Binding [.str (sub ([88, 89, 90, 120, 121, 122, 49, 50, 51, 52, 53, 54]) x5 (IntKind.wrap .i64 (x5 + 1))), .str s_44] false]) fun h_45 => appendA pg t_L_impl_Binding h_45 (.slice a4 n4 c4 e4) (.slice (some (List.length h_43, 0)) 1 1 true) fun v_46 h_47 => xSl (some v_46) fun a_48 n_49 c_50 e_51 => J9 Q R3 x10 a8 a_48 n_49 c_50 e_51 h_47))))) : J6 Q R3 i6 o6 a4 n4 c4 e4 x5 x10 a8 h :=
  den_Den (kp := kp) (@cast _ (den pg fn.ntmps kp (C [1, 1, 0, 1, 0, 0, 1, 1, 0, 0, 1, 1]) [(6, .ptr (some (i6, o6))), (4, .slice a4 n4 c4 e4), (5, .int .i64 x5), (10, .int .i64 x10), (8, .ptr a8)] h (K5 Q R3)) (by kernel_rfl) ht)
theorem A3x0i (Q : QT) (a4 : Pt) (n4 c4 : Nat) (e4 : Bool) (h : AHeap) (ht :
 Q (.tup [.slice a4 n4 c4 e4, .bool true]) h) : A3x0 Q a4 n4 c4 e4 h :=
  At.mk (@cast _ ((K1 Q) (.exit 0) [(4, .slice a4 n4 c4 e4), (2, .undef), (3, .undef)] h) (by kernel_rfl) ht)
theorem call (a0 : Pt) (h : AHeap) (Q : QT) (ht :
 letH (h ++ [.cells t_impl_Binding [] false]) fun h_0 => xSome a0 fun i_1 o_2 => L3 Q (some (List.length h, 0)) 0 0 true a0 0 h_0) : SCall pg n_spec_l2Told [.ptr a0] h Q :=
  SCall.of_body kp (c := cod fn) (fn := fn) Go.Proofs.Tryz.func117 (by kernel_rfl) (by kernel_rfl) (Nat.le_of_ble_eq_true (by kernel_rfl))
    (@cast _ (den pg fn.ntmps kp (cod fn) (Env.args 0 [.ptr a0]) h (KR Q)) (by kernel_rfl) ht)
end F_spec_l2Told
/-! Function loop.example/instancesearch/spec.MatchType -/
namespace F_spec_MatchType
noncomputable abbrev fn : Func := Go.Proofs.Tryz.f73
def kp : Keeps := [(4000006, [10])]
noncomputable def C (p : List Nat) : Code := (cod fn).sub p
def KR (Q : QT) : KT := retA pg fn.results.toList Q
def J6 (Q : QT) (i10 o10 : Nat) (h : AHeap) : Prop := Den pg fn.ntmps (C [1, 1, 1, 1, 1]) [(10, .ptr (some (i10, o10)))] h (KR Q)
theorem J6i (Q : QT) (i10 o10 : Nat) (h : AHeap) (ht :
 SCall pg n_spec_l2Told [.ptr (some (i10, o10))] h fun v_67 h_68 =>
 xTup v_67 fun cs_69 => xCons cs_69 fun c_70 r_71 => xSl (some c_70) fun a_72 n_73 c_74 e_75 => xCons r_71 fun c_76 r_77 => xBool (some c_76) fun b_78 => xNil r_77 (Q (.tup [.slice a_72 n_73 c_74 e_75, .bool b_78]) h_68)) : J6 Q i10 o10 h :=
  den_Den (kp := kp) (@cast _ (den pg fn.ntmps kp (C [1, 1, 1, 1, 1]) [(10, .ptr (some (i10, o10)))] h (KR Q)) (by kernel_rfl) ht)
theorem call (x0 x1 : List Nat) (h : AHeap) (Q : QT) (ht :
 SCall pg n_spec_l1Read [.str x0] h fun v_0 h_1 =>
 xTup v_0 fun cs_2 => xCons cs_2 fun c_3 r_4 => xAgg c_3 fun cs_5 => xCons cs_5 fun c_6 r_7 => xInt .u8 (some c_6) fun x_8 => xCons r_7 fun c_9 r_10 => xSl (some c_9) fun a_11 n_12 c_13 e_14 => xNil r_10 (xCons r_4 fun c_15 r_16 => xBool (some c_15) fun b_17 => xNil r_16 (letH (h_1 ++ [.cells t_spec_l1Node [.int .u8 0, .slice none 0 0 true] false]) fun h_18 => xHeap (hStore h_18 (.ptr (some (List.length h_1, 0))) [.int .u8 x_8, .slice a_11 n_12 c_13 e_14]) fun h_19 => SCall pg n_spec_l1Read [.str x1] h_19 fun v_20 h_21 =>
 xTup v_20 fun cs_22 => xCons cs_22 fun c_23 r_24 => xAgg c_23 fun cs_25 => xCons cs_25 fun c_26 r_27 => xInt .u8 (some c_26) fun x_28 => xCons r_27 fun c_29 r_30 => xSl (some c_29) fun a_31 n_32 c_33 e_34 => xNil r_30 (xCons r_24 fun c_35 r_36 => xBool (some c_35) fun b_37 => xNil r_36 (letH (h_21 ++ [.cells t_spec_l1Node [.int .u8 0, .slice none 0 0 true] false]) fun h_38 => xHeap (hStore h_38 (.ptr (some (List.length h_21, 0))) [.int .u8 x_28, .slice a_31 n_32 c_33 e_34]) fun h_39 => letH (h_39 ++ [.cells t_spec_l2Map [.int .u8 0, .slice none 0 0 true, .int .u8 0, .slice none 0 0 true, .int .u8 0, .slice none 0 0 true, .int .u8 0, .slice none 0 0 true, .int .u8 0, .slice none 0 0 true, .int .u8 0, .slice none 0 0 true, .int .u8 0, .slice none 0 0 true, .int .u8 0, .slice none 0 0 true, .int .u8 0, .slice none 0 0 true, .int .u8 0, .slice none 0 0 true, .int .u8 0, .slice none 0 0 true, .int .u8 0, .slice none 0 0 true] false]) fun h_40 => bcase (!b_17) (letH (h_40 ++ [.cells t_impl_Binding [] false]) fun h_41 => Q (.tup [.slice (some (List.length h_40, 0)) 0 0 true, .bool false]) h_41) (bcase (!b_37) (letH (h_40 ++ [.cells t_impl_Binding [] false]) fun h_42 => Q (.tup [.slice (some (List.length h_40, 0)) 0 0 true, .bool false]) h_42) (xRow (hRow h_40 (.ptr (some (List.length h_1, 0))) 2) fun cs_43 => xCons cs_43 fun c_44 r_45 => xInt .u8 (some c_44) fun x_46 => xCons r_45 fun c_47 r_48 => xSl (some c_47) fun a_49 n_50 c_51 e_52 => xNil r_48 (xRow (hRow h_40 (.ptr (some (List.length h_21, 0))) 2) fun cs_53 => xCons cs_53 fun c_54 r_55 => xInt .u8 (some c_54) fun x_56 => xCons r_55 fun c_57 r_58 => xSl (some c_57) fun a_59 n_60 c_61 e_62 => xNil r_58 (SCall pg n_spec_l2Match [.ptr (some (List.length h_39, 0)), .agg [.int .u8 x_46, .slice a_49 n_50 c_51 e_52], .agg [.int .u8 x_56, .slice a_59 n_60 c_61 e_62]] h_40 fun v_63 h_64 =>
 xBool (some v_63) fun b_65 => bcase (!b_65) (letH (h_64 ++ [.cells t_impl_Binding [] false]) fun h_66 => Q (.tup [.slice (some (List.length h_64, 0)) 0 0 true, .bool false]) h_66) (J6 Q (List.length h_39) 0 h_64)))))))))) : SCall pg n_spec_MatchType [.str x0, .str x1] h Q :=
  SCall.of_body kp (c := cod fn) (fn := fn) Go.Proofs.Tryz.func73 (by kernel_rfl) (by kernel_rfl) (Nat.le_of_ble_eq_true (by kernel_rfl))
    (@cast _ (den pg fn.ntmps kp (cod fn) (Env.args 0 [.str x0, .str x1]) h (KR Q)) (by kernel_rfl) ht)
end F_spec_MatchType
/-! Function loop.example/instancesearch/spec.IsInstance -/
namespace F_spec_IsInstance
noncomputable abbrev fn : Func := Go.Proofs.Tryz.f37
def kp : Keeps := []
noncomputable def C (p : List Nat) : Code := (cod fn).sub p
def KR (Q : QT) : KT := retA pg fn.results.toList Q
theorem call (x0 x1 : List Nat) (h : AHeap) (Q : QT) (ht :
 SCall pg n_spec_MatchType [.str x0, .str x1] h fun v_0 h_1 =>
 xTup v_0 fun cs_2 => xCons cs_2 fun c_3 r_4 => xSl (some c_3) fun a_5 n_6 c_7 e_8 => xCons r_4 fun c_9 r_10 => xBool (some c_9) fun b_11 => xNil r_10 (Q (.bool b_11) h_1)) : SCall pg n_spec_IsInstance [.str x0, .str x1] h Q :=
  SCall.of_body kp (c := cod fn) (fn := fn) Go.Proofs.Tryz.func37 (by kernel_rfl) (by kernel_rfl) (Nat.le_of_ble_eq_true (by kernel_rfl))
    (@cast _ (den pg fn.ntmps kp (cod fn) (Env.args 0 [.str x0, .str x1]) h (KR Q)) (by kernel_rfl) ht)
end F_spec_IsInstance
end Go.Sim
