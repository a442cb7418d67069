/- A part of the proof of a statement of this seat: see the text that holds the theorem. No condition. -/
import Derived.Test.YtpbfjfcildpehaaGreatNm
set_option linter.unusedVariables false
set_option linter.unusedSimpArgs false
set_option linter.all false
/- Printed by wip/tool: what the functions' bodies do, in the words of 'den'. -/
set_option maxRecDepth 100000
set_option linter.unusedVariables false
namespace Go.Sim
open Go Go.RowKit
/-! Function loop.example/instancesearch/laws.FnExactReduceNeed -/
namespace F_laws_FnExactReduceNeed
noncomputable abbrev fn : Func := Go.Proofs.Tryz.f5
def kp : Keeps := [(2000008, [2, 3, 6, 7]), (2000010, [9, 6, 10, 7, 8, 2, 3]), (4000013, [8, 2, 9, 6, 10, 7, 3]), (2000013, [56, 8, 9, 6, 10, 7, 2, 3]), (4000019, [9, 2, 3, 6, 7]), (2000027, [14, 6, 15, 7, 9, 12]), (4000030, [9, 12])]
noncomputable def C (p : List Nat) : Code := (cod fn).sub p
def KR (Q : QT) : KT := retA pg fn.results.toList Q
def J13 (Q : QT) (i8 o8 i2 o2 : Nat) (a9 : Pt) (n9 c9 : Nat) (e9 : Bool) (a6 : Pt) (n6 c6 : Nat) (e6 x10 x7 : Bool) (i3 o3 : Nat) (h : AHeap) : Prop := Den pg fn.ntmps (C [1, 1, 1, 1, 1, 1, 1, 1, 1, 1]) [(8, .ptr (some (i8, o8))), (2, .ptr (some (i2, o2))), (9, .slice a9 n9 c9 e9), (6, .slice a6 n6 c6 e6), (10, .bool x10), (7, .bool x7), (3, .ptr (some (i3, o3)))] h (KR Q)
def J19 (Q : QT) (a9 : Pt) (n9 c9 : Nat) (e9 : Bool) (i2 o2 i3 o3 : Nat) (a6 : Pt) (n6 c6 : Nat) (e6 x7 : Bool) (h : AHeap) : Prop := Den pg fn.ntmps (C [1, 1, 1, 1, 1, 1, 1, 1, 1, 1, 1, 1, 1, 1]) [(9, .slice a9 n9 c9 e9), (2, .ptr (some (i2, o2))), (3, .ptr (some (i3, o3))), (6, .slice a6 n6 c6 e6), (7, .bool x7)] h (KR Q)
def J30 (Q : QT) (a9 : Pt) (n9 c9 : Nat) (e9 : Bool) (x12 : Int) (h : AHeap) : Prop := Den pg fn.ntmps (C [1, 1, 1, 1, 1, 1, 1, 1, 1, 1, 1, 1, 1, 1, 1, 1, 1, 1, 1, 1, 1, 1]) [(9, .slice a9 n9 c9 e9), (12, .int .i64 x12)] h (KR Q)
theorem J13i (Q : QT) (i8 o8 i2 o2 : Nat) (a9 : Pt) (n9 c9 : Nat) (e9 : Bool) (a6 : Pt) (n6 c6 : Nat) (e6 x10 x7 : Bool) (i3 o3 : Nat) (h : AHeap) (ht :
 xRow (hRow h (.ptr (some (i8, o8))) 2) fun cs_158 => xCons cs_158 fun c_159 r_160 => xSl (some c_159) fun a_161 n_162 c_163 e_164 => xCons r_160 fun c_165 r_166 => xSl (some c_165) fun a_167 n_168 c_169 e_170 => xNil r_166 (xRow (hRow h (.ptr (some (i2, o2))) 2) fun cs_171 => xCons cs_171 fun c_172 r_173 => xSl (some c_172) fun a_174 n_175 c_176 e_177 => xCons r_173 fun c_178 r_179 => xSl (some c_178) fun a_180 n_181 c_182 e_183 => xNil r_179 ((hRow h (.ptr (some (i8, o8))) 2 = hRow h (.ptr (some (i8, o8))) 2) ∧ SCall pg n_laws_toWorld [.agg [.slice a_174 n_175 c_176 e_177, .slice a_180 n_181 c_182 e_183]] h fun v_184 h_185 =>
 xAgg v_184 fun cs_186 => xCons cs_186 fun c_187 r_188 => xSl (some c_187) fun a_189 n_190 c_191 e_192 => xCons r_188 fun c_193 r_194 => xSl (some c_193) fun a_195 n_196 c_197 e_198 => xNil r_194 ((hRow h_185 (.ptr (some (i8, o8))) 2 = hRow h (.ptr (some (i8, o8))) 2) ∧ SCall pg n_laws_eqWorld [.agg [.slice a_161 n_162 c_163 e_164, .slice a_167 n_168 c_169 e_170], .agg [.slice a_189 n_190 c_191 e_192, .slice a_195 n_196 c_197 e_198]] h_185 fun v_199 h_200 =>
 xBool (some v_199) fun b_201 => bcase (!b_201) (Q (.bool false) h_200) (xRow (hRow h_200 (.ptr (some (i8, o8))) 2) fun cs_202 => xCons cs_202 fun c_203 r_204 => xSl (some c_203) fun a_205 n_206 c_207 e_208 => xCons r_204 fun c_209 r_210 => xSl (some c_209) fun a_211 n_212 c_213 e_214 => xNil r_210 (SCall pg n_laws_markWorld [.agg [.slice a_205 n_206 c_207 e_208, .slice a_211 n_212 c_213 e_214], .int .i64 1] h_200 fun v_215 h_216 =>
 xInt .i64 (some v_215) fun x_217 => bcase (decide ((x_217 : Int) < 0)) (Q (.bool false) h_216) (SCall pg n_laws_eqNeedS [.slice a9 n9 c9 e9, .slice a6 n6 c6 e6] h_216 fun v_218 h_219 =>
 xBool (some v_218) fun b_220 => bcase (!b_220) (Q (.bool false) h_219) (bcase (!(x10 == x7)) (Q (.bool false) h_219) (J19 Q a9 n9 c9 e9 i2 o2 i3 o3 a6 n6 c6 e6 x7 h_219))))))))) : J13 Q i8 o8 i2 o2 a9 n9 c9 e9 a6 n6 c6 e6 x10 x7 i3 o3 h :=
  den_Den (kp := kp) (@cast _ (den pg fn.ntmps kp (C [1, 1, 1, 1, 1, 1, 1, 1, 1, 1]) [(8, .ptr (some (i8, o8))), (2, .ptr (some (i2, o2))), (9, .slice a9 n9 c9 e9), (6, .slice a6 n6 c6 e6), (10, .bool x10), (7, .bool x7), (3, .ptr (some (i3, o3)))] h (KR Q)) (by kernel_rfl) ht)
theorem J19i (Q : QT) (a9 : Pt) (n9 c9 : Nat) (e9 : Bool) (i2 o2 i3 o3 : Nat) (a6 : Pt) (n6 c6 : Nat) (e6 x7 : Bool) (h : AHeap) (ht :
 SCall pg n_laws_markNeedS [.slice a9 n9 c9 e9, .int .i64 1] h fun v_221 h_222 =>
 xInt .i64 (some v_221) fun x_223 => SCall pg n_laws_heldNeedS [.slice a9 n9 c9 e9, .int .i64 1] h_222 fun v_224 h_225 =>
 xInt .i64 (some v_224) fun x_226 => bcase (decide ((x_226 : Int) < 0)) (Q (.bool false) h_225) (bcase (!((x_226 : Int) == x_223)) (Q (.bool false) h_225) (xRow (hRow h_225 (.ptr (some (i2, o2))) 2) fun cs_227 => xCons cs_227 fun c_228 r_229 => xSl (some c_228) fun a_230 n_231 c_232 e_233 => xCons r_229 fun c_234 r_235 => xSl (some c_234) fun a_236 n_237 c_238 e_239 => xNil r_235 (xRow (hRow h_225 (.ptr (some (i3, o3))) 2) fun cs_240 => xCons cs_240 fun c_241 r_242 => xStr (some c_241) fun s_243 => xCons r_242 fun c_244 r_245 => xStr (some c_244) fun s_246 => xNil r_245 (SCall pg n_laws_toWorld [.agg [.slice a_230 n_231 c_232 e_233, .slice a_236 n_237 c_238 e_239]] h_225 fun v_247 h_248 =>
 xAgg v_247 fun cs_249 => xCons cs_249 fun c_250 r_251 => xSl (some c_250) fun a_252 n_253 c_254 e_255 => xCons r_251 fun c_256 r_257 => xSl (some c_256) fun a_258 n_259 c_260 e_261 => xNil r_257 ((hRow h_248 (.ptr (some (i3, o3))) 2 = hRow h_225 (.ptr (some (i3, o3))) 2) ∧ SCall pg n_laws_toNeed [.agg [.str s_243, .str s_246]] h_248 fun v_262 h_263 =>
 xAgg v_262 fun cs_264 => xCons cs_264 fun c_265 r_266 => xStr (some c_265) fun s_267 => xCons r_266 fun c_268 r_269 => xStr (some c_268) fun s_270 => xNil r_269 ((hRow h_263 (.ptr (some (i2, o2))) 2 = hRow h_248 (.ptr (some (i2, o2))) 2) ∧ SCall pg n_impl_ReduceNeed [.agg [.slice a_252 n_253 c_254 e_255, .slice a_258 n_259 c_260 e_261], .agg [.str s_267, .str s_270]] h_263 fun v_271 h_272 =>
 xTup v_271 fun cs_273 => xCons cs_273 fun c_274 r_275 => xSl (some c_274) fun a_276 n_277 c_278 e_279 => xCons r_275 fun c_280 r_281 => xBool (some c_280) fun b_282 => xNil r_281 ((hRow h_272 (.ptr (some (i3, o3))) 2 = hRow h_263 (.ptr (some (i3, o3))) 2) ∧ (hRow h_272 (.ptr (some (i2, o2))) 2 = hRow h_263 (.ptr (some (i2, o2))) 2) ∧ SCall pg n_laws_eqNeedS [.slice a_276 n_277 c_278 e_279, .slice a6 n6 c6 e6] h_272 fun v_283 h_284 =>
 xBool (some v_283) fun b_285 => bcase (!b_285) (Q (.bool false) h_284) (bcase (!(b_282 == x7)) (Q (.bool false) h_284) (J30 Q a9 n9 c9 e9 x_223 h_284)))))))))) : J19 Q a9 n9 c9 e9 i2 o2 i3 o3 a6 n6 c6 e6 x7 h :=
  den_Den (kp := kp) (@cast _ (den pg fn.ntmps kp (C [1, 1, 1, 1, 1, 1, 1, 1, 1, 1, 1, 1, 1, 1]) [(9, .slice a9 n9 c9 e9), (2, .ptr (some (i2, o2))), (3, .ptr (some (i3, o3))), (6, .slice a6 n6 c6 e6), (7, .bool x7)] h (KR Q)) (by kernel_rfl) ht)
theorem J30i (Q : QT) (a9 : Pt) (n9 c9 : Nat) (e9 : Bool) (x12 : Int) (h : AHeap) (ht :
 SCall pg n_laws_heldNeedS [.slice a9 n9 c9 e9, .int .i64 1] h fun v_286 h_287 =>
 xInt .i64 (some v_286) fun x_288 => bcase (decide ((x_288 : Int) < 0)) (Q (.bool false) h_287) (bcase (!((x_288 : Int) == x12)) (Q (.bool false) h_287) (Q (.bool true) h_287))) : J30 Q a9 n9 c9 e9 x12 h :=
  den_Den (kp := kp) (@cast _ (den pg fn.ntmps kp (C [1, 1, 1, 1, 1, 1, 1, 1, 1, 1, 1, 1, 1, 1, 1, 1, 1, 1, 1, 1, 1, 1]) [(9, .slice a9 n9 c9 e9), (12, .int .i64 x12)] h (KR Q)) (by kernel_rfl) ht)
theorem call (a0x0 : Pt) (n0x0 c0x0 : Nat) (e0x0 : Bool) (a0x1 : Pt) (n0x1 c0x1 : Nat) (e0x1 : Bool) (x1x0 x1x1 : List Nat) (h : AHeap) (Q : QT) (ht :
 letH (h ++ [.cells t_laws_World [.slice a0x0 n0x0 c0x0 e0x0, .slice a0x1 n0x1 c0x1 e0x1] false]) fun h_0 => letH (h_0 ++ [.cells t_laws_Need [.str x1x0, .str x1x1] false]) fun h_1 => xRow (hRow h_1 (.ptr (some (List.length h, 0))) 2) fun cs_2 => xCons cs_2 fun c_3 r_4 => xSl (some c_3) fun a_5 n_6 c_7 e_8 => xCons r_4 fun c_9 r_10 => xSl (some c_9) fun a_11 n_12 c_13 e_14 => xNil r_10 (SCall pg n_laws_szWorld [.agg [.slice a_5 n_6 c_7 e_8, .slice a_11 n_12 c_13 e_14], .int .i64 1048576] h_1 fun v_15 h_16 =>
 xInt .i64 (some v_15) fun x_17 => bcase (decide ((x_17 : Int) < 0)) (Q (.bool true) h_16) (xRow (hRow h_16 (.ptr (some (List.length h_0, 0))) 2) fun cs_18 => xCons cs_18 fun c_19 r_20 => xStr (some c_19) fun s_21 => xCons r_20 fun c_22 r_23 => xStr (some c_22) fun s_24 => xNil r_23 (SCall pg n_laws_szNeed [.agg [.str s_21, .str s_24], .int .i64 x_17] h_16 fun v_25 h_26 =>
 xInt .i64 (some v_25) fun x_27 => bcase (decide ((x_27 : Int) < 0)) (Q (.bool true) h_26) (xRow (hRow h_26 (.ptr (some (List.length h, 0))) 2) fun cs_28 => xCons cs_28 fun c_29 r_30 => xSl (some c_29) fun a_31 n_32 c_33 e_34 => xCons r_30 fun c_35 r_36 => xSl (some c_35) fun a_37 n_38 c_39 e_40 => xNil r_36 (xRow (hRow h_26 (.ptr (some (List.length h_0, 0))) 2) fun cs_41 => xCons cs_41 fun c_42 r_43 => xStr (some c_42) fun s_44 => xCons r_43 fun c_45 r_46 => xStr (some c_45) fun s_47 => xNil r_46 (SCall pg n_laws_toWorld [.agg [.slice a_31 n_32 c_33 e_34, .slice a_37 n_38 c_39 e_40]] h_26 fun v_48 h_49 =>
 xAgg v_48 fun cs_50 => xCons cs_50 fun c_51 r_52 => xSl (some c_51) fun a_53 n_54 c_55 e_56 => xCons r_52 fun c_57 r_58 => xSl (some c_57) fun a_59 n_60 c_61 e_62 => xNil r_58 ((hRow h_49 (.ptr (some (List.length h_0, 0))) 2 = hRow h_26 (.ptr (some (List.length h_0, 0))) 2) ∧ SCall pg n_laws_toNeed [.agg [.str s_44, .str s_47]] h_49 fun v_63 h_64 =>
 xAgg v_63 fun cs_65 => xCons cs_65 fun c_66 r_67 => xStr (some c_66) fun s_68 => xCons r_67 fun c_69 r_70 => xStr (some c_69) fun s_71 => xNil r_70 ((hRow h_64 (.ptr (some (List.length h, 0))) 2 = hRow h_49 (.ptr (some (List.length h, 0))) 2) ∧ SCall pg n_spec_ReduceNeed [.agg [.slice a_53 n_54 c_55 e_56, .slice a_59 n_60 c_61 e_62], .agg [.str s_68, .str s_71]] h_64 fun v_72 h_73 =>
 xTup v_72 fun cs_74 => xCons cs_74 fun c_75 r_76 => xSl (some c_75) fun a_77 n_78 c_79 e_80 => xCons r_76 fun c_81 r_82 => xBool (some c_81) fun b_83 => xNil r_82 ((hRow h_73 (.ptr (some (List.length h_0, 0))) 2 = hRow h_64 (.ptr (some (List.length h_0, 0))) 2) ∧ (hRow h_73 (.ptr (some (List.length h, 0))) 2 = hRow h_64 (.ptr (some (List.length h, 0))) 2) ∧ xRow (hRow h_73 (.ptr (some (List.length h, 0))) 2) fun cs_84 => xCons cs_84 fun c_85 r_86 => xSl (some c_85) fun a_87 n_88 c_89 e_90 => xCons r_86 fun c_91 r_92 => xSl (some c_91) fun a_93 n_94 c_95 e_96 => xNil r_92 (SCall pg n_laws_toWorld [.agg [.slice a_87 n_88 c_89 e_90, .slice a_93 n_94 c_95 e_96]] h_73 fun v_97 h_98 =>
 xAgg v_97 fun cs_99 => xCons cs_99 fun c_100 r_101 => xSl (some c_100) fun a_102 n_103 c_104 e_105 => xCons r_101 fun c_106 r_107 => xSl (some c_106) fun a_108 n_109 c_110 e_111 => xNil r_107 (letH (h_98 ++ [.cells t_impl_World [.slice none 0 0 true, .slice none 0 0 true] false]) fun h_112 => xHeap (hStore h_112 (.ptr (some (List.length h_98, 0))) [.slice a_102 n_103 c_104 e_105, .slice a_108 n_109 c_110 e_111]) fun h_113 => xRow (hRow h_113 (.ptr (some (List.length h_98, 0))) 2) fun cs_114 => xCons cs_114 fun c_115 r_116 => xSl (some c_115) fun a_117 n_118 c_119 e_120 => xCons r_116 fun c_121 r_122 => xSl (some c_121) fun a_123 n_124 c_125 e_126 => xNil r_122 (xRow (hRow h_113 (.ptr (some (List.length h_0, 0))) 2) fun cs_127 => xCons cs_127 fun c_128 r_129 => xStr (some c_128) fun s_130 => xCons r_129 fun c_131 r_132 => xStr (some c_131) fun s_133 => xNil r_132 ((hRow h_113 (.ptr (some (List.length h_98, 0))) 2 = hRow h_113 (.ptr (some (List.length h_98, 0))) 2) ∧ SCall pg n_laws_toNeed [.agg [.str s_130, .str s_133]] h_113 fun v_134 h_135 =>
 xAgg v_134 fun cs_136 => xCons cs_136 fun c_137 r_138 => xStr (some c_137) fun s_139 => xCons r_138 fun c_140 r_141 => xStr (some c_140) fun s_142 => xNil r_141 ((hRow h_135 (.ptr (some (List.length h_98, 0))) 2 = hRow h_113 (.ptr (some (List.length h_98, 0))) 2) ∧ SCall pg n_impl_ReduceNeed [.agg [.slice a_117 n_118 c_119 e_120, .slice a_123 n_124 c_125 e_126], .agg [.str s_139, .str s_142]] h_135 fun v_143 h_144 =>
 xTup v_143 fun cs_145 => xCons cs_145 fun c_146 r_147 => xSl (some c_146) fun a_148 n_149 c_150 e_151 => xCons r_147 fun c_152 r_153 => xBool (some c_152) fun b_154 => xNil r_153 (SCall pg n_laws_eqNeedS [.slice a_148 n_149 c_150 e_151, .slice a_77 n_78 c_79 e_80] h_144 fun v_155 h_156 =>
 xBool (some v_155) fun b_157 => bcase (!b_157) (Q (.bool false) h_156) (bcase (!(b_154 == b_83)) (Q (.bool false) h_156) (J13 Q (List.length h_98) 0 (List.length h) 0 a_148 n_149 c_150 e_151 a_77 n_78 c_79 e_80 b_154 b_83 (List.length h_0) 0 h_156)))))))))))))))))) : SCall pg n_laws_FnExactReduceNeed [.agg [.slice a0x0 n0x0 c0x0 e0x0, .slice a0x1 n0x1 c0x1 e0x1], .agg [.str x1x0, .str x1x1]] h Q :=
  SCall.of_body kp (c := cod fn) (fn := fn) Go.Proofs.Tryz.func5 (by kernel_rfl) (by kernel_rfl) (Nat.le_of_ble_eq_true (by kernel_rfl))
    (@cast _ (den pg fn.ntmps kp (cod fn) (Env.args 0 [.agg [.slice a0x0 n0x0 c0x0 e0x0, .slice a0x1 n0x1 c0x1 e0x1], .agg [.str x1x0, .str x1x1]]) h (KR Q)) (by kernel_rfl) ht)
end F_laws_FnExactReduceNeed
end Go.Sim

/- Printed by wip/tool: what the functions' bodies do, in the words of 'den'. -/
set_option maxRecDepth 100000
set_option linter.unusedVariables false
namespace Go.Sim
open Go Go.RowKit
/-! Function loop.example/instancesearch/impl.ReduceNeed -/
namespace F_impl_ReduceNeed
noncomputable abbrev fn : Func := Go.Proofs.Tryz.f21
def kp : Keeps := [(4000004, [6])]
noncomputable def C (p : List Nat) : Code := (cod fn).sub p
def KR (Q : QT) : KT := retA pg fn.results.toList Q
def J4 (Q : QT) (i6 o6 : Nat) (h : AHeap) : Prop := Den pg fn.ntmps (C [1, 1, 1]) [(6, .ptr (some (i6, o6)))] h (KR Q)
theorem J4i (Q : QT) (i6 o6 : Nat) (h : AHeap) (ht :
 xSl (hCell h (.ptr (some (i6, o6 + 2)))) fun a_49 n_50 c_51 e_52 => Q (.tup [.slice a_49 n_50 c_51 e_52, .bool true]) h) : J4 Q i6 o6 h :=
  den_Den (kp := kp) (@cast _ (den pg fn.ntmps kp (C [1, 1, 1]) [(6, .ptr (some (i6, o6)))] h (KR Q)) (by kernel_rfl) ht)
theorem call (a0x0 : Pt) (n0x0 c0x0 : Nat) (e0x0 : Bool) (a0x1 : Pt) (n0x1 c0x1 : Nat) (e0x1 : Bool) (x1x0 x1x1 : List Nat) (h : AHeap) (Q : QT) (ht :
 letH (h ++ [.cells t_impl_World [.slice a0x0 n0x0 c0x0 e0x0, .slice a0x1 n0x1 c0x1 e0x1] false]) fun h_0 => letH (h_0 ++ [.cells t_impl_Need [.str x1x0, .str x1x1] false]) fun h_1 => xRow (hRow h_1 (.ptr (some (List.length h, 0))) 2) fun cs_2 => xCons cs_2 fun c_3 r_4 => xSl (some c_3) fun a_5 n_6 c_7 e_8 => xCons r_4 fun c_9 r_10 => xSl (some c_9) fun a_11 n_12 c_13 e_14 => xNil r_10 (letH (h_1 ++ [.cells t_impl_reduction [.slice a_5 n_6 c_7 e_8, .slice a_11 n_12 c_13 e_14, .slice none 0 0 true, .int .i64 0] false]) fun h_15 => xRow (hRow h_15 (.ptr (some (List.length h, 0))) 2) fun cs_16 => xCons cs_16 fun c_17 r_18 => xSl (some c_17) fun a_19 n_20 c_21 e_22 => xCons r_18 fun c_23 r_24 => xSl (some c_23) fun a_25 n_26 c_27 e_28 => xNil r_24 (xRow (hRow h_15 (.ptr (some (List.length h_0, 0))) 2) fun cs_29 => xCons cs_29 fun c_30 r_31 => xStr (some c_30) fun s_32 => xCons r_31 fun c_33 r_34 => xStr (some c_33) fun s_35 => xNil r_34 (SCall pg n_impl_NeedValid [.agg [.slice a_19 n_20 c_21 e_22, .slice a_25 n_26 c_27 e_28], .agg [.str s_32, .str s_35]] h_15 fun v_36 h_37 =>
 xBool (some v_36) fun b_38 => bcase (!b_38) (Q (.tup [.slice none 0 0 true, .bool false]) h_37) (xRow (hRow h_37 (.ptr (some (List.length h_0, 0))) 2) fun cs_39 => xCons cs_39 fun c_40 r_41 => xStr (some c_40) fun s_42 => xCons r_41 fun c_43 r_44 => xStr (some c_43) fun s_45 => xNil r_44 (SCall pg n_impl_reduction_reduce [.ptr (some (List.length h_1, 0)), .agg [.str s_42, .str s_45], .int .i64 0] h_37 fun v_46 h_47 =>
 xBool (some v_46) fun b_48 => bcase (!b_48) (Q (.tup [.slice none 0 0 true, .bool false]) h_47) (J4 Q (List.length h_1) 0 h_47))))))) : SCall pg n_impl_ReduceNeed [.agg [.slice a0x0 n0x0 c0x0 e0x0, .slice a0x1 n0x1 c0x1 e0x1], .agg [.str x1x0, .str x1x1]] h Q :=
  SCall.of_body kp (c := cod fn) (fn := fn) Go.Proofs.Tryz.func21 (by kernel_rfl) (by kernel_rfl) (Nat.le_of_ble_eq_true (by kernel_rfl))
    (@cast _ (den pg fn.ntmps kp (cod fn) (Env.args 0 [.agg [.slice a0x0 n0x0 c0x0 e0x0, .slice a0x1 n0x1 c0x1 e0x1], .agg [.str x1x0, .str x1x1]]) h (KR Q)) (by kernel_rfl) ht)
end F_impl_ReduceNeed
/-! Function loop.example/instancesearch/spec.ReduceNeed -/
namespace F_spec_ReduceNeed
noncomputable abbrev fn : Func := Go.Proofs.Tryz.f20
def kp : Keeps := [(4000004, [6])]
noncomputable def C (p : List Nat) : Code := (cod fn).sub p
def KR (Q : QT) : KT := retA pg fn.results.toList Q
def J4 (Q : QT) (i6 o6 : Nat) (h : AHeap) : Prop := Den pg fn.ntmps (C [1, 1, 1]) [(6, .ptr (some (i6, o6)))] h (KR Q)
theorem J4i (Q : QT) (i6 o6 : Nat) (h : AHeap) (ht :
 xSl (hCell h (.ptr (some (i6, o6 + 2)))) fun a_52 n_53 c_54 e_55 => Q (.tup [.slice a_52 n_53 c_54 e_55, .bool true]) h) : J4 Q i6 o6 h :=
  den_Den (kp := kp) (@cast _ (den pg fn.ntmps kp (C [1, 1, 1]) [(6, .ptr (some (i6, o6)))] h (KR Q)) (by kernel_rfl) ht)
theorem call (a0x0 : Pt) (n0x0 c0x0 : Nat) (e0x0 : Bool) (a0x1 : Pt) (n0x1 c0x1 : Nat) (e0x1 : Bool) (x1x0 x1x1 : List Nat) (h : AHeap) (Q : QT) (ht :
 letH (h ++ [.cells t_impl_World [.slice a0x0 n0x0 c0x0 e0x0, .slice a0x1 n0x1 c0x1 e0x1] false]) fun h_0 => letH (h_0 ++ [.cells t_impl_Need [.str x1x0, .str x1x1] false]) fun h_1 => xRow (hRow h_1 (.ptr (some (List.length h, 0))) 2) fun cs_2 => xCons cs_2 fun c_3 r_4 => xSl (some c_3) fun a_5 n_6 c_7 e_8 => xCons r_4 fun c_9 r_10 => xSl (some c_9) fun a_11 n_12 c_13 e_14 => xNil r_10 (letH (h_1 ++ [.cells t_impl_Need [] false]) fun h_15 => letH (h_15 ++ [.cells t_spec_l9Reducer [.slice a_5 n_6 c_7 e_8, .slice a_11 n_12 c_13 e_14, .slice (some (List.length h_1, 0)) 0 0 true, .int .i64 0] false]) fun h_16 => xRow (hRow h_16 (.ptr (some (List.length h, 0))) 2) fun cs_17 => xCons cs_17 fun c_18 r_19 => xSl (some c_18) fun a_20 n_21 c_22 e_23 => xCons r_19 fun c_24 r_25 => xSl (some c_24) fun a_26 n_27 c_28 e_29 => xNil r_25 (xRow (hRow h_16 (.ptr (some (List.length h_0, 0))) 2) fun cs_30 => xCons cs_30 fun c_31 r_32 => xStr (some c_31) fun s_33 => xCons r_32 fun c_34 r_35 => xStr (some c_34) fun s_36 => xNil r_35 (SCall pg n_spec_NeedValid [.agg [.slice a_20 n_21 c_22 e_23, .slice a_26 n_27 c_28 e_29], .agg [.str s_33, .str s_36]] h_16 fun v_37 h_38 =>
 xBool (some v_37) fun b_39 => bcase (!b_39) (letH (h_38 ++ [.cells t_impl_Need [] false]) fun h_40 => Q (.tup [.slice (some (List.length h_38, 0)) 0 0 true, .bool false]) h_40) (xRow (hRow h_38 (.ptr (some (List.length h_0, 0))) 2) fun cs_41 => xCons cs_41 fun c_42 r_43 => xStr (some c_42) fun s_44 => xCons r_43 fun c_45 r_46 => xStr (some c_45) fun s_47 => xNil r_46 (SCall pg n_spec_l9Reducer_reduce [.ptr (some (List.length h_15, 0)), .agg [.str s_44, .str s_47], .int .i64 0] h_38 fun v_48 h_49 =>
 xBool (some v_48) fun b_50 => bcase (!b_50) (letH (h_49 ++ [.cells t_impl_Need [] false]) fun h_51 => Q (.tup [.slice (some (List.length h_49, 0)) 0 0 true, .bool false]) h_51) (J4 Q (List.length h_15) 0 h_49))))))) : SCall pg n_spec_ReduceNeed [.agg [.slice a0x0 n0x0 c0x0 e0x0, .slice a0x1 n0x1 c0x1 e0x1], .agg [.str x1x0, .str x1x1]] h Q :=
  SCall.of_body kp (c := cod fn) (fn := fn) Go.Proofs.Tryz.func20 (by kernel_rfl) (by kernel_rfl) (Nat.le_of_ble_eq_true (by kernel_rfl))
    (@cast _ (den pg fn.ntmps kp (cod fn) (Env.args 0 [.agg [.slice a0x0 n0x0 c0x0 e0x0, .slice a0x1 n0x1 c0x1 e0x1], .agg [.str x1x0, .str x1x1]]) h (KR Q)) (by kernel_rfl) ht)
end F_spec_ReduceNeed
end Go.Sim

/- Printed by wip/tool: what the functions' bodies do, in the words of 'den'. -/
set_option maxRecDepth 100000
set_option linter.unusedVariables false
namespace Go.Sim
open Go Go.RowKit
/-! Function (*loop.example/instancesearch/spec.l9Reducer).reduce -/
namespace F_spec_l9Reducer_reduce
noncomputable abbrev fn : Func := Go.Proofs.Tryz.f47
def kp : Keeps := [(2000002, [22, 0, 4]), (2000003, []), (4000004, []), (2000005, [7, 2, 0, 4]), (4000008, [0, 7, 4, 2]), (2000009, [8, 0, 2, 9]), (3000011, [9]), (1000011, [0, 2, 9, 76, 77, 78]), (4000014, [78, 77, 76, 9, 0, 2])]
noncomputable def C (p : List Nat) : Code := (cod fn).sub p
def KR (Q : QT) : KT := retA pg fn.results.toList Q
abbrev T11 := Pt → Int → Bool → Pt → Nat → Nat → Bool → Int → Int → AHeap → Prop
def E11 (R11 : T11) (env : Env) (h : AHeap) : Prop := eVal 0 env fun v env => xPtr (some v) fun a0 => eVal 2 env fun v env => eInt .i64 v fun x2 => eVal 9 env fun v env => xBool (some v) fun x9 => eVal 76 env fun v env => xSl (some v) fun a76 n76 c76 e76 => eVal 77 env fun v env => eInt .i64 v fun x77 => eVal 78 env fun v env => eInt .i64 v fun x78 => eNil env (R11 a0 x2 x9 a76 n76 c76 e76 x77 x78 h)
theorem E11elim {R11 : T11} {env : Env} {h : AHeap} (hi : E11 R11 env h) : ∃ a0, ∃ x2, ∃ x9, ∃ a76, ∃ n76, ∃ c76, ∃ e76, ∃ x77, ∃ x78, env = [(0, .ptr a0), (2, .int .i64 x2), (9, .bool x9), (76, .slice a76 n76 c76 e76), (77, .int .i64 x77), (78, .int .i64 x78)] ∧ R11 a0 x2 x9 a76 n76 c76 e76 x77 x78 h := by
  unfold E11 at hi
  have hi0 := hi
  clear hi
  obtain ⟨v, env, rfl, hi1⟩ := eVal_elim hi0
  obtain ⟨a0, rfl, hi2⟩ := xPtr_elim hi1
  obtain ⟨v, env, rfl, hi3⟩ := eVal_elim hi2
  obtain ⟨x2, rfl, hi4⟩ := eInt_elim hi3
  obtain ⟨v, env, rfl, hi5⟩ := eVal_elim hi4
  obtain ⟨x9, rfl, hi6⟩ := xBool_elim hi5
  obtain ⟨v, env, rfl, hi7⟩ := eVal_elim hi6
  obtain ⟨a76, n76, c76, e76, rfl, hi8⟩ := xSl_elim hi7
  obtain ⟨v, env, rfl, hi9⟩ := eVal_elim hi8
  obtain ⟨x77, rfl, hi10⟩ := eInt_elim hi9
  obtain ⟨v, env, rfl, hi11⟩ := eVal_elim hi10
  obtain ⟨x78, rfl, hi12⟩ := eInt_elim hi11
  obtain ⟨rfl, hi13⟩ := eNil_elim hi12
  have hi := hi13
  exact ⟨a0, x2, x9, a76, n76, c76, e76, x77, x78, rfl, hi⟩
def K0 (Q : QT) : KT := andThen (fun env' h' => (match kp.find 4000005 with | some ks => Den pg fn.ntmps (C [1, 1]) (env'.keep ks) h' (KR Q) | none => den pg fn.ntmps kp (C [1, 1]) env' h' (KR Q))) (KR Q)
def K1 (Q : QT) : KT := andThen (fun env' h' => (match kp.find 4000015 with | some ks => Den pg fn.ntmps (C [1, 1, 1, 1, 1, 1, 1]) (env'.keep ks) h' (KR Q) | none => den pg fn.ntmps kp (C [1, 1, 1, 1, 1, 1, 1]) env' h' (KR Q))) (KR Q)
def K2 (Q : QT) : KT := onExit 0 (K1 Q)
def K3 (Q : QT) : KT := left kp 11 (K2 Q)
def K4 (Q : QT) (R11 : T11) : KT := rnd ((kp.find 1000011).getD []) (E11 R11) (K3 Q)
def J4 (Q : QT) (h : AHeap) : Prop := Den pg fn.ntmps (C [1, 0, 1, 0, 1]) [] h (K0 Q)
def J8 (Q : QT) (a0 a7 : Pt) (n7 c7 : Nat) (e7 : Bool) (i4 o4 : Nat) (x2 : Int) (h : AHeap) : Prop := Den pg fn.ntmps (C [1, 1, 1, 1]) [(0, .ptr a0), (7, .slice a7 n7 c7 e7), (4, .ptr (some (i4, o4))), (2, .int .i64 x2)] h (KR Q)
def L11 (Q : QT) (a0 : Pt) (x2 : Int) (x9 : Bool) (a76 : Pt) (n76 c76 : Nat) (e76 : Bool) (x77 x78 : Int) (h : AHeap) : Prop := Loop (Den pg fn.ntmps (C [1, 1, 1, 1, 1, 1, 0, 1, 0, 0])) ((kp.find 1000011).getD []) (K3 Q) [(0, .ptr a0), (2, .int .i64 x2), (9, .bool x9), (76, .slice a76 n76 c76 e76), (77, .int .i64 x77), (78, .int .i64 x78)] h
def J14 (Q : QT) (R11 : T11) (x78 x77 : Int) (a76 : Pt) (n76 c76 : Nat) (e76 x9 : Bool) (a0 : Pt) (x2 : Int) (h : AHeap) : Prop := Den pg fn.ntmps (C [1, 1, 1, 1, 1, 1, 0, 1, 0, 0, 1, 1, 1]) [(78, .int .i64 x78), (77, .int .i64 x77), (76, .slice a76 n76 c76 e76), (9, .bool x9), (0, .ptr a0), (2, .int .i64 x2)] h (K4 Q R11)
def A11x0 (Q : QT) (x9 : Bool) (h : AHeap) : Prop := At (K2 Q) (.exit 0) [(9, .bool x9)] h
theorem J4i (Q : QT) (h : AHeap) (ht :
 Q (.bool true) h) : J4 Q h :=
  den_Den (kp := kp) (@cast _ (den pg fn.ntmps kp (C [1, 0, 1, 0, 1]) [] h (K0 Q)) (by kernel_rfl) ht)
theorem J8i (Q : QT) (a0 a7 : Pt) (n7 c7 : Nat) (e7 : Bool) (i4 o4 : Nat) (x2 : Int) (h : AHeap) (ht :
 xSome a0 fun i_76 o_77 => xInt .i64 (hCell h (.ptr (some (i_76, o_77 + 3)))) fun x_78 => xSome a0 fun i_79 o_80 => xHeap (hStore h (.ptr (some (i_79, o_80 + 3))) [.int .i64 (IntKind.wrap .i64 (x_78 + 1))]) fun h_81 => xSome a0 fun i_82 o_83 => (0 ≤ (0 : Int) ∧ (0 : Int) < (n7 : Nat)) ∧ (xSome a7 fun i_84 o_85 => xSl (hCell h_81 (.ptr (some (i_82, o_83 + 0 + 1)))) fun a_86 n_87 c_88 e_89 => xInt .i64 (hCell h_81 (.ptr (some (i_84, o_85 + (Int.toNat 0) * 1)))) fun x_90 => (0 ≤ (x_90 : Int) ∧ (x_90 : Int) < (n_87 : Nat)) ∧ (xSome a_86 fun i_91 o_92 => xRow (hRow h_81 (.ptr (some (i_91, o_92 + (Int.toNat x_90) * 3))) 3) fun cs_93 => xCons cs_93 fun c_94 r_95 => xStr (some c_94) fun s_96 => xCons r_95 fun c_97 r_98 => xStr (some c_97) fun s_99 => xCons r_98 fun c_100 r_101 => xSl (some c_100) fun a_102 n_103 c_104 e_105 => xNil r_101 (xStr (hCell h_81 (.ptr (some (i4, o4 + 1)))) fun s_106 => (hRow h_81 (.ptr (some (i_91, o_92 + (Int.toNat x_90) * 3))) 3 = hRow h_81 (.ptr (some (i_91, o_92 + (Int.toNat x_90) * 3))) 3) ∧ (hCell h_81 (.ptr (some (i_84, o_85 + (Int.toNat 0) * 1))) = hCell h_81 (.ptr (some (i_84, o_85 + (Int.toNat 0) * 1)))) ∧ (hCell h_81 (.ptr (some (i_82, o_83 + 0 + 1))) = hCell h_81 (.ptr (some (i_82, o_83 + 0 + 1)))) ∧ SCall pg n_spec_l4Needs [.agg [.str s_96, .str s_99, .slice a_102 n_103 c_104 e_105], .str s_106] h_81 fun v_107 h_108 =>
 xTup v_107 fun cs_109 => xCons cs_109 fun c_110 r_111 => xSl (some c_110) fun a_112 n_113 c_114 e_115 => xCons r_111 fun c_116 r_117 => xBool (some c_116) fun b_118 => xNil r_117 ((hCell h_108 (.ptr (some (i_84, o_85 + (Int.toNat 0) * 1))) = hCell h_81 (.ptr (some (i_84, o_85 + (Int.toNat 0) * 1)))) ∧ (hCell h_108 (.ptr (some (i_82, o_83 + 0 + 1))) = hCell h_81 (.ptr (some (i_82, o_83 + 0 + 1)))) ∧ L11 Q a0 x2 b_118 a_112 n_113 c_114 e_115 (((n_113 : Nat) : Int)) 0 h_108))))) : J8 Q a0 a7 n7 c7 e7 i4 o4 x2 h :=
  den_Den (kp := kp) (@cast _ (den pg fn.ntmps kp (C [1, 1, 1, 1]) [(0, .ptr a0), (7, .slice a7 n7 c7 e7), (4, .ptr (some (i4, o4))), (2, .int .i64 x2)] h (KR Q)) (by kernel_rfl) ht)
def L11t (Q : QT) (R11 : T11) (a0 : Pt) (x2 : Int) (x9 : Bool) (a76 : Pt) (n76 c76 : Nat) (e76 : Bool) (x77 x78 : Int) (h : AHeap) : Prop :=
 bcase (decide ((x78 : Int) < x77)) ((0 ≤ (x78 : Int) ∧ (x78 : Int) < (n76 : Nat)) ∧ (xSome a76 fun i_119 o_120 => xRow (hRow h (.ptr (some (i_119, o_120 + (Int.toNat x78) * 2))) 2) fun cs_121 => xCons cs_121 fun c_122 r_123 => xStr (some c_122) fun s_124 => xCons r_123 fun c_125 r_126 => xStr (some c_125) fun s_127 => xNil r_126 (letH (h ++ [.cells t_impl_Need [.str [], .str []] false]) fun h_128 => xHeap (hStore h_128 (.ptr (some (List.length h, 0))) [.str s_124, .str s_127]) fun h_129 => bcase x9 (xRow (hRow h_129 (.ptr (some (List.length h, 0))) 2) fun cs_130 => xCons cs_130 fun c_131 r_132 => xStr (some c_131) fun s_133 => xCons r_132 fun c_134 r_135 => xStr (some c_134) fun s_136 => xNil r_135 (SCall pg n_spec_l9Reducer_reduce [.ptr a0, .agg [.str s_133, .str s_136], .int .i64 (IntKind.wrap .i64 (x2 + 1))] h_129 fun v_137 h_138 =>
 xBool (some v_137) fun b_139 => J14 Q R11 x78 x77 a76 n76 c76 e76 b_139 a0 x2 h_138)) (J14 Q R11 x78 x77 a76 n76 c76 e76 false a0 x2 h_129)))) (A11x0 Q x9 h)
theorem L11den (Q : QT) (R11 : T11) (a0 : Pt) (x2 : Int) (x9 : Bool) (a76 : Pt) (n76 c76 : Nat) (e76 : Bool) (x77 x78 : Int) (h : AHeap) (ht : L11t Q R11 a0 x2 x9 a76 n76 c76 e76 x77 x78 h) : Den pg fn.ntmps (C [1, 1, 1, 1, 1, 1, 0, 1, 0, 0]) [(0, .ptr a0), (2, .int .i64 x2), (9, .bool x9), (76, .slice a76 n76 c76 e76), (77, .int .i64 x77), (78, .int .i64 x78)] h (K4 Q R11) :=
  den_Den (kp := kp) (@cast _ (den pg fn.ntmps kp (C [1, 1, 1, 1, 1, 1, 0, 1, 0, 0]) [(0, .ptr a0), (2, .int .i64 x2), (9, .bool x9), (76, .slice a76 n76 c76 e76), (77, .int .i64 x77), (78, .int .i64 x78)] h (K4 Q R11)) (by kernel_rfl) ht)
theorem L11ind (Q : QT) (a0 : Pt) (x2 : Int) (a76 : Pt) (n76 c76 : Nat) (e76 : Bool) (x77 : Int) {G : Type} (J : G → Bool → Int → AHeap → Prop) (m : G → Nat)
 (hr : ∀ (g : G) (x9 : Bool) (x78 : Int) (h : AHeap), J g x9 x78 h → ∀ (R11 : T11), (∀ g' (x9 : Bool) (x78 : Int) (h : AHeap), m g' < m g → J g' x9 x78 h → R11 a0 x2 x9 a76 n76 c76 e76 x77 x78 h) → L11t Q R11 a0 x2 x9 a76 n76 c76 e76 x77 x78 h)
 (g : G) (x9 : Bool) (x78 : Int) (h : AHeap) (hj : J g x9 x78 h) : L11 Q a0 x2 x9 a76 n76 c76 e76 x77 x78 h := by
  refine Loop.inv2 (fun g => E11 fun a0' x2' x9 a76' n76' c76' e76' x77' x78 h => a0 = a0' ∧ x2 = x2' ∧ a76 = a76' ∧ n76 = n76' ∧ c76 = c76' ∧ e76 = e76' ∧ x77 = x77' ∧ J g x9 x78 h) (fun g => E11 fun a0' x2' x9 a76' n76' c76' e76' x77' x78 h => a0 = a0' ∧ x2 = x2' ∧ a76 = a76' ∧ n76 = n76' ∧ c76 = c76' ∧ e76 = e76' ∧ x77 = x77' ∧ ∃ g', m g' < m g ∧ J g' x9 x78 h) m ?_ ?_ g ⟨rfl, rfl, rfl, rfl, rfl, rfl, rfl, hj⟩
  · intro g env h hi
    obtain ⟨a0', x2', x9, a76', n76', c76', e76', x77', x78, rfl, rfl, rfl, rfl, rfl, rfl, rfl, rfl, hj⟩ := E11elim hi
    exact L11den Q (fun a0' x2' x9 a76' n76' c76' e76' x77' x78 h => a0 = a0' ∧ x2 = x2' ∧ a76 = a76' ∧ n76 = n76' ∧ c76 = c76' ∧ e76 = e76' ∧ x77 = x77' ∧ ∃ g', m g' < m g ∧ J g' x9 x78 h) a0 x2 x9 a76 n76 c76 e76 x77 x78 h (hr g x9 x78 h hj (fun a0' x2' x9 a76' n76' c76' e76' x77' x78 h => a0 = a0' ∧ x2 = x2' ∧ a76 = a76' ∧ n76 = n76' ∧ c76 = c76' ∧ e76 = e76' ∧ x77 = x77' ∧ ∃ g', m g' < m g ∧ J g' x9 x78 h) fun g' x9 x78 h hlt hj => ⟨rfl, rfl, rfl, rfl, rfl, rfl, rfl, g', hlt, hj⟩)
  · intro g env h hi
    obtain ⟨a0', x2', x9, a76', n76', c76', e76', x77', x78, rfl, rfl, rfl, rfl, rfl, rfl, rfl, rfl, g', hlt, hj⟩ := E11elim hi
    exact ⟨g', hlt, rfl, rfl, rfl, rfl, rfl, rfl, rfl, hj⟩
theorem J14i (Q : QT) (R11 : T11) (x78 x77 : Int) (a76 : Pt) (n76 c76 : Nat) (e76 x9 : Bool) (a0 : Pt) (x2 : Int) (h : AHeap) (ht :
 R11 a0 x2 x9 a76 n76 c76 e76 x77 (IntKind.wrap .i64 (x78 + 1)) h) : J14 Q R11 x78 x77 a76 n76 c76 e76 x9 a0 x2 h :=
  den_Den (kp := kp) (@cast _ (den pg fn.ntmps kp (C [1, 1, 1, 1, 1, 1, 0, 1, 0, 0, 1, 1, 1]) [(78, .int .i64 x78), (77, .int .i64 x77), (76, .slice a76 n76 c76 e76), (9, .bool x9), (0, .ptr a0), (2, .int .i64 x2)] h (K4 Q R11)) (by kernel_rfl) ht)
theorem A11x0i (Q : QT) (x9 : Bool) (h : AHeap) (ht :
 Q (.bool x9) h) : A11x0 Q x9 h :=
  At.mk (@cast _ ((K2 Q) (.exit 0) [(9, .bool x9)] h) (by kernel_rfl) ht)
theorem call (a0 : Pt) (x1x0 x1x1 : List Nat) (x2 : Int) (h : AHeap) (Q : QT) (ht :
 letH (h ++ [.cells t_impl_Need [.str x1x0, .str x1x1] false]) fun h_0 => xStr (hCell h_0 (.ptr (some (List.length h, 0 + 1)))) fun s_1 => byteAt s_1 0 fun b_2 => SCall pg n_spec_l1Variable [.int .u8 (((b_2 : Nat) : Int))] h_0 fun v_3 h_4 =>
 xBool (some v_3) fun b_5 => bcase b_5 (xSome a0 fun i_6 o_7 => xSl (hCell h_4 (.ptr (some (i_6, o_7 + 2)))) fun a_8 n_9 c_10 e_11 => xRow (hRow h_4 (.ptr (some (List.length h, 0))) 2) fun cs_12 => xCons cs_12 fun c_13 r_14 => xStr (some c_13) fun s_15 => xCons r_14 fun c_16 r_17 => xStr (some c_16) fun s_18 => xNil r_17 ((hCell h_4 (.ptr (some (i_6, o_7 + 2))) = hCell h_4 (.ptr (some (i_6, o_7 + 2)))) ∧ SCall pg n_spec_l9In [.slice a_8 n_9 c_10 e_11, .agg [.str s_15, .str s_18]] h_4 fun v_19 h_20 =>
 xBool (some v_19) fun b_21 => bcase (!b_21) (xSome a0 fun i_22 o_23 => xSl (hCell h_20 (.ptr (some (i_22, o_23 + 2)))) fun a_24 n_25 c_26 e_27 => xRow (hRow h_20 (.ptr (some (List.length h, 0))) 2) fun cs_28 => xCons cs_28 fun c_29 r_30 => xStr (some c_29) fun s_31 => xCons r_30 fun c_32 r_33 => xStr (some c_32) fun s_34 => xNil r_33 ((hCell h_20 (.ptr (some (i_22, o_23 + 2))) = hCell h_20 (.ptr (some (i_22, o_23 + 2)))) ∧ letH (h_20 ++ [.cells t_impl_Need [.str s_31, .str s_34] false]) fun h_35 => (hCell h_35 (.ptr (some (i_22, o_23 + 2))) = hCell h_20 (.ptr (some (i_22, o_23 + 2)))) ∧ appendA pg t_L_impl_Need h_35 (.slice a_24 n_25 c_26 e_27) (.slice (some (List.length h_20, 0)) 1 1 true) fun v_36 h_37 => xSl (some v_36) fun a_38 n_39 c_40 e_41 => xSome a0 fun i_42 o_43 => xHeap (hStore h_37 (.ptr (some (i_42, o_43 + 2))) [.slice a_38 n_39 c_40 e_41]) fun h_44 => J4 Q h_44)) (J4 Q h_20))) (xSome a0 fun i_45 o_46 => xRow (hRow h_4 (.ptr (some (i_45, o_46 + 0))) 2) fun cs_47 => xCons cs_47 fun c_48 r_49 => xSl (some c_48) fun a_50 n_51 c_52 e_53 => xCons r_49 fun c_54 r_55 => xSl (some c_54) fun a_56 n_57 c_58 e_59 => xNil r_55 (xRow (hRow h_4 (.ptr (some (List.length h, 0))) 2) fun cs_60 => xCons cs_60 fun c_61 r_62 => xStr (some c_61) fun s_63 => xCons r_62 fun c_64 r_65 => xStr (some c_64) fun s_66 => xNil r_65 ((hRow h_4 (.ptr (some (i_45, o_46 + 0))) 2 = hRow h_4 (.ptr (some (i_45, o_46 + 0))) 2) ∧ SCall pg n_spec_l4Candidates [.agg [.slice a_50 n_51 c_52 e_53, .slice a_56 n_57 c_58 e_59], .agg [.str s_63, .str s_66]] h_4 fun v_67 h_68 =>
 xSl (some v_67) fun a_69 n_70 c_71 e_72 => bcase (!((((n_70 : Nat) : Int) : Int) == 1)) (Q (.bool false) h_68) (bcase (decide ((x2 : Int) > 30)) (Q (.bool false) h_68) (xSome a0 fun i_73 o_74 => xInt .i64 (hCell h_68 (.ptr (some (i_73, o_74 + 3)))) fun x_75 => bcase (decide ((x_75 : Int) ≥ 300)) (Q (.bool false) h_68) (J8 Q a0 a_69 n_70 c_71 e_72 (List.length h) 0 x2 h_68))))))) : SCall pg n_spec_l9Reducer_reduce [.ptr a0, .agg [.str x1x0, .str x1x1], .int .i64 x2] h Q :=
  SCall.of_body kp (c := cod fn) (fn := fn) Go.Proofs.Tryz.func47 (by kernel_rfl) (by kernel_rfl) (Nat.le_of_ble_eq_true (by kernel_rfl))
    (@cast _ (den pg fn.ntmps kp (cod fn) (Env.args 0 [.ptr a0, .agg [.str x1x0, .str x1x1], .int .i64 x2]) h (KR Q)) (by kernel_rfl) ht)
end F_spec_l9Reducer_reduce
end Go.Sim

/- Printed by wip/tool: what the functions' bodies do, in the words of 'den'. -/
set_option maxRecDepth 100000
set_option linter.unusedVariables false
namespace Go.Sim
open Go Go.RowKit
/-! Function (*loop.example/instancesearch/impl.reduction).reduce -/
namespace F_impl_reduction_reduce
noncomputable abbrev fn : Func := Go.Proofs.Tryz.f48
def kp : Keeps := [(2000002, []), (2000004, [3, 5, 7, 4]), (4000007, [3, 7, 4, 5]), (2000008, [9, 8, 3, 5])]
noncomputable def C (p : List Nat) : Code := (cod fn).sub p
def KR (Q : QT) : KT := retA pg fn.results.toList Q
def J7 (Q : QT) (i3 o3 : Nat) (a7 : Pt) (n7 c7 : Nat) (e7 : Bool) (i4 o4 i5 o5 : Nat) (h : AHeap) : Prop := Den pg fn.ntmps (C [1, 1, 1, 1]) [(3, .ptr (some (i3, o3))), (7, .slice a7 n7 c7 e7), (4, .ptr (some (i4, o4))), (5, .ptr (some (i5, o5)))] h (KR Q)
theorem J7i (Q : QT) (i3 o3 : Nat) (a7 : Pt) (n7 c7 : Nat) (e7 : Bool) (i4 o4 i5 o5 : Nat) (h : AHeap) (ht :
 xPtr (hCell h (.ptr (some (i3, o3)))) fun a_66 => xSome a_66 fun i_67 o_68 => xInt .i64 (hCell h (.ptr (some (i_67, o_68 + 3)))) fun x_69 => xSome a_66 fun i_70 o_71 => xHeap (hStore h (.ptr (some (i_70, o_71 + 3))) [.int .i64 (IntKind.wrap .i64 (x_69 + 1))]) fun h_72 => (0 ≤ (0 : Int) ∧ (0 : Int) < (n7 : Nat)) ∧ (xSome a7 fun i_73 o_74 => xPtr (hCell h_72 (.ptr (some (i3, o3)))) fun a_75 => xSome a_75 fun i_76 o_77 => xSl (hCell h_72 (.ptr (some (i_76, o_77 + 0 + 1)))) fun a_78 n_79 c_80 e_81 => xInt .i64 (hCell h_72 (.ptr (some (i_73, o_74 + (Int.toNat 0) * 1)))) fun x_82 => (0 ≤ (x_82 : Int) ∧ (x_82 : Int) < (n_79 : Nat)) ∧ (xSome a_78 fun i_83 o_84 => xRow (hRow h_72 (.ptr (some (i_83, o_84 + (Int.toNat x_82) * 3))) 3) fun cs_85 => xCons cs_85 fun c_86 r_87 => xStr (some c_86) fun s_88 => xCons r_87 fun c_89 r_90 => xStr (some c_89) fun s_91 => xCons r_90 fun c_92 r_93 => xSl (some c_92) fun a_94 n_95 c_96 e_97 => xNil r_93 (xStr (hCell h_72 (.ptr (some (i4, o4 + 1)))) fun s_98 => (hRow h_72 (.ptr (some (i_83, o_84 + (Int.toNat x_82) * 3))) 3 = hRow h_72 (.ptr (some (i_83, o_84 + (Int.toNat x_82) * 3))) 3) ∧ (hCell h_72 (.ptr (some (i_73, o_74 + (Int.toNat 0) * 1))) = hCell h_72 (.ptr (some (i_73, o_74 + (Int.toNat 0) * 1)))) ∧ (hCell h_72 (.ptr (some (i_76, o_77 + 0 + 1))) = hCell h_72 (.ptr (some (i_76, o_77 + 0 + 1)))) ∧ (hCell h_72 (.ptr (some (i3, o3))) = hCell h_72 (.ptr (some (i3, o3)))) ∧ SCall pg n_impl_Instance_needs [.agg [.str s_88, .str s_91, .slice a_94 n_95 c_96 e_97], .str s_98] h_72 fun v_99 h_100 =>
 xTup v_99 fun cs_101 => xCons cs_101 fun c_102 r_103 => xSl (some c_102) fun a_104 n_105 c_106 e_107 => xCons r_103 fun c_108 r_109 => xBool (some c_108) fun b_110 => xNil r_109 ((hCell h_100 (.ptr (some (i_73, o_74 + (Int.toNat 0) * 1))) = hCell h_72 (.ptr (some (i_73, o_74 + (Int.toNat 0) * 1)))) ∧ (hCell h_100 (.ptr (some (i_76, o_77 + 0 + 1))) = hCell h_72 (.ptr (some (i_76, o_77 + 0 + 1)))) ∧ (hCell h_100 (.ptr (some (i3, o3))) = hCell h_72 (.ptr (some (i3, o3)))) ∧ bcase b_110 (SCall pg n_slices_ContainsFunc_L_impl_Need_impl_Need [.slice a_104 n_105 c_106 e_107, .fn n_impl_reduction_reduce_lit1 [.ptr (some (i3, o3)), .ptr (some (i5, o5))]] h_100 fun v_111 h_112 =>
 xBool (some v_111) fun b_113 => Q (.bool (!b_113)) h_112) (Q (.bool false) h_100)))))) : J7 Q i3 o3 a7 n7 c7 e7 i4 o4 i5 o5 h :=
  den_Den (kp := kp) (@cast _ (den pg fn.ntmps kp (C [1, 1, 1, 1]) [(3, .ptr (some (i3, o3))), (7, .slice a7 n7 c7 e7), (4, .ptr (some (i4, o4))), (5, .ptr (some (i5, o5)))] h (KR Q)) (by kernel_rfl) ht)
theorem call (a0 : Pt) (x1x0 x1x1 : List Nat) (x2 : Int) (h : AHeap) (Q : QT) (ht :
 letH (h ++ [.cells t_P_impl_reduction [.ptr a0] false]) fun h_0 => letH (h_0 ++ [.cells t_impl_Need [.str x1x0, .str x1x1] false]) fun h_1 => letH (h_1 ++ [.cells t_int [.int .i64 x2] false]) fun h_2 => xStr (hCell h_2 (.ptr (some (List.length h_0, 0 + 1)))) fun s_3 => SCall pg n_impl_isVar [.str s_3] h_2 fun v_4 h_5 =>
 xBool (some v_4) fun b_6 => bcase b_6 (xPtr (hCell h_5 (.ptr (some (List.length h, 0)))) fun a_7 => xPtr (hCell h_5 (.ptr (some (List.length h, 0)))) fun a_8 => xSome a_8 fun i_9 o_10 => xSl (hCell h_5 (.ptr (some (i_9, o_10 + 2)))) fun a_11 n_12 c_13 e_14 => xRow (hRow h_5 (.ptr (some (List.length h_0, 0))) 2) fun cs_15 => xCons cs_15 fun c_16 r_17 => xStr (some c_16) fun s_18 => xCons r_17 fun c_19 r_20 => xStr (some c_19) fun s_21 => xNil r_20 ((hCell h_5 (.ptr (some (i_9, o_10 + 2))) = hCell h_5 (.ptr (some (i_9, o_10 + 2)))) ∧ (hCell h_5 (.ptr (some (List.length h, 0))) = hCell h_5 (.ptr (some (List.length h, 0)))) ∧ (hCell h_5 (.ptr (some (List.length h, 0))) = hCell h_5 (.ptr (some (List.length h, 0)))) ∧ letH (h_5 ++ [.cells t_impl_Need [.str s_18, .str s_21] false]) fun h_22 => (hCell h_22 (.ptr (some (i_9, o_10 + 2))) = hCell h_5 (.ptr (some (i_9, o_10 + 2)))) ∧ (hCell h_22 (.ptr (some (List.length h, 0))) = hCell h_5 (.ptr (some (List.length h, 0)))) ∧ (hCell h_22 (.ptr (some (List.length h, 0))) = hCell h_5 (.ptr (some (List.length h, 0)))) ∧ SCall pg n_impl_once [.slice a_11 n_12 c_13 e_14, .slice (some (List.length h_5, 0)) 1 1 true] h_22 fun v_23 h_24 =>
 xSl (some v_23) fun a_25 n_26 c_27 e_28 => (hCell h_24 (.ptr (some (List.length h, 0))) = hCell h_22 (.ptr (some (List.length h, 0)))) ∧ (hCell h_24 (.ptr (some (List.length h, 0))) = hCell h_22 (.ptr (some (List.length h, 0)))) ∧ xSome a_7 fun i_29 o_30 => xHeap (hStore h_24 (.ptr (some (i_29, o_30 + 2))) [.slice a_25 n_26 c_27 e_28]) fun h_31 => Q (.bool true) h_31)) (xPtr (hCell h_5 (.ptr (some (List.length h, 0)))) fun a_32 => xSome a_32 fun i_33 o_34 => xRow (hRow h_5 (.ptr (some (i_33, o_34 + 0))) 2) fun cs_35 => xCons cs_35 fun c_36 r_37 => xSl (some c_36) fun a_38 n_39 c_40 e_41 => xCons r_37 fun c_42 r_43 => xSl (some c_42) fun a_44 n_45 c_46 e_47 => xNil r_43 (xRow (hRow h_5 (.ptr (some (List.length h_0, 0))) 2) fun cs_48 => xCons cs_48 fun c_49 r_50 => xStr (some c_49) fun s_51 => xCons r_50 fun c_52 r_53 => xStr (some c_52) fun s_54 => xNil r_53 ((hRow h_5 (.ptr (some (i_33, o_34 + 0))) 2 = hRow h_5 (.ptr (some (i_33, o_34 + 0))) 2) ∧ (hCell h_5 (.ptr (some (List.length h, 0))) = hCell h_5 (.ptr (some (List.length h, 0)))) ∧ SCall pg n_impl_candidates [.agg [.slice a_38 n_39 c_40 e_41, .slice a_44 n_45 c_46 e_47], .agg [.str s_51, .str s_54]] h_5 fun v_55 h_56 =>
 xSl (some v_55) fun a_57 n_58 c_59 e_60 => (hCell h_56 (.ptr (some (List.length h, 0))) = hCell h_5 (.ptr (some (List.length h, 0)))) ∧ xPtr (hCell h_56 (.ptr (some (List.length h, 0)))) fun a_61 => xSome a_61 fun i_62 o_63 => xInt .i64 (hCell h_56 (.ptr (some (i_62, o_63 + 3)))) fun x_64 => bcase (decide ((x_64 : Int) ≥ 300)) (Q (.bool false) h_56) (xInt .i64 (hCell h_56 (.ptr (some (List.length h_1, 0)))) fun x_65 => bcase (decide ((x_65 : Int) > 30)) (Q (.bool false) h_56) (bcase (!((((n_58 : Nat) : Int) : Int) == 1)) (Q (.bool false) h_56) (J7 Q (List.length h) 0 a_57 n_58 c_59 e_60 (List.length h_0) 0 (List.length h_1) 0 h_56))))))) : SCall pg n_impl_reduction_reduce [.ptr a0, .agg [.str x1x0, .str x1x1], .int .i64 x2] h Q :=
  SCall.of_body kp (c := cod fn) (fn := fn) Go.Proofs.Tryz.func48 (by kernel_rfl) (by kernel_rfl) (Nat.le_of_ble_eq_true (by kernel_rfl))
    (@cast _ (den pg fn.ntmps kp (cod fn) (Env.args 0 [.ptr a0, .agg [.str x1x0, .str x1x1], .int .i64 x2]) h (KR Q)) (by kernel_rfl) ht)
end F_impl_reduction_reduce
/-! Function slices.ContainsFunc[[]loop.example/instancesearch/impl.Need,loop.example/instancesearch/impl.Need] -/
namespace F_slices_ContainsFunc_L_impl_Need_impl_Need__impl_reduction_reduce_lit1
noncomputable abbrev fn : Func := Go.Proofs.Tryz.f81
def kp : Keeps := []
noncomputable def C (p : List Nat) : Code := (cod fn).sub p
def KR (Q : QT) : KT := retA pg fn.results.toList Q
theorem call (a0 : Pt) (n0 c0 : Nat) (e0 : Bool) (v1x0 v1x1 : AVal) (h : AHeap) (Q : QT) (ht :
 SCall pg n_slices_IndexFunc_L_impl_Need_impl_Need [.slice a0 n0 c0 e0, .fn n_impl_reduction_reduce_lit1 [v1x0, v1x1]] h fun v_0 h_1 =>
 xInt .i64 (some v_0) fun x_2 => Q (.bool (decide ((x_2 : Int) ≥ 0))) h_1) : SCall pg n_slices_ContainsFunc_L_impl_Need_impl_Need [.slice a0 n0 c0 e0, .fn n_impl_reduction_reduce_lit1 [v1x0, v1x1]] h Q :=
  SCall.of_body kp (c := cod fn) (fn := fn) Go.Proofs.Tryz.func81 (by kernel_rfl) (by kernel_rfl) (Nat.le_of_ble_eq_true (by kernel_rfl))
    (@cast _ (den pg fn.ntmps kp (cod fn) (Env.args 0 [.slice a0 n0 c0 e0, .fn n_impl_reduction_reduce_lit1 [v1x0, v1x1]]) h (KR Q)) (by kernel_rfl) ht)
end F_slices_ContainsFunc_L_impl_Need_impl_Need__impl_reduction_reduce_lit1
/-! Function slices.IndexFunc[[]loop.example/instancesearch/impl.Need,loop.example/instancesearch/impl.Need] -/
namespace F_slices_IndexFunc_L_impl_Need_impl_Need__impl_reduction_reduce_lit1
noncomputable abbrev fn : Func := Go.Proofs.Tryz.f118
def kp : Keeps := [(3000002, [4]), (1000002, [0, 1, 7, 8])]
noncomputable def C (p : List Nat) : Code := (cod fn).sub p
def KR (Q : QT) : KT := retA pg fn.results.toList Q
abbrev T2 := Pt → Nat → Nat → Bool → AVal → AVal → Int → Int → AHeap → Prop
def E2 (R2 : T2) (env : Env) (h : AHeap) : Prop := eVal 0 env fun v env => xSl (some v) fun a0 n0 c0 e0 => eVal 1 env fun v env => eFn n_impl_reduction_reduce_lit1 v fun cs => xCons cs fun c cs' => xAny (some c) fun v1x0 => xCons cs' fun c cs'' => xAny (some c) fun v1x1 => xNil cs'' (eVal 7 env fun v env => eInt .i64 v fun x7 => eVal 8 env fun v env => eInt .i64 v fun x8 => eNil env (R2 a0 n0 c0 e0 v1x0 v1x1 x7 x8 h))
theorem E2elim {R2 : T2} {env : Env} {h : AHeap} (hi : E2 R2 env h) : ∃ a0, ∃ n0, ∃ c0, ∃ e0, ∃ v1x0, ∃ v1x1, ∃ x7, ∃ x8, env = [(0, .slice a0 n0 c0 e0), (1, .fn n_impl_reduction_reduce_lit1 [v1x0, v1x1]), (7, .int .i64 x7), (8, .int .i64 x8)] ∧ R2 a0 n0 c0 e0 v1x0 v1x1 x7 x8 h := by
  unfold E2 at hi
  have hi0 := hi
  clear hi
  obtain ⟨v, env, rfl, hi1⟩ := eVal_elim hi0
  obtain ⟨a0, n0, c0, e0, rfl, hi2⟩ := xSl_elim hi1
  obtain ⟨v, env, rfl, hi3⟩ := eVal_elim hi2
  obtain ⟨cs, rfl, hi4⟩ := eFn_elim hi3
  obtain ⟨c, cs', rfl, hi5⟩ := xCons_elim hi4
  obtain ⟨v1x0, hx, hi6⟩ := xAny_elim hi5
  replace hx := (Option.some.inj hx).symm
  subst hx
  obtain ⟨c, cs'', rfl, hi7⟩ := xCons_elim hi6
  obtain ⟨v1x1, hx, hi8⟩ := xAny_elim hi7
  replace hx := (Option.some.inj hx).symm
  subst hx
  obtain ⟨rfl, hi9⟩ := xNil_elim hi8
  obtain ⟨v, env, rfl, hi10⟩ := eVal_elim hi9
  obtain ⟨x7, rfl, hi11⟩ := eInt_elim hi10
  obtain ⟨v, env, rfl, hi12⟩ := eVal_elim hi11
  obtain ⟨x8, rfl, hi13⟩ := eInt_elim hi12
  obtain ⟨rfl, hi14⟩ := eNil_elim hi13
  have hi := hi14
  exact ⟨a0, n0, c0, e0, v1x0, v1x1, x7, x8, rfl, hi⟩
def K0 (Q : QT) : KT := andThen (fun env' h' => (match kp.find 4000007 with | some ks => Den pg fn.ntmps (C [1, 1]) (env'.keep ks) h' (KR Q) | none => den pg fn.ntmps kp (C [1, 1]) env' h' (KR Q))) (KR Q)
def K1 (Q : QT) : KT := onExit 0 (K0 Q)
def K2 (Q : QT) : KT := left kp 2 (K1 Q)
def K3 (Q : QT) (R2 : T2) : KT := rnd ((kp.find 1000002).getD []) (E2 R2) (K2 Q)
def L2 (Q : QT) (a0 : Pt) (n0 c0 : Nat) (e0 : Bool) (v1x0 v1x1 : AVal) (x7 x8 : Int) (h : AHeap) : Prop := Loop (Den pg fn.ntmps (C [1, 0, 1, 0, 0])) ((kp.find 1000002).getD []) (K2 Q) [(0, .slice a0 n0 c0 e0), (1, .fn n_impl_reduction_reduce_lit1 [v1x0, v1x1]), (7, .int .i64 x7), (8, .int .i64 x8)] h
def A2x0 (Q : QT) (h : AHeap) : Prop := At (K1 Q) (.exit 0) [(4, .undef)] h
def L2t (Q : QT) (R2 : T2) (a0 : Pt) (n0 c0 : Nat) (e0 : Bool) (v1x0 v1x1 : AVal) (x7 x8 : Int) (h : AHeap) : Prop :=
 bcase (decide ((x8 : Int) < x7)) ((0 ≤ (x8 : Int) ∧ (x8 : Int) < (n0 : Nat)) ∧ (xSome a0 fun i_0 o_1 => xRow (hRow h (.ptr (some (i_0, o_1 + (Int.toNat x8) * 2))) 2) fun cs_2 => xCons cs_2 fun c_3 r_4 => xStr (some c_3) fun s_5 => xCons r_4 fun c_6 r_7 => xStr (some c_6) fun s_8 => xNil r_7 (SCall pg n_impl_reduction_reduce_lit1 [.agg [.str s_5, .str s_8], v1x0, v1x1] h fun v_9 h_10 =>
 xBool (some v_9) fun b_11 => bcase b_11 (Q (.int .i64 x8) h_10) (R2 a0 n0 c0 e0 v1x0 v1x1 x7 (IntKind.wrap .i64 (x8 + 1)) h_10)))) (A2x0 Q h)
theorem L2den (Q : QT) (R2 : T2) (a0 : Pt) (n0 c0 : Nat) (e0 : Bool) (v1x0 v1x1 : AVal) (x7 x8 : Int) (h : AHeap) (ht : L2t Q R2 a0 n0 c0 e0 v1x0 v1x1 x7 x8 h) : Den pg fn.ntmps (C [1, 0, 1, 0, 0]) [(0, .slice a0 n0 c0 e0), (1, .fn n_impl_reduction_reduce_lit1 [v1x0, v1x1]), (7, .int .i64 x7), (8, .int .i64 x8)] h (K3 Q R2) :=
  den_Den (kp := kp) (@cast _ (den pg fn.ntmps kp (C [1, 0, 1, 0, 0]) [(0, .slice a0 n0 c0 e0), (1, .fn n_impl_reduction_reduce_lit1 [v1x0, v1x1]), (7, .int .i64 x7), (8, .int .i64 x8)] h (K3 Q R2)) (by kernel_rfl) ht)
theorem L2ind (Q : QT) (a0 : Pt) (n0 c0 : Nat) (e0 : Bool) (v1x0 v1x1 : AVal) (x7 : Int) {G : Type} (J : G → Int → AHeap → Prop) (m : G → Nat)
 (hr : ∀ (g : G) (x8 : Int) (h : AHeap), J g x8 h → ∀ (R2 : T2), (∀ g' (x8 : Int) (h : AHeap), m g' < m g → J g' x8 h → R2 a0 n0 c0 e0 v1x0 v1x1 x7 x8 h) → L2t Q R2 a0 n0 c0 e0 v1x0 v1x1 x7 x8 h)
 (g : G) (x8 : Int) (h : AHeap) (hj : J g x8 h) : L2 Q a0 n0 c0 e0 v1x0 v1x1 x7 x8 h := by
  refine Loop.inv2 (fun g => E2 fun a0' n0' c0' e0' v1x0' v1x1' x7' x8 h => a0 = a0' ∧ n0 = n0' ∧ c0 = c0' ∧ e0 = e0' ∧ v1x0 = v1x0' ∧ v1x1 = v1x1' ∧ x7 = x7' ∧ J g x8 h) (fun g => E2 fun a0' n0' c0' e0' v1x0' v1x1' x7' x8 h => a0 = a0' ∧ n0 = n0' ∧ c0 = c0' ∧ e0 = e0' ∧ v1x0 = v1x0' ∧ v1x1 = v1x1' ∧ x7 = x7' ∧ ∃ g', m g' < m g ∧ J g' x8 h) m ?_ ?_ g ⟨rfl, rfl, rfl, rfl, rfl, rfl, rfl, hj⟩
  · intro g env h hi
    obtain ⟨a0', n0', c0', e0', v1x0', v1x1', x7', x8, rfl, rfl, rfl, rfl, rfl, rfl, rfl, rfl, hj⟩ := E2elim hi
    exact L2den Q (fun a0' n0' c0' e0' v1x0' v1x1' x7' x8 h => a0 = a0' ∧ n0 = n0' ∧ c0 = c0' ∧ e0 = e0' ∧ v1x0 = v1x0' ∧ v1x1 = v1x1' ∧ x7 = x7' ∧ ∃ g', m g' < m g ∧ J g' x8 h) a0 n0 c0 e0 v1x0 v1x1 x7 x8 h (hr g x8 h hj (fun a0' n0' c0' e0' v1x0' v1x1' x7' x8 h => a0 = a0' ∧ n0 = n0' ∧ c0 = c0' ∧ e0 = e0' ∧ v1x0 = v1x0' ∧ v1x1 = v1x1' ∧ x7 = x7' ∧ ∃ g', m g' < m g ∧ J g' x8 h) fun g' x8 h hlt hj => ⟨rfl, rfl, rfl, rfl, rfl, rfl, rfl, g', hlt, hj⟩)
  · intro g env h hi
    obtain ⟨a0', n0', c0', e0', v1x0', v1x1', x7', x8, rfl, rfl, rfl, rfl, rfl, rfl, rfl, rfl, g', hlt, hj⟩ := E2elim hi
    exact ⟨g', hlt, rfl, rfl, rfl, rfl, rfl, rfl, rfl, hj⟩
theorem A2x0i (Q : QT) (h : AHeap) (ht :
 Q (.int .i64 (-1)) h) : A2x0 Q h :=
  At.mk (@cast _ ((K1 Q) (.exit 0) [(4, .undef)] h) (by kernel_rfl) ht)
theorem call (a0 : Pt) (n0 c0 : Nat) (e0 : Bool) (v1x0 v1x1 : AVal) (h : AHeap) (Q : QT) (ht :
 L2 Q a0 n0 c0 e0 v1x0 v1x1 (((n0 : Nat) : Int)) 0 h) : SCall pg n_slices_IndexFunc_L_impl_Need_impl_Need [.slice a0 n0 c0 e0, .fn n_impl_reduction_reduce_lit1 [v1x0, v1x1]] h Q :=
  SCall.of_body kp (c := cod fn) (fn := fn) Go.Proofs.Tryz.func118 (by kernel_rfl) (by kernel_rfl) (Nat.le_of_ble_eq_true (by kernel_rfl))
    (@cast _ (den pg fn.ntmps kp (cod fn) (Env.args 0 [.slice a0 n0 c0 e0, .fn n_impl_reduction_reduce_lit1 [v1x0, v1x1]]) h (KR Q)) (by kernel_rfl) ht)
end F_slices_IndexFunc_L_impl_Need_impl_Need__impl_reduction_reduce_lit1
/-! Function (*loop.example/instancesearch/impl.reduction).reduce$1 -/
namespace F_impl_reduction_reduce_lit1
noncomputable abbrev fn : Func := Go.Proofs.Tryz.f82
def kp : Keeps := []
noncomputable def C (p : List Nat) : Code := (cod fn).sub p
def KR (Q : QT) : KT := retA pg fn.results.toList Q
theorem call (x0x0 x0x1 : List Nat) (v1 v2 : AVal) (h : AHeap) (Q : QT) (ht :
 letH (h ++ [.cells t_impl_Need [.str x0x0, .str x0x1] false]) fun h_0 => xPtr (hCell h_0 (v1)) fun a_1 => xRow (hRow h_0 (.ptr (some (List.length h, 0))) 2) fun cs_2 => xCons cs_2 fun c_3 r_4 => xStr (some c_3) fun s_5 => xCons r_4 fun c_6 r_7 => xStr (some c_6) fun s_8 => xNil r_7 (xInt .i64 (hCell h_0 (v2)) fun x_9 => SCall pg n_impl_reduction_reduce [.ptr a_1, .agg [.str s_5, .str s_8], .int .i64 (IntKind.wrap .i64 (x_9 + 1))] h_0 fun v_10 h_11 =>
 xBool (some v_10) fun b_12 => Q (.bool (!b_12)) h_11)) : SCall pg n_impl_reduction_reduce_lit1 [.agg [.str x0x0, .str x0x1], v1, v2] h Q :=
  SCall.of_body kp (c := cod fn) (fn := fn) Go.Proofs.Tryz.func82 (by kernel_rfl) (by kernel_rfl) (Nat.le_of_ble_eq_true (by kernel_rfl))
    (@cast _ (den pg fn.ntmps kp (cod fn) (Env.args 0 [.agg [.str x0x0, .str x0x1], v1, v2]) h (KR Q)) (by kernel_rfl) ht)
end F_impl_reduction_reduce_lit1
end Go.Sim

/- Printed by wip/tool: what the functions' bodies do, in the words of 'den'. -/
set_option maxRecDepth 100000
set_option linter.unusedVariables false
namespace Go.Sim
open Go Go.RowKit
/-! Function loop.example/instancesearch/spec.ApplyBindings -/
namespace F_spec_ApplyBindings
noncomputable abbrev fn : Func := Go.Proofs.Tryz.f59
def kp : Keeps := [(4000004, [0, 6]), (3000006, [8, 6]), (1000006, [6, 8, 26, 27, 28]), (2000008, [28, 27, 26, 8, 6])]
noncomputable def C (p : List Nat) : Code := (cod fn).sub p
def KR (Q : QT) : KT := retA pg fn.results.toList Q
abbrev T6 := Nat → Nat → Nat → Nat → Pt → Nat → Nat → Bool → Int → Int → AHeap → Prop
def E6 (R6 : T6) (env : Env) (h : AHeap) : Prop := eVal 6 env fun v env => xPtr (some v) fun a => xSome a fun i6 o6 => eVal 8 env fun v env => xPtr (some v) fun a => xSome a fun i8 o8 => eVal 26 env fun v env => xSl (some v) fun a26 n26 c26 e26 => eVal 27 env fun v env => eInt .i64 v fun x27 => eVal 28 env fun v env => eInt .i64 v fun x28 => eNil env (R6 i6 o6 i8 o8 a26 n26 c26 e26 x27 x28 h)
theorem E6elim {R6 : T6} {env : Env} {h : AHeap} (hi : E6 R6 env h) : ∃ i6, ∃ o6, ∃ i8, ∃ o8, ∃ a26, ∃ n26, ∃ c26, ∃ e26, ∃ x27, ∃ x28, env = [(6, .ptr (some (i6, o6))), (8, .ptr (some (i8, o8))), (26, .slice a26 n26 c26 e26), (27, .int .i64 x27), (28, .int .i64 x28)] ∧ R6 i6 o6 i8 o8 a26 n26 c26 e26 x27 x28 h := by
  unfold E6 at hi
  have hi0 := hi
  clear hi
  obtain ⟨v, env, rfl, hi1⟩ := eVal_elim hi0
  obtain ⟨a, rfl, hi2⟩ := xPtr_elim hi1
  obtain ⟨i6, o6, rfl, hi3⟩ := xSome_elim hi2
  obtain ⟨v, env, rfl, hi4⟩ := eVal_elim hi3
  obtain ⟨a, rfl, hi5⟩ := xPtr_elim hi4
  obtain ⟨i8, o8, rfl, hi6⟩ := xSome_elim hi5
  obtain ⟨v, env, rfl, hi7⟩ := eVal_elim hi6
  obtain ⟨a26, n26, c26, e26, rfl, hi8⟩ := xSl_elim hi7
  obtain ⟨v, env, rfl, hi9⟩ := eVal_elim hi8
  obtain ⟨x27, rfl, hi10⟩ := eInt_elim hi9
  obtain ⟨v, env, rfl, hi11⟩ := eVal_elim hi10
  obtain ⟨x28, rfl, hi12⟩ := eInt_elim hi11
  obtain ⟨rfl, hi13⟩ := eNil_elim hi12
  have hi := hi13
  exact ⟨i6, o6, i8, o8, a26, n26, c26, e26, x27, x28, rfl, hi⟩
def K0 (Q : QT) : KT := andThen (fun env' h' => (match kp.find 4000010 with | some ks => Den pg fn.ntmps (C [1, 1, 1, 1, 1]) (env'.keep ks) h' (KR Q) | none => den pg fn.ntmps kp (C [1, 1, 1, 1, 1]) env' h' (KR Q))) (KR Q)
def K1 (Q : QT) : KT := onExit 0 (K0 Q)
def K2 (Q : QT) : KT := left kp 6 (K1 Q)
def K3 (Q : QT) (R6 : T6) : KT := rnd ((kp.find 1000006).getD []) (E6 R6) (K2 Q)
def J4 (Q : QT) (a0 : Pt) (n0 c0 : Nat) (e0 : Bool) (i6 o6 : Nat) (h : AHeap) : Prop := Den pg fn.ntmps (C [1, 1, 1]) [(0, .slice a0 n0 c0 e0), (6, .ptr (some (i6, o6)))] h (KR Q)
def L6 (Q : QT) (i6 o6 i8 o8 : Nat) (a26 : Pt) (n26 c26 : Nat) (e26 : Bool) (x27 x28 : Int) (h : AHeap) : Prop := Loop (Den pg fn.ntmps (C [1, 1, 1, 1, 0, 1, 0, 0])) ((kp.find 1000006).getD []) (K2 Q) [(6, .ptr (some (i6, o6))), (8, .ptr (some (i8, o8))), (26, .slice a26 n26 c26 e26), (27, .int .i64 x27), (28, .int .i64 x28)] h
def A6x0 (Q : QT) (i8 o8 i6 o6 : Nat) (h : AHeap) : Prop := At (K1 Q) (.exit 0) [(8, .ptr (some (i8, o8))), (6, .ptr (some (i6, o6)))] h
theorem J4i (Q : QT) (a0 : Pt) (n0 c0 : Nat) (e0 : Bool) (i6 o6 : Nat) (h : AHeap) (ht :
 letH (h ++ [.cells t_spec_l2Map [.int .u8 0, .slice none 0 0 true, .int .u8 0, .slice none 0 0 true, .int .u8 0, .slice none 0 0 true, .int .u8 0, .slice none 0 0 true, .int .u8 0, .slice none 0 0 true, .int .u8 0, .slice none 0 0 true, .int .u8 0, .slice none 0 0 true, .int .u8 0, .slice none 0 0 true, .int .u8 0, .slice none 0 0 true, .int .u8 0, .slice none 0 0 true, .int .u8 0, .slice none 0 0 true, .int .u8 0, .slice none 0 0 true] false]) fun h_23 => L6 Q i6 o6 (List.length h) 0 a0 n0 c0 e0 (((n0 : Nat) : Int)) 0 h_23) : J4 Q a0 n0 c0 e0 i6 o6 h :=
  den_Den (kp := kp) (@cast _ (den pg fn.ntmps kp (C [1, 1, 1]) [(0, .slice a0 n0 c0 e0), (6, .ptr (some (i6, o6)))] h (KR Q)) (by kernel_rfl) ht)
def L6t (Q : QT) (R6 : T6) (i6 o6 i8 o8 : Nat) (a26 : Pt) (n26 c26 : Nat) (e26 : Bool) (x27 x28 : Int) (h : AHeap) : Prop :=
 bcase (decide ((x28 : Int) < x27)) ((0 ≤ (x28 : Int) ∧ (x28 : Int) < (n26 : Nat)) ∧ (xSome a26 fun i_24 o_25 => xRow (hRow h (.ptr (some (i_24, o_25 + (Int.toNat x28) * 2))) 2) fun cs_26 => xCons cs_26 fun c_27 r_28 => xStr (some c_27) fun s_29 => xCons r_28 fun c_30 r_31 => xStr (some c_30) fun s_32 => xNil r_31 (letH (h ++ [.cells t_impl_Binding [.str [], .str []] false]) fun h_33 => xHeap (hStore h_33 (.ptr (some (List.length h, 0))) [.str s_29, .str s_32]) fun h_34 => xStr (hCell h_34 (.ptr (some (List.length h, 0 + 0)))) fun s_35 => byteAt s_35 0 fun b_36 => xStr (hCell h_34 (.ptr (some (List.length h, 0 + 1)))) fun s_37 => SCall pg n_spec_l2Index [.int .u8 (((b_36 : Nat) : Int))] h_34 fun v_38 h_39 =>
 xInt .i64 (some v_38) fun x_40 => (hCell h_39 (.ptr (some (List.length h, 0 + 1))) = hCell h_34 (.ptr (some (List.length h, 0 + 1)))) ∧ (hCell h_39 (.ptr (some (List.length h, 0 + 0))) = hCell h_34 (.ptr (some (List.length h, 0 + 0)))) ∧ SCall pg n_spec_l1Read [.str s_37] h_39 fun v_41 h_42 =>
 xTup v_41 fun cs_43 => xCons cs_43 fun c_44 r_45 => xAgg c_44 fun cs_46 => xCons cs_46 fun c_47 r_48 => xInt .u8 (some c_47) fun x_49 => xCons r_48 fun c_50 r_51 => xSl (some c_50) fun a_52 n_53 c_54 e_55 => xNil r_51 (xCons r_45 fun c_56 r_57 => xBool (some c_56) fun b_58 => xNil r_57 ((hCell h_42 (.ptr (some (List.length h, 0 + 0))) = hCell h_39 (.ptr (some (List.length h, 0 + 0)))) ∧ (0 ≤ (x_40 : Int) ∧ (x_40 : Int) < (12 : Nat)) ∧ (xHeap (hStore h_42 (.ptr (some (i8, o8 + (Int.toNat x_40) * 2))) [.int .u8 x_49, .slice a_52 n_53 c_54 e_55]) fun h_59 => R6 i6 o6 i8 o8 a26 n26 c26 e26 x27 (IntKind.wrap .i64 (x28 + 1)) h_59)))))) (A6x0 Q i8 o8 i6 o6 h)
theorem L6den (Q : QT) (R6 : T6) (i6 o6 i8 o8 : Nat) (a26 : Pt) (n26 c26 : Nat) (e26 : Bool) (x27 x28 : Int) (h : AHeap) (ht : L6t Q R6 i6 o6 i8 o8 a26 n26 c26 e26 x27 x28 h) : Den pg fn.ntmps (C [1, 1, 1, 1, 0, 1, 0, 0]) [(6, .ptr (some (i6, o6))), (8, .ptr (some (i8, o8))), (26, .slice a26 n26 c26 e26), (27, .int .i64 x27), (28, .int .i64 x28)] h (K3 Q R6) :=
  den_Den (kp := kp) (@cast _ (den pg fn.ntmps kp (C [1, 1, 1, 1, 0, 1, 0, 0]) [(6, .ptr (some (i6, o6))), (8, .ptr (some (i8, o8))), (26, .slice a26 n26 c26 e26), (27, .int .i64 x27), (28, .int .i64 x28)] h (K3 Q R6)) (by kernel_rfl) ht)
theorem L6ind (Q : QT) (i6 o6 i8 o8 : Nat) (a26 : Pt) (n26 c26 : Nat) (e26 : Bool) (x27 : Int) {G : Type} (J : G → Int → AHeap → Prop) (m : G → Nat)
 (hr : ∀ (g : G) (x28 : Int) (h : AHeap), J g x28 h → ∀ (R6 : T6), (∀ g' (x28 : Int) (h : AHeap), m g' < m g → J g' x28 h → R6 i6 o6 i8 o8 a26 n26 c26 e26 x27 x28 h) → L6t Q R6 i6 o6 i8 o8 a26 n26 c26 e26 x27 x28 h)
 (g : G) (x28 : Int) (h : AHeap) (hj : J g x28 h) : L6 Q i6 o6 i8 o8 a26 n26 c26 e26 x27 x28 h := by
  refine Loop.inv2 (fun g => E6 fun i6' o6' i8' o8' a26' n26' c26' e26' x27' x28 h => i6 = i6' ∧ o6 = o6' ∧ i8 = i8' ∧ o8 = o8' ∧ a26 = a26' ∧ n26 = n26' ∧ c26 = c26' ∧ e26 = e26' ∧ x27 = x27' ∧ J g x28 h) (fun g => E6 fun i6' o6' i8' o8' a26' n26' c26' e26' x27' x28 h => i6 = i6' ∧ o6 = o6' ∧ i8 = i8' ∧ o8 = o8' ∧ a26 = a26' ∧ n26 = n26' ∧ c26 = c26' ∧ e26 = e26' ∧ x27 = x27' ∧ ∃ g', m g' < m g ∧ J g' x28 h) m ?_ ?_ g ⟨rfl, rfl, rfl, rfl, rfl, rfl, rfl, rfl, rfl, hj⟩
  · intro g env h hi
    obtain ⟨i6', o6', i8', o8', a26', n26', c26', e26', x27', x28, rfl, rfl, rfl, rfl, rfl, rfl, rfl, rfl, rfl, rfl, hj⟩ := E6elim hi
    exact L6den Q (fun i6' o6' i8' o8' a26' n26' c26' e26' x27' x28 h => i6 = i6' ∧ o6 = o6' ∧ i8 = i8' ∧ o8 = o8' ∧ a26 = a26' ∧ n26 = n26' ∧ c26 = c26' ∧ e26 = e26' ∧ x27 = x27' ∧ ∃ g', m g' < m g ∧ J g' x28 h) i6 o6 i8 o8 a26 n26 c26 e26 x27 x28 h (hr g x28 h hj (fun i6' o6' i8' o8' a26' n26' c26' e26' x27' x28 h => i6 = i6' ∧ o6 = o6' ∧ i8 = i8' ∧ o8 = o8' ∧ a26 = a26' ∧ n26 = n26' ∧ c26 = c26' ∧ e26 = e26' ∧ x27 = x27' ∧ ∃ g', m g' < m g ∧ J g' x28 h) fun g' x28 h hlt hj => ⟨rfl, rfl, rfl, rfl, rfl, rfl, rfl, rfl, rfl, g', hlt, hj⟩)
  · intro g env h hi
    obtain ⟨i6', o6', i8', o8', a26', n26', c26', e26', x27', x28, rfl, rfl, rfl, rfl, rfl, rfl, rfl, rfl, rfl, rfl, g', hlt, hj⟩ := E6elim hi
    exact ⟨g', hlt, rfl, rfl, rfl, rfl, rfl, rfl, rfl, rfl, rfl, hj⟩
theorem A6x0i (Q : QT) (i8 o8 i6 o6 : Nat) (h : AHeap) (ht :
 xRow (hRow h (.ptr (some (i6, o6))) 2) fun cs_60 => xCons cs_60 fun c_61 r_62 => xInt .u8 (some c_61) fun x_63 => xCons r_62 fun c_64 r_65 => xSl (some c_64) fun a_66 n_67 c_68 e_69 => xNil r_65 (SCall pg n_spec_l2Put [.ptr (some (i8, o8)), .agg [.int .u8 x_63, .slice a_66 n_67 c_68 e_69]] h fun v_70 h_71 =>
 xAgg v_70 fun cs_72 => xCons cs_72 fun c_73 r_74 => xInt .u8 (some c_73) fun x_75 => xCons r_74 fun c_76 r_77 => xSl (some c_76) fun a_78 n_79 c_80 e_81 => xNil r_77 (letH (h_71 ++ [.cells t_spec_l1Node [.int .u8 0, .slice none 0 0 true] false]) fun h_82 => xHeap (hStore h_82 (.ptr (some (List.length h_71, 0))) [.int .u8 x_75, .slice a_78 n_79 c_80 e_81]) fun h_83 => xRow (hRow h_83 (.ptr (some (List.length h_71, 0))) 2) fun cs_84 => xCons cs_84 fun c_85 r_86 => xInt .u8 (some c_85) fun x_87 => xCons r_86 fun c_88 r_89 => xSl (some c_88) fun a_90 n_91 c_92 e_93 => xNil r_89 (SCall pg n_spec_l2Length [.agg [.int .u8 x_87, .slice a_90 n_91 c_92 e_93]] h_83 fun v_94 h_95 =>
 xInt .i64 (some v_94) fun x_96 => bcase (decide ((x_96 : Int) > 60)) (Q (.tup [.str [], .bool false]) h_95) (xRow (hRow h_95 (.ptr (some (List.length h_71, 0))) 2) fun cs_97 => xCons cs_97 fun c_98 r_99 => xInt .u8 (some c_98) fun x_100 => xCons r_99 fun c_101 r_102 => xSl (some c_101) fun a_103 n_104 c_105 e_106 => xNil r_102 (SCall pg n_spec_l1Text [.agg [.int .u8 x_100, .slice a_103 n_104 c_105 e_106]] h_95 fun v_107 h_108 =>
 xStr (some v_107) fun s_109 => Q (.tup [.str s_109, .bool true]) h_108)))))) : A6x0 Q i8 o8 i6 o6 h :=
  At.mk (@cast _ ((K1 Q) (.exit 0) [(8, .ptr (some (i8, o8))), (6, .ptr (some (i6, o6)))] h) (by kernel_rfl) ht)
theorem call (a0 : Pt) (n0 c0 : Nat) (e0 : Bool) (x1 : List Nat) (h : AHeap) (Q : QT) (ht :
 SCall pg n_spec_l1Read [.str x1] h fun v_0 h_1 =>
 xTup v_0 fun cs_2 => xCons cs_2 fun c_3 r_4 => xAgg c_3 fun cs_5 => xCons cs_5 fun c_6 r_7 => xInt .u8 (some c_6) fun x_8 => xCons r_7 fun c_9 r_10 => xSl (some c_9) fun a_11 n_12 c_13 e_14 => xNil r_10 (xCons r_4 fun c_15 r_16 => xBool (some c_15) fun b_17 => xNil r_16 (letH (h_1 ++ [.cells t_spec_l1Node [.int .u8 0, .slice none 0 0 true] false]) fun h_18 => xHeap (hStore h_18 (.ptr (some (List.length h_1, 0))) [.int .u8 x_8, .slice a_11 n_12 c_13 e_14]) fun h_19 => bcase (!b_17) (Q (.tup [.str [], .bool false]) h_19) (SCall pg n_spec_BindingsValid [.slice a0 n0 c0 e0] h_19 fun v_20 h_21 =>
 xBool (some v_20) fun b_22 => bcase (!b_22) (Q (.tup [.str [], .bool false]) h_21) (J4 Q a0 n0 c0 e0 (List.length h_1) 0 h_21))))) : SCall pg n_spec_ApplyBindings [.slice a0 n0 c0 e0, .str x1] h Q :=
  SCall.of_body kp (c := cod fn) (fn := fn) Go.Proofs.Tryz.func59 (by kernel_rfl) (by kernel_rfl) (Nat.le_of_ble_eq_true (by kernel_rfl))
    (@cast _ (den pg fn.ntmps kp (cod fn) (Env.args 0 [.slice a0 n0 c0 e0, .str x1]) h (KR Q)) (by kernel_rfl) ht)
end F_spec_ApplyBindings
/-! Function loop.example/instancesearch/spec.l4Needs -/
namespace F_spec_l4Needs
noncomputable abbrev fn : Func := Go.Proofs.Tryz.f30
def kp : Keeps := [(3000006, [6, 4, 5]), (1000006, [6, 7, 26, 27, 28])]
noncomputable def C (p : List Nat) : Code := (cod fn).sub p
def KR (Q : QT) : KT := retA pg fn.results.toList Q
abbrev T6 := Pt → Nat → Nat → Bool → Pt → Nat → Nat → Bool → Pt → Nat → Nat → Bool → Int → Int → AHeap → Prop
def E6 (R6 : T6) (env : Env) (h : AHeap) : Prop := eVal 6 env fun v env => xSl (some v) fun a6 n6 c6 e6 => eVal 7 env fun v env => xSl (some v) fun a7 n7 c7 e7 => eVal 26 env fun v env => xSl (some v) fun a26 n26 c26 e26 => eVal 27 env fun v env => eInt .i64 v fun x27 => eVal 28 env fun v env => eInt .i64 v fun x28 => eNil env (R6 a6 n6 c6 e6 a7 n7 c7 e7 a26 n26 c26 e26 x27 x28 h)
theorem E6elim {R6 : T6} {env : Env} {h : AHeap} (hi : E6 R6 env h) : ∃ a6, ∃ n6, ∃ c6, ∃ e6, ∃ a7, ∃ n7, ∃ c7, ∃ e7, ∃ a26, ∃ n26, ∃ c26, ∃ e26, ∃ x27, ∃ x28, env = [(6, .slice a6 n6 c6 e6), (7, .slice a7 n7 c7 e7), (26, .slice a26 n26 c26 e26), (27, .int .i64 x27), (28, .int .i64 x28)] ∧ R6 a6 n6 c6 e6 a7 n7 c7 e7 a26 n26 c26 e26 x27 x28 h := by
  unfold E6 at hi
  have hi0 := hi
  clear hi
  obtain ⟨v, env, rfl, hi1⟩ := eVal_elim hi0
  obtain ⟨a6, n6, c6, e6, rfl, hi2⟩ := xSl_elim hi1
  obtain ⟨v, env, rfl, hi3⟩ := eVal_elim hi2
  obtain ⟨a7, n7, c7, e7, rfl, hi4⟩ := xSl_elim hi3
  obtain ⟨v, env, rfl, hi5⟩ := eVal_elim hi4
  obtain ⟨a26, n26, c26, e26, rfl, hi6⟩ := xSl_elim hi5
  obtain ⟨v, env, rfl, hi7⟩ := eVal_elim hi6
  obtain ⟨x27, rfl, hi8⟩ := eInt_elim hi7
  obtain ⟨v, env, rfl, hi9⟩ := eVal_elim hi8
  obtain ⟨x28, rfl, hi10⟩ := eInt_elim hi9
  obtain ⟨rfl, hi11⟩ := eNil_elim hi10
  have hi := hi11
  exact ⟨a6, n6, c6, e6, a7, n7, c7, e7, a26, n26, c26, e26, x27, x28, rfl, hi⟩
def K0 (Q : QT) : KT := andThen (fun env' h' => (match kp.find 4000013 with | some ks => Den pg fn.ntmps (C [1, 1, 1, 1, 1]) (env'.keep ks) h' (KR Q) | none => den pg fn.ntmps kp (C [1, 1, 1, 1, 1]) env' h' (KR Q))) (KR Q)
def K1 (Q : QT) : KT := onExit 0 (K0 Q)
def K2 (Q : QT) : KT := left kp 6 (K1 Q)
def K3 (Q : QT) (R6 : T6) : KT := rnd ((kp.find 1000006).getD []) (E6 R6) (K2 Q)
def L6 (Q : QT) (a6 : Pt) (n6 c6 : Nat) (e6 : Bool) (a7 : Pt) (n7 c7 : Nat) (e7 : Bool) (a26 : Pt) (n26 c26 : Nat) (e26 : Bool) (x27 x28 : Int) (h : AHeap) : Prop := Loop (Den pg fn.ntmps (C [1, 1, 1, 1, 0, 1, 0, 0])) ((kp.find 1000006).getD []) (K2 Q) [(6, .slice a6 n6 c6 e6), (7, .slice a7 n7 c7 e7), (26, .slice a26 n26 c26 e26), (27, .int .i64 x27), (28, .int .i64 x28)] h
def A6x0 (Q : QT) (a6 : Pt) (n6 c6 : Nat) (e6 : Bool) (h : AHeap) : Prop := At (K1 Q) (.exit 0) [(6, .slice a6 n6 c6 e6), (4, .undef), (5, .undef)] h
def L6t (Q : QT) (R6 : T6) (a6 : Pt) (n6 c6 : Nat) (e6 : Bool) (a7 : Pt) (n7 c7 : Nat) (e7 : Bool) (a26 : Pt) (n26 c26 : Nat) (e26 : Bool) (x27 x28 : Int) (h : AHeap) : Prop :=
 bcase (decide ((x28 : Int) < x27)) ((0 ≤ (x28 : Int) ∧ (x28 : Int) < (n26 : Nat)) ∧ (xSome a26 fun i_19 o_20 => xRow (hRow h (.ptr (some (i_19, o_20 + (Int.toNat x28) * 2))) 2) fun cs_21 => xCons cs_21 fun c_22 r_23 => xStr (some c_22) fun s_24 => xCons r_23 fun c_25 r_26 => xStr (some c_25) fun s_27 => xNil r_26 (letH (h ++ [.cells t_impl_Need [.str [], .str []] false]) fun h_28 => xHeap (hStore h_28 (.ptr (some (List.length h, 0))) [.str s_24, .str s_27]) fun h_29 => xStr (hCell h_29 (.ptr (some (List.length h, 0 + 1)))) fun s_30 => SCall pg n_spec_ApplyBindings [.slice a7 n7 c7 e7, .str s_30] h_29 fun v_31 h_32 =>
 xTup v_31 fun cs_33 => xCons cs_33 fun c_34 r_35 => xStr (some c_34) fun s_36 => xCons r_35 fun c_37 r_38 => xBool (some c_37) fun b_39 => xNil r_38 (bcase (!b_39) (letH (h_32 ++ [.cells t_impl_Need [] false]) fun h_40 => Q (.tup [.slice (some (List.length h_32, 0)) 0 0 true, .bool false]) h_40) (xStr (hCell h_32 (.ptr (some (List.length h, 0 + 0)))) fun s_41 => letH (h_32 ++ [.cells t_impl_Need [.str s_41, .str s_36] false]) fun h_42 => appendA pg t_L_impl_Need h_42 (.slice a6 n6 c6 e6) (.slice (some (List.length h_32, 0)) 1 1 true) fun v_43 h_44 => xSl (some v_43) fun a_45 n_46 c_47 e_48 => R6 a_45 n_46 c_47 e_48 a7 n7 c7 e7 a26 n26 c26 e26 x27 (IntKind.wrap .i64 (x28 + 1)) h_44))))) (A6x0 Q a6 n6 c6 e6 h)
theorem L6den (Q : QT) (R6 : T6) (a6 : Pt) (n6 c6 : Nat) (e6 : Bool) (a7 : Pt) (n7 c7 : Nat) (e7 : Bool) (a26 : Pt) (n26 c26 : Nat) (e26 : Bool) (x27 x28 : Int) (h : AHeap) (ht : L6t Q R6 a6 n6 c6 e6 a7 n7 c7 e7 a26 n26 c26 e26 x27 x28 h) : Den pg fn.ntmps (C [1, 1, 1, 1, 0, 1, 0, 0]) [(6, .slice a6 n6 c6 e6), (7, .slice a7 n7 c7 e7), (26, .slice a26 n26 c26 e26), (27, .int .i64 x27), (28, .int .i64 x28)] h (K3 Q R6) :=
  den_Den (kp := kp) (@cast _ (den pg fn.ntmps kp (C [1, 1, 1, 1, 0, 1, 0, 0]) [(6, .slice a6 n6 c6 e6), (7, .slice a7 n7 c7 e7), (26, .slice a26 n26 c26 e26), (27, .int .i64 x27), (28, .int .i64 x28)] h (K3 Q R6)) (by kernel_rfl) ht)
theorem L6ind (Q : QT) (a7 : Pt) (n7 c7 : Nat) (e7 : Bool) (a26 : Pt) (n26 c26 : Nat) (e26 : Bool) (x27 : Int) {G : Type} (J : G → Pt → Nat → Nat → Bool → Int → AHeap → Prop) (m : G → Nat)
 (hr : ∀ (g : G) (a6 : Pt) (n6 c6 : Nat) (e6 : Bool) (x28 : Int) (h : AHeap), J g a6 n6 c6 e6 x28 h → ∀ (R6 : T6), (∀ g' (a6 : Pt) (n6 c6 : Nat) (e6 : Bool) (x28 : Int) (h : AHeap), m g' < m g → J g' a6 n6 c6 e6 x28 h → R6 a6 n6 c6 e6 a7 n7 c7 e7 a26 n26 c26 e26 x27 x28 h) → L6t Q R6 a6 n6 c6 e6 a7 n7 c7 e7 a26 n26 c26 e26 x27 x28 h)
 (g : G) (a6 : Pt) (n6 c6 : Nat) (e6 : Bool) (x28 : Int) (h : AHeap) (hj : J g a6 n6 c6 e6 x28 h) : L6 Q a6 n6 c6 e6 a7 n7 c7 e7 a26 n26 c26 e26 x27 x28 h := by
  refine Loop.inv2 (fun g => E6 fun a6 n6 c6 e6 a7' n7' c7' e7' a26' n26' c26' e26' x27' x28 h => a7 = a7' ∧ n7 = n7' ∧ c7 = c7' ∧ e7 = e7' ∧ a26 = a26' ∧ n26 = n26' ∧ c26 = c26' ∧ e26 = e26' ∧ x27 = x27' ∧ J g a6 n6 c6 e6 x28 h) (fun g => E6 fun a6 n6 c6 e6 a7' n7' c7' e7' a26' n26' c26' e26' x27' x28 h => a7 = a7' ∧ n7 = n7' ∧ c7 = c7' ∧ e7 = e7' ∧ a26 = a26' ∧ n26 = n26' ∧ c26 = c26' ∧ e26 = e26' ∧ x27 = x27' ∧ ∃ g', m g' < m g ∧ J g' a6 n6 c6 e6 x28 h) m ?_ ?_ g ⟨rfl, rfl, rfl, rfl, rfl, rfl, rfl, rfl, rfl, hj⟩
  · intro g env h hi
    obtain ⟨a6, n6, c6, e6, a7', n7', c7', e7', a26', n26', c26', e26', x27', x28, rfl, rfl, rfl, rfl, rfl, rfl, rfl, rfl, rfl, rfl, hj⟩ := E6elim hi
    exact L6den Q (fun a6 n6 c6 e6 a7' n7' c7' e7' a26' n26' c26' e26' x27' x28 h => a7 = a7' ∧ n7 = n7' ∧ c7 = c7' ∧ e7 = e7' ∧ a26 = a26' ∧ n26 = n26' ∧ c26 = c26' ∧ e26 = e26' ∧ x27 = x27' ∧ ∃ g', m g' < m g ∧ J g' a6 n6 c6 e6 x28 h) a6 n6 c6 e6 a7 n7 c7 e7 a26 n26 c26 e26 x27 x28 h (hr g a6 n6 c6 e6 x28 h hj (fun a6 n6 c6 e6 a7' n7' c7' e7' a26' n26' c26' e26' x27' x28 h => a7 = a7' ∧ n7 = n7' ∧ c7 = c7' ∧ e7 = e7' ∧ a26 = a26' ∧ n26 = n26' ∧ c26 = c26' ∧ e26 = e26' ∧ x27 = x27' ∧ ∃ g', m g' < m g ∧ J g' a6 n6 c6 e6 x28 h) fun g' a6 n6 c6 e6 x28 h hlt hj => ⟨rfl, rfl, rfl, rfl, rfl, rfl, rfl, rfl, rfl, g', hlt, hj⟩)
  · intro g env h hi
    obtain ⟨a6, n6, c6, e6, a7', n7', c7', e7', a26', n26', c26', e26', x27', x28, rfl, rfl, rfl, rfl, rfl, rfl, rfl, rfl, rfl, rfl, g', hlt, hj⟩ := E6elim hi
    exact ⟨g', hlt, rfl, rfl, rfl, rfl, rfl, rfl, rfl, rfl, rfl, hj⟩
theorem A6x0i (Q : QT) (a6 : Pt) (n6 c6 : Nat) (e6 : Bool) (h : AHeap) (ht :
 Q (.tup [.slice a6 n6 c6 e6, .bool true]) h) : A6x0 Q a6 n6 c6 e6 h :=
  At.mk (@cast _ ((K1 Q) (.exit 0) [(6, .slice a6 n6 c6 e6), (4, .undef), (5, .undef)] h) (by kernel_rfl) ht)
theorem call (x0x0 x0x1 : List Nat) (a0x2 : Pt) (n0x2 c0x2 : Nat) (e0x2 : Bool) (x1 : List Nat) (h : AHeap) (Q : QT) (ht :
 letH (h ++ [.cells t_impl_Instance [.str x0x0, .str x0x1, .slice a0x2 n0x2 c0x2 e0x2] false]) fun h_0 => letH (h_0 ++ [.cells t_impl_Need [] false]) fun h_1 => xStr (hCell h_1 (.ptr (some (List.length h, 0 + 0 + 1)))) fun s_2 => SCall pg n_spec_MatchType [.str s_2, .str x1] h_1 fun v_3 h_4 =>
 xTup v_3 fun cs_5 => xCons cs_5 fun c_6 r_7 => xSl (some c_6) fun a_8 n_9 c_10 e_11 => xCons r_7 fun c_12 r_13 => xBool (some c_12) fun b_14 => xNil r_13 (bcase (!b_14) (Q (.tup [.slice (some (List.length h_0, 0)) 0 0 true, .bool false]) h_4) (xSl (hCell h_4 (.ptr (some (List.length h, 0 + 2)))) fun a_15 n_16 c_17 e_18 => L6 Q (some (List.length h_0, 0)) 0 0 true a_8 n_9 c_10 e_11 a_15 n_16 c_17 e_18 (((n_16 : Nat) : Int)) 0 h_4))) : SCall pg n_spec_l4Needs [.agg [.str x0x0, .str x0x1, .slice a0x2 n0x2 c0x2 e0x2], .str x1] h Q :=
  SCall.of_body kp (c := cod fn) (fn := fn) Go.Proofs.Tryz.func30 (by kernel_rfl) (by kernel_rfl) (Nat.le_of_ble_eq_true (by kernel_rfl))
    (@cast _ (den pg fn.ntmps kp (cod fn) (Env.args 0 [.agg [.str x0x0, .str x0x1, .slice a0x2 n0x2 c0x2 e0x2], .str x1]) h (KR Q)) (by kernel_rfl) ht)
end F_spec_l4Needs
/-! Function loop.example/instancesearch/impl.NeedsOf -/
/-! Function loop.example/instancesearch/spec.NeedsOf -/
end Go.Sim
