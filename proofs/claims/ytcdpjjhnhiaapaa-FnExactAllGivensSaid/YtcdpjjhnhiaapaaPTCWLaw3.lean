/- A part of the proof of a statement of this seat: see the text that holds the theorem. No condition. -/
import Derived.Test.YtcdpjjhnhiaapaaNm
set_option linter.unusedVariables false
set_option linter.unusedSimpArgs false
set_option linter.all false
/- Printed by wip/tool: what the functions' bodies do, in the words of 'den'. -/
set_option maxRecDepth 100000
set_option linter.unusedVariables false
namespace Go.Sim
open Go Go.RowKit
/-! Function loop.example/instancesearch/laws.FnExactAllGivens -/
namespace F_laws_FnExactAllGivens
noncomputable abbrev fn : Func := Go.Proofs.Try.f8
def kp : Keeps := [(4000014, [8, 2, 9, 1, 10, 6, 11, 7]), (2000014, [58, 9, 1, 8, 10, 6, 11, 7, 2]), (4000023, [10, 2, 1, 6, 7]), (4000034, [10, 13])]
noncomputable def C (p : List Nat) : Code := (cod fn).sub p
def KR (Q : QT) : KT := retA pg fn.results.toList Q
def J14 (Q : QT) (i8 o8 i2 o2 : Nat) (a9 : Pt) (n9 c9 : Nat) (e9 : Bool) (a1 : Pt) (n1 c1 : Nat) (e1 : Bool) (a10 : Pt) (n10 c10 : Nat) (e10 : Bool) (a6 : Pt) (n6 c6 : Nat) (e6 x11 x7 : Bool) (h : AHeap) : Prop := Den pg fn.ntmps (C [1, 1, 1, 1, 1, 1, 1, 1, 1, 1, 1]) [(8, .ptr (some (i8, o8))), (2, .ptr (some (i2, o2))), (9, .slice a9 n9 c9 e9), (1, .slice a1 n1 c1 e1), (10, .slice a10 n10 c10 e10), (6, .slice a6 n6 c6 e6), (11, .bool x11), (7, .bool x7)] h (KR Q)
def J23 (Q : QT) (a10 : Pt) (n10 c10 : Nat) (e10 : Bool) (i2 o2 : Nat) (a1 : Pt) (n1 c1 : Nat) (e1 : Bool) (a6 : Pt) (n6 c6 : Nat) (e6 x7 : Bool) (h : AHeap) : Prop := Den pg fn.ntmps (C [1, 1, 1, 1, 1, 1, 1, 1, 1, 1, 1, 1, 1, 1, 1, 1, 1]) [(10, .slice a10 n10 c10 e10), (2, .ptr (some (i2, o2))), (1, .slice a1 n1 c1 e1), (6, .slice a6 n6 c6 e6), (7, .bool x7)] h (KR Q)
def J34 (Q : QT) (a10 : Pt) (n10 c10 : Nat) (e10 : Bool) (x13 : Int) (h : AHeap) : Prop := Den pg fn.ntmps (C [1, 1, 1, 1, 1, 1, 1, 1, 1, 1, 1, 1, 1, 1, 1, 1, 1, 1, 1, 1, 1, 1, 1, 1, 1]) [(10, .slice a10 n10 c10 e10), (13, .int .i64 x13)] h (KR Q)
theorem J14i (Q : QT) (i8 o8 i2 o2 : Nat) (a9 : Pt) (n9 c9 : Nat) (e9 : Bool) (a1 : Pt) (n1 c1 : Nat) (e1 : Bool) (a10 : Pt) (n10 c10 : Nat) (e10 : Bool) (a6 : Pt) (n6 c6 : Nat) (e6 x11 x7 : Bool) (h : AHeap) (ht :
 xRow (hRow h (.ptr (some (i8, o8))) 2) fun cs_130 => xCons cs_130 fun c_131 r_132 => xSl (some c_131) fun a_133 n_134 c_135 e_136 => xCons r_132 fun c_137 r_138 => xSl (some c_137) fun a_139 n_140 c_141 e_142 => xNil r_138 (xRow (hRow h (.ptr (some (i2, o2))) 2) fun cs_143 => xCons cs_143 fun c_144 r_145 => xSl (some c_144) fun a_146 n_147 c_148 e_149 => xCons r_145 fun c_150 r_151 => xSl (some c_150) fun a_152 n_153 c_154 e_155 => xNil r_151 ((hRow h (.ptr (some (i8, o8))) 2 = hRow h (.ptr (some (i8, o8))) 2) ∧ SCall pg n_laws_toWorld [.agg [.slice a_146 n_147 c_148 e_149, .slice a_152 n_153 c_154 e_155]] h fun v_156 h_157 =>
 xAgg v_156 fun cs_158 => xCons cs_158 fun c_159 r_160 => xSl (some c_159) fun a_161 n_162 c_163 e_164 => xCons r_160 fun c_165 r_166 => xSl (some c_165) fun a_167 n_168 c_169 e_170 => xNil r_166 ((hRow h_157 (.ptr (some (i8, o8))) 2 = hRow h (.ptr (some (i8, o8))) 2) ∧ SCall pg n_laws_eqWorld [.agg [.slice a_133 n_134 c_135 e_136, .slice a_139 n_140 c_141 e_142], .agg [.slice a_161 n_162 c_163 e_164, .slice a_167 n_168 c_169 e_170]] h_157 fun v_171 h_172 =>
 xBool (some v_171) fun b_173 => bcase (!b_173) (Q (.bool false) h_172) (SCall pg n_laws_toNeedS [.slice a1 n1 c1 e1] h_172 fun v_174 h_175 =>
 xSl (some v_174) fun a_176 n_177 c_178 e_179 => SCall pg n_laws_eqNeedS [.slice a9 n9 c9 e9, .slice a_176 n_177 c_178 e_179] h_175 fun v_180 h_181 =>
 xBool (some v_180) fun b_182 => bcase (!b_182) (Q (.bool false) h_181) (xRow (hRow h_181 (.ptr (some (i8, o8))) 2) fun cs_183 => xCons cs_183 fun c_184 r_185 => xSl (some c_184) fun a_186 n_187 c_188 e_189 => xCons r_185 fun c_190 r_191 => xSl (some c_190) fun a_192 n_193 c_194 e_195 => xNil r_191 (SCall pg n_laws_markWorld [.agg [.slice a_186 n_187 c_188 e_189, .slice a_192 n_193 c_194 e_195], .int .i64 1] h_181 fun v_196 h_197 =>
 xInt .i64 (some v_196) fun x_198 => SCall pg n_laws_markNeedS [.slice a9 n9 c9 e9, .int .i64 x_198] h_197 fun v_199 h_200 =>
 xInt .i64 (some v_199) fun x_201 => bcase (decide ((x_201 : Int) < 0)) (Q (.bool false) h_200) (SCall pg n_laws_eqNeedS [.slice a10 n10 c10 e10, .slice a6 n6 c6 e6] h_200 fun v_202 h_203 =>
 xBool (some v_202) fun b_204 => bcase (!b_204) (Q (.bool false) h_203) (bcase (!(x11 == x7)) (Q (.bool false) h_203) (J23 Q a10 n10 c10 e10 i2 o2 a1 n1 c1 e1 a6 n6 c6 e6 x7 h_203)))))))))) : J14 Q i8 o8 i2 o2 a9 n9 c9 e9 a1 n1 c1 e1 a10 n10 c10 e10 a6 n6 c6 e6 x11 x7 h :=
  den_Den (kp := kp) (@cast _ (den pg fn.ntmps kp (C [1, 1, 1, 1, 1, 1, 1, 1, 1, 1, 1]) [(8, .ptr (some (i8, o8))), (2, .ptr (some (i2, o2))), (9, .slice a9 n9 c9 e9), (1, .slice a1 n1 c1 e1), (10, .slice a10 n10 c10 e10), (6, .slice a6 n6 c6 e6), (11, .bool x11), (7, .bool x7)] h (KR Q)) (by kernel_rfl) ht)
theorem J23i (Q : QT) (a10 : Pt) (n10 c10 : Nat) (e10 : Bool) (i2 o2 : Nat) (a1 : Pt) (n1 c1 : Nat) (e1 : Bool) (a6 : Pt) (n6 c6 : Nat) (e6 x7 : Bool) (h : AHeap) (ht :
 SCall pg n_laws_markNeedS [.slice a10 n10 c10 e10, .int .i64 1] h fun v_205 h_206 =>
 xInt .i64 (some v_205) fun x_207 => SCall pg n_laws_heldNeedS [.slice a10 n10 c10 e10, .int .i64 1] h_206 fun v_208 h_209 =>
 xInt .i64 (some v_208) fun x_210 => bcase (decide ((x_210 : Int) < 0)) (Q (.bool false) h_209) (bcase (!((x_210 : Int) == x_207)) (Q (.bool false) h_209) (xRow (hRow h_209 (.ptr (some (i2, o2))) 2) fun cs_211 => xCons cs_211 fun c_212 r_213 => xSl (some c_212) fun a_214 n_215 c_216 e_217 => xCons r_213 fun c_218 r_219 => xSl (some c_218) fun a_220 n_221 c_222 e_223 => xNil r_219 (SCall pg n_laws_toWorld [.agg [.slice a_214 n_215 c_216 e_217, .slice a_220 n_221 c_222 e_223]] h_209 fun v_224 h_225 =>
 xAgg v_224 fun cs_226 => xCons cs_226 fun c_227 r_228 => xSl (some c_227) fun a_229 n_230 c_231 e_232 => xCons r_228 fun c_233 r_234 => xSl (some c_233) fun a_235 n_236 c_237 e_238 => xNil r_234 (SCall pg n_laws_toNeedS [.slice a1 n1 c1 e1] h_225 fun v_239 h_240 =>
 xSl (some v_239) fun a_241 n_242 c_243 e_244 => SCall pg n_impl_AllGivens [.agg [.slice a_229 n_230 c_231 e_232, .slice a_235 n_236 c_237 e_238], .slice a_241 n_242 c_243 e_244] h_240 fun v_245 h_246 =>
 xTup v_245 fun cs_247 => xCons cs_247 fun c_248 r_249 => xSl (some c_248) fun a_250 n_251 c_252 e_253 => xCons r_249 fun c_254 r_255 => xBool (some c_254) fun b_256 => xNil r_255 (SCall pg n_laws_eqNeedS [.slice a_250 n_251 c_252 e_253, .slice a6 n6 c6 e6] h_246 fun v_257 h_258 =>
 xBool (some v_257) fun b_259 => bcase (!b_259) (Q (.bool false) h_258) (bcase (!(b_256 == x7)) (Q (.bool false) h_258) (J34 Q a10 n10 c10 e10 x_207 h_258)))))))) : J23 Q a10 n10 c10 e10 i2 o2 a1 n1 c1 e1 a6 n6 c6 e6 x7 h :=
  den_Den (kp := kp) (@cast _ (den pg fn.ntmps kp (C [1, 1, 1, 1, 1, 1, 1, 1, 1, 1, 1, 1, 1, 1, 1, 1, 1]) [(10, .slice a10 n10 c10 e10), (2, .ptr (some (i2, o2))), (1, .slice a1 n1 c1 e1), (6, .slice a6 n6 c6 e6), (7, .bool x7)] h (KR Q)) (by kernel_rfl) ht)
theorem J34i (Q : QT) (a10 : Pt) (n10 c10 : Nat) (e10 : Bool) (x13 : Int) (h : AHeap) (ht :
 SCall pg n_laws_heldNeedS [.slice a10 n10 c10 e10, .int .i64 1] h fun v_260 h_261 =>
 xInt .i64 (some v_260) fun x_262 => bcase (decide ((x_262 : Int) < 0)) (Q (.bool false) h_261) (bcase (!((x_262 : Int) == x13)) (Q (.bool false) h_261) (Q (.bool true) h_261))) : J34 Q a10 n10 c10 e10 x13 h :=
  den_Den (kp := kp) (@cast _ (den pg fn.ntmps kp (C [1, 1, 1, 1, 1, 1, 1, 1, 1, 1, 1, 1, 1, 1, 1, 1, 1, 1, 1, 1, 1, 1, 1, 1, 1]) [(10, .slice a10 n10 c10 e10), (13, .int .i64 x13)] h (KR Q)) (by kernel_rfl) ht)
theorem call (a0x0 : Pt) (n0x0 c0x0 : Nat) (e0x0 : Bool) (a0x1 : Pt) (n0x1 c0x1 : Nat) (e0x1 : Bool) (a1 : Pt) (n1 c1 : Nat) (e1 : Bool) (h : AHeap) (Q : QT) (ht :
 letH (h ++ [.cells t_laws_World [.slice a0x0 n0x0 c0x0 e0x0, .slice a0x1 n0x1 c0x1 e0x1] false]) fun h_0 => xRow (hRow h_0 (.ptr (some (List.length h, 0))) 2) fun cs_1 => xCons cs_1 fun c_2 r_3 => xSl (some c_2) fun a_4 n_5 c_6 e_7 => xCons r_3 fun c_8 r_9 => xSl (some c_8) fun a_10 n_11 c_12 e_13 => xNil r_9 (SCall pg n_laws_szWorld [.agg [.slice a_4 n_5 c_6 e_7, .slice a_10 n_11 c_12 e_13], .int .i64 1048576] h_0 fun v_14 h_15 =>
 xInt .i64 (some v_14) fun x_16 => bcase (decide ((x_16 : Int) < 0)) (Q (.bool true) h_15) (SCall pg n_laws_szNeedS [.slice a1 n1 c1 e1, .int .i64 x_16] h_15 fun v_17 h_18 =>
 xInt .i64 (some v_17) fun x_19 => bcase (decide ((x_19 : Int) < 0)) (Q (.bool true) h_18) (xRow (hRow h_18 (.ptr (some (List.length h, 0))) 2) fun cs_20 => xCons cs_20 fun c_21 r_22 => xSl (some c_21) fun a_23 n_24 c_25 e_26 => xCons r_22 fun c_27 r_28 => xSl (some c_27) fun a_29 n_30 c_31 e_32 => xNil r_28 (SCall pg n_laws_toWorld [.agg [.slice a_23 n_24 c_25 e_26, .slice a_29 n_30 c_31 e_32]] h_18 fun v_33 h_34 =>
 xAgg v_33 fun cs_35 => xCons cs_35 fun c_36 r_37 => xSl (some c_36) fun a_38 n_39 c_40 e_41 => xCons r_37 fun c_42 r_43 => xSl (some c_42) fun a_44 n_45 c_46 e_47 => xNil r_43 (SCall pg n_laws_toNeedS [.slice a1 n1 c1 e1] h_34 fun v_48 h_49 =>
 xSl (some v_48) fun a_50 n_51 c_52 e_53 => SCall pg n_spec_AllGivens [.agg [.slice a_38 n_39 c_40 e_41, .slice a_44 n_45 c_46 e_47], .slice a_50 n_51 c_52 e_53] h_49 fun v_54 h_55 =>
 xTup v_54 fun cs_56 => xCons cs_56 fun c_57 r_58 => xSl (some c_57) fun a_59 n_60 c_61 e_62 => xCons r_58 fun c_63 r_64 => xBool (some c_63) fun b_65 => xNil r_64 (xRow (hRow h_55 (.ptr (some (List.length h, 0))) 2) fun cs_66 => xCons cs_66 fun c_67 r_68 => xSl (some c_67) fun a_69 n_70 c_71 e_72 => xCons r_68 fun c_73 r_74 => xSl (some c_73) fun a_75 n_76 c_77 e_78 => xNil r_74 (SCall pg n_laws_toWorld [.agg [.slice a_69 n_70 c_71 e_72, .slice a_75 n_76 c_77 e_78]] h_55 fun v_79 h_80 =>
 xAgg v_79 fun cs_81 => xCons cs_81 fun c_82 r_83 => xSl (some c_82) fun a_84 n_85 c_86 e_87 => xCons r_83 fun c_88 r_89 => xSl (some c_88) fun a_90 n_91 c_92 e_93 => xNil r_89 (letH (h_80 ++ [.cells t_impl_World [.slice none 0 0 true, .slice none 0 0 true] false]) fun h_94 => xHeap (hStore h_94 (.ptr (some (List.length h_80, 0))) [.slice a_84 n_85 c_86 e_87, .slice a_90 n_91 c_92 e_93]) fun h_95 => SCall pg n_laws_toNeedS [.slice a1 n1 c1 e1] h_95 fun v_96 h_97 =>
 xSl (some v_96) fun a_98 n_99 c_100 e_101 => xRow (hRow h_97 (.ptr (some (List.length h_80, 0))) 2) fun cs_102 => xCons cs_102 fun c_103 r_104 => xSl (some c_103) fun a_105 n_106 c_107 e_108 => xCons r_104 fun c_109 r_110 => xSl (some c_109) fun a_111 n_112 c_113 e_114 => xNil r_110 (SCall pg n_impl_AllGivens [.agg [.slice a_105 n_106 c_107 e_108, .slice a_111 n_112 c_113 e_114], .slice a_98 n_99 c_100 e_101] h_97 fun v_115 h_116 =>
 xTup v_115 fun cs_117 => xCons cs_117 fun c_118 r_119 => xSl (some c_118) fun a_120 n_121 c_122 e_123 => xCons r_119 fun c_124 r_125 => xBool (some c_124) fun b_126 => xNil r_125 (SCall pg n_laws_eqNeedS [.slice a_120 n_121 c_122 e_123, .slice a_59 n_60 c_61 e_62] h_116 fun v_127 h_128 =>
 xBool (some v_127) fun b_129 => bcase (!b_129) (Q (.bool false) h_128) (bcase (!(b_126 == b_65)) (Q (.bool false) h_128) (J14 Q (List.length h_80) 0 (List.length h) 0 a_98 n_99 c_100 e_101 a1 n1 c1 e1 a_120 n_121 c_122 e_123 a_59 n_60 c_61 e_62 b_126 b_65 h_128))))))))))))) : SCall pg n_laws_FnExactAllGivens [.agg [.slice a0x0 n0x0 c0x0 e0x0, .slice a0x1 n0x1 c0x1 e0x1], .slice a1 n1 c1 e1] h Q :=
  SCall.of_body kp (c := cod fn) (fn := fn) Go.Proofs.Try.func8 (by kernel_rfl) (by kernel_rfl) (Nat.le_of_ble_eq_true (by kernel_rfl))
    (@cast _ (den pg fn.ntmps kp (cod fn) (Env.args 0 [.agg [.slice a0x0 n0x0 c0x0 e0x0, .slice a0x1 n0x1 c0x1 e0x1], .slice a1 n1 c1 e1]) h (KR Q)) (by kernel_rfl) ht)
end F_laws_FnExactAllGivens
end Go.Sim

/- Printed by wip/tool: what the functions' bodies do, in the words of 'den'. -/
set_option maxRecDepth 100000
set_option linter.unusedVariables false
namespace Go.Sim
open Go Go.RowKit
/-! Function loop.example/instancesearch/laws.markClassS -/
namespace F_laws_markClassS
noncomputable abbrev fn : Func := Go.Proofs.Try.f67
def kp : Keeps := [(3000002, [1]), (1000002, [0, 1, 5])]
noncomputable def C (p : List Nat) : Code := (cod fn).sub p
def KR (Q : QT) : KT := retA pg fn.results.toList Q
abbrev T2 := Pt → Nat → Nat → Bool → Int → Int → AHeap → Prop
def E2 (R2 : T2) (env : Env) (h : AHeap) : Prop := eVal 0 env fun v env => xSl (some v) fun a0 n0 c0 e0 => eVal 1 env fun v env => eInt .i64 v fun x1 => eVal 5 env fun v env => eInt .i64 v fun x5 => eNil env (R2 a0 n0 c0 e0 x1 x5 h)
theorem E2elim {R2 : T2} {env : Env} {h : AHeap} (hi : E2 R2 env h) : ∃ a0, ∃ n0, ∃ c0, ∃ e0, ∃ x1, ∃ x5, env = [(0, .slice a0 n0 c0 e0), (1, .int .i64 x1), (5, .int .i64 x5)] ∧ R2 a0 n0 c0 e0 x1 x5 h := by
  unfold E2 at hi
  have hi0 := hi
  clear hi
  obtain ⟨v, env, rfl, hi1⟩ := eVal_elim hi0
  obtain ⟨a0, n0, c0, e0, rfl, hi2⟩ := xSl_elim hi1
  obtain ⟨v, env, rfl, hi3⟩ := eVal_elim hi2
  obtain ⟨x1, rfl, hi4⟩ := eInt_elim hi3
  obtain ⟨v, env, rfl, hi5⟩ := eVal_elim hi4
  obtain ⟨x5, rfl, hi6⟩ := eInt_elim hi5
  obtain ⟨rfl, hi7⟩ := eNil_elim hi6
  have hi := hi7
  exact ⟨a0, n0, c0, e0, x1, x5, rfl, hi⟩
def K0 (Q : QT) : KT := andThen (fun env' h' => (match kp.find 4000008 with | some ks => Den pg fn.ntmps (C [1, 1]) (env'.keep ks) h' (KR Q) | none => den pg fn.ntmps kp (C [1, 1]) env' h' (KR Q))) (KR Q)
def K1 (Q : QT) : KT := onExit 0 (K0 Q)
def K2 (Q : QT) : KT := left kp 2 (K1 Q)
def K3 (Q : QT) (R2 : T2) : KT := rnd ((kp.find 1000002).getD []) (E2 R2) (K2 Q)
def L2 (Q : QT) (a0 : Pt) (n0 c0 : Nat) (e0 : Bool) (x1 x5 : Int) (h : AHeap) : Prop := Loop (Den pg fn.ntmps (C [1, 0, 1, 0, 0])) ((kp.find 1000002).getD []) (K2 Q) [(0, .slice a0 n0 c0 e0), (1, .int .i64 x1), (5, .int .i64 x5)] h
def A2x0 (Q : QT) (x1 : Int) (h : AHeap) : Prop := At (K1 Q) (.exit 0) [(1, .int .i64 x1)] h
def L2t (Q : QT) (R2 : T2) (a0 : Pt) (n0 c0 : Nat) (e0 : Bool) (x1 x5 : Int) (h : AHeap) : Prop :=
 bcase (decide ((x5 : Int) < (((n0 : Nat) : Int)))) (SCall pg n_laws_markText [.int .i64 x1] h fun v_0 h_1 =>
 xStr (some v_0) fun s_2 => (0 ≤ (x5 : Int) ∧ (x5 : Int) < (n0 : Nat)) ∧ (xSome a0 fun i_3 o_4 => xHeap (hStore h_1 (.ptr (some (i_3, o_4 + (Int.toNat x5) * 2 + 0))) [.str s_2]) fun h_5 => SCall pg n_laws_markText [.int .i64 (IntKind.wrap .i64 (x1 + 1))] h_5 fun v_6 h_7 =>
 xStr (some v_6) fun s_8 => (0 ≤ (x5 : Int) ∧ (x5 : Int) < (n0 : Nat)) ∧ (xSome a0 fun i_9 o_10 => xHeap (hStore h_7 (.ptr (some (i_9, o_10 + (Int.toNat x5) * 2 + 1))) [.str s_8]) fun h_11 => R2 a0 n0 c0 e0 (IntKind.wrap .i64 ((IntKind.wrap .i64 (x1 + 1)) + 1)) (IntKind.wrap .i64 (x5 + 1)) h_11))) (A2x0 Q x1 h)
theorem L2den (Q : QT) (R2 : T2) (a0 : Pt) (n0 c0 : Nat) (e0 : Bool) (x1 x5 : Int) (h : AHeap) (ht : L2t Q R2 a0 n0 c0 e0 x1 x5 h) : Den pg fn.ntmps (C [1, 0, 1, 0, 0]) [(0, .slice a0 n0 c0 e0), (1, .int .i64 x1), (5, .int .i64 x5)] h (K3 Q R2) :=
  den_Den (kp := kp) (@cast _ (den pg fn.ntmps kp (C [1, 0, 1, 0, 0]) [(0, .slice a0 n0 c0 e0), (1, .int .i64 x1), (5, .int .i64 x5)] h (K3 Q R2)) (by kernel_rfl) ht)
theorem L2ind (Q : QT) (a0 : Pt) (n0 c0 : Nat) (e0 : Bool) {G : Type} (J : G → Int → Int → AHeap → Prop) (m : G → Nat)
 (hr : ∀ (g : G) (x1 x5 : Int) (h : AHeap), J g x1 x5 h → ∀ (R2 : T2), (∀ g' (x1 x5 : Int) (h : AHeap), m g' < m g → J g' x1 x5 h → R2 a0 n0 c0 e0 x1 x5 h) → L2t Q R2 a0 n0 c0 e0 x1 x5 h)
 (g : G) (x1 x5 : Int) (h : AHeap) (hj : J g x1 x5 h) : L2 Q a0 n0 c0 e0 x1 x5 h := by
  refine Loop.inv2 (fun g => E2 fun a0' n0' c0' e0' x1 x5 h => a0 = a0' ∧ n0 = n0' ∧ c0 = c0' ∧ e0 = e0' ∧ J g x1 x5 h) (fun g => E2 fun a0' n0' c0' e0' x1 x5 h => a0 = a0' ∧ n0 = n0' ∧ c0 = c0' ∧ e0 = e0' ∧ ∃ g', m g' < m g ∧ J g' x1 x5 h) m ?_ ?_ g ⟨rfl, rfl, rfl, rfl, hj⟩
  · intro g env h hi
    obtain ⟨a0', n0', c0', e0', x1, x5, rfl, rfl, rfl, rfl, rfl, hj⟩ := E2elim hi
    exact L2den Q (fun a0' n0' c0' e0' x1 x5 h => a0 = a0' ∧ n0 = n0' ∧ c0 = c0' ∧ e0 = e0' ∧ ∃ g', m g' < m g ∧ J g' x1 x5 h) a0 n0 c0 e0 x1 x5 h (hr g x1 x5 h hj (fun a0' n0' c0' e0' x1 x5 h => a0 = a0' ∧ n0 = n0' ∧ c0 = c0' ∧ e0 = e0' ∧ ∃ g', m g' < m g ∧ J g' x1 x5 h) fun g' x1 x5 h hlt hj => ⟨rfl, rfl, rfl, rfl, g', hlt, hj⟩)
  · intro g env h hi
    obtain ⟨a0', n0', c0', e0', x1, x5, rfl, rfl, rfl, rfl, rfl, g', hlt, hj⟩ := E2elim hi
    exact ⟨g', hlt, rfl, rfl, rfl, rfl, hj⟩
theorem A2x0i (Q : QT) (x1 : Int) (h : AHeap) (ht :
 Q (.int .i64 x1) h) : A2x0 Q x1 h :=
  At.mk (@cast _ ((K1 Q) (.exit 0) [(1, .int .i64 x1)] h) (by kernel_rfl) ht)
theorem call (a0 : Pt) (n0 c0 : Nat) (e0 : Bool) (x1 : Int) (h : AHeap) (Q : QT) (ht :
 L2 Q a0 n0 c0 e0 x1 0 h) : SCall pg n_laws_markClassS [.slice a0 n0 c0 e0, .int .i64 x1] h Q :=
  SCall.of_body kp (c := cod fn) (fn := fn) Go.Proofs.Try.func67 (by kernel_rfl) (by kernel_rfl) (Nat.le_of_ble_eq_true (by kernel_rfl))
    (@cast _ (den pg fn.ntmps kp (cod fn) (Env.args 0 [.slice a0 n0 c0 e0, .int .i64 x1]) h (KR Q)) (by kernel_rfl) ht)
end F_laws_markClassS
/-! Function loop.example/instancesearch/laws.heldClassS -/
namespace F_laws_heldClassS
noncomputable abbrev fn : Func := Go.Proofs.Try.f69
def kp : Keeps := [(3000002, [1, 4]), (1000002, [0, 1, 5]), (2000004, [19, 1, 0, 5]), (2000007, [29, 1, 5, 0])]
noncomputable def C (p : List Nat) : Code := (cod fn).sub p
def KR (Q : QT) : KT := retA pg fn.results.toList Q
abbrev T2 := Pt → Nat → Nat → Bool → Int → Int → AHeap → Prop
def E2 (R2 : T2) (env : Env) (h : AHeap) : Prop := eVal 0 env fun v env => xSl (some v) fun a0 n0 c0 e0 => eVal 1 env fun v env => eInt .i64 v fun x1 => eVal 5 env fun v env => eInt .i64 v fun x5 => eNil env (R2 a0 n0 c0 e0 x1 x5 h)
theorem E2elim {R2 : T2} {env : Env} {h : AHeap} (hi : E2 R2 env h) : ∃ a0, ∃ n0, ∃ c0, ∃ e0, ∃ x1, ∃ x5, env = [(0, .slice a0 n0 c0 e0), (1, .int .i64 x1), (5, .int .i64 x5)] ∧ R2 a0 n0 c0 e0 x1 x5 h := by
  unfold E2 at hi
  have hi0 := hi
  clear hi
  obtain ⟨v, env, rfl, hi1⟩ := eVal_elim hi0
  obtain ⟨a0, n0, c0, e0, rfl, hi2⟩ := xSl_elim hi1
  obtain ⟨v, env, rfl, hi3⟩ := eVal_elim hi2
  obtain ⟨x1, rfl, hi4⟩ := eInt_elim hi3
  obtain ⟨v, env, rfl, hi5⟩ := eVal_elim hi4
  obtain ⟨x5, rfl, hi6⟩ := eInt_elim hi5
  obtain ⟨rfl, hi7⟩ := eNil_elim hi6
  have hi := hi7
  exact ⟨a0, n0, c0, e0, x1, x5, rfl, hi⟩
def K0 (Q : QT) : KT := andThen (fun env' h' => (match kp.find 4000010 with | some ks => Den pg fn.ntmps (C [1, 1]) (env'.keep ks) h' (KR Q) | none => den pg fn.ntmps kp (C [1, 1]) env' h' (KR Q))) (KR Q)
def K1 (Q : QT) : KT := onExit 0 (K0 Q)
def K2 (Q : QT) : KT := left kp 2 (K1 Q)
def K3 (Q : QT) (R2 : T2) : KT := rnd ((kp.find 1000002).getD []) (E2 R2) (K2 Q)
def L2 (Q : QT) (a0 : Pt) (n0 c0 : Nat) (e0 : Bool) (x1 x5 : Int) (h : AHeap) : Prop := Loop (Den pg fn.ntmps (C [1, 0, 1, 0, 0])) ((kp.find 1000002).getD []) (K2 Q) [(0, .slice a0 n0 c0 e0), (1, .int .i64 x1), (5, .int .i64 x5)] h
def A2x0 (Q : QT) (x1 : Int) (h : AHeap) : Prop := At (K1 Q) (.exit 0) [(1, .int .i64 x1), (4, .undef)] h
def L2t (Q : QT) (R2 : T2) (a0 : Pt) (n0 c0 : Nat) (e0 : Bool) (x1 x5 : Int) (h : AHeap) : Prop :=
 bcase (decide ((x5 : Int) < (((n0 : Nat) : Int)))) ((0 ≤ (x5 : Int) ∧ (x5 : Int) < (n0 : Nat)) ∧ (xSome a0 fun i_0 o_1 => xStr (hCell h (.ptr (some (i_0, o_1 + (Int.toNat x5) * 2 + 0)))) fun s_2 => SCall pg n_laws_markText [.int .i64 x1] h fun v_3 h_4 =>
 xStr (some v_3) fun s_5 => (hCell h_4 (.ptr (some (i_0, o_1 + (Int.toNat x5) * 2 + 0))) = hCell h (.ptr (some (i_0, o_1 + (Int.toNat x5) * 2 + 0)))) ∧ bcase (!(decide (s_2 = s_5))) (Q (.int .i64 (-1)) h_4) ((0 ≤ (x5 : Int) ∧ (x5 : Int) < (n0 : Nat)) ∧ (xSome a0 fun i_6 o_7 => xStr (hCell h_4 (.ptr (some (i_6, o_7 + (Int.toNat x5) * 2 + 1)))) fun s_8 => SCall pg n_laws_markText [.int .i64 (IntKind.wrap .i64 (x1 + 1))] h_4 fun v_9 h_10 =>
 xStr (some v_9) fun s_11 => (hCell h_10 (.ptr (some (i_6, o_7 + (Int.toNat x5) * 2 + 1))) = hCell h_4 (.ptr (some (i_6, o_7 + (Int.toNat x5) * 2 + 1)))) ∧ bcase (!(decide (s_8 = s_11))) (Q (.int .i64 (-1)) h_10) (R2 a0 n0 c0 e0 (IntKind.wrap .i64 ((IntKind.wrap .i64 (x1 + 1)) + 1)) (IntKind.wrap .i64 (x5 + 1)) h_10))))) (A2x0 Q x1 h)
theorem L2den (Q : QT) (R2 : T2) (a0 : Pt) (n0 c0 : Nat) (e0 : Bool) (x1 x5 : Int) (h : AHeap) (ht : L2t Q R2 a0 n0 c0 e0 x1 x5 h) : Den pg fn.ntmps (C [1, 0, 1, 0, 0]) [(0, .slice a0 n0 c0 e0), (1, .int .i64 x1), (5, .int .i64 x5)] h (K3 Q R2) :=
  den_Den (kp := kp) (@cast _ (den pg fn.ntmps kp (C [1, 0, 1, 0, 0]) [(0, .slice a0 n0 c0 e0), (1, .int .i64 x1), (5, .int .i64 x5)] h (K3 Q R2)) (by kernel_rfl) ht)
theorem L2ind (Q : QT) (a0 : Pt) (n0 c0 : Nat) (e0 : Bool) {G : Type} (J : G → Int → Int → AHeap → Prop) (m : G → Nat)
 (hr : ∀ (g : G) (x1 x5 : Int) (h : AHeap), J g x1 x5 h → ∀ (R2 : T2), (∀ g' (x1 x5 : Int) (h : AHeap), m g' < m g → J g' x1 x5 h → R2 a0 n0 c0 e0 x1 x5 h) → L2t Q R2 a0 n0 c0 e0 x1 x5 h)
 (g : G) (x1 x5 : Int) (h : AHeap) (hj : J g x1 x5 h) : L2 Q a0 n0 c0 e0 x1 x5 h := by
  refine Loop.inv2 (fun g => E2 fun a0' n0' c0' e0' x1 x5 h => a0 = a0' ∧ n0 = n0' ∧ c0 = c0' ∧ e0 = e0' ∧ J g x1 x5 h) (fun g => E2 fun a0' n0' c0' e0' x1 x5 h => a0 = a0' ∧ n0 = n0' ∧ c0 = c0' ∧ e0 = e0' ∧ ∃ g', m g' < m g ∧ J g' x1 x5 h) m ?_ ?_ g ⟨rfl, rfl, rfl, rfl, hj⟩
  · intro g env h hi
    obtain ⟨a0', n0', c0', e0', x1, x5, rfl, rfl, rfl, rfl, rfl, hj⟩ := E2elim hi
    exact L2den Q (fun a0' n0' c0' e0' x1 x5 h => a0 = a0' ∧ n0 = n0' ∧ c0 = c0' ∧ e0 = e0' ∧ ∃ g', m g' < m g ∧ J g' x1 x5 h) a0 n0 c0 e0 x1 x5 h (hr g x1 x5 h hj (fun a0' n0' c0' e0' x1 x5 h => a0 = a0' ∧ n0 = n0' ∧ c0 = c0' ∧ e0 = e0' ∧ ∃ g', m g' < m g ∧ J g' x1 x5 h) fun g' x1 x5 h hlt hj => ⟨rfl, rfl, rfl, rfl, g', hlt, hj⟩)
  · intro g env h hi
    obtain ⟨a0', n0', c0', e0', x1, x5, rfl, rfl, rfl, rfl, rfl, g', hlt, hj⟩ := E2elim hi
    exact ⟨g', hlt, rfl, rfl, rfl, rfl, hj⟩
theorem A2x0i (Q : QT) (x1 : Int) (h : AHeap) (ht :
 Q (.int .i64 x1) h) : A2x0 Q x1 h :=
  At.mk (@cast _ ((K1 Q) (.exit 0) [(1, .int .i64 x1), (4, .undef)] h) (by kernel_rfl) ht)
theorem call (a0 : Pt) (n0 c0 : Nat) (e0 : Bool) (x1 : Int) (h : AHeap) (Q : QT) (ht :
 L2 Q a0 n0 c0 e0 x1 0 h) : SCall pg n_laws_heldClassS [.slice a0 n0 c0 e0, .int .i64 x1] h Q :=
  SCall.of_body kp (c := cod fn) (fn := fn) Go.Proofs.Try.func69 (by kernel_rfl) (by kernel_rfl) (Nat.le_of_ble_eq_true (by kernel_rfl))
    (@cast _ (den pg fn.ntmps kp (cod fn) (Env.args 0 [.slice a0 n0 c0 e0, .int .i64 x1]) h (KR Q)) (by kernel_rfl) ht)
end F_laws_heldClassS
/-! Function loop.example/instancesearch/laws.markInstanceS -/
namespace F_laws_markInstanceS
noncomputable abbrev fn : Func := Go.Proofs.Try.f68
def kp : Keeps := [(3000002, [1]), (1000002, [0, 1, 5])]
noncomputable def C (p : List Nat) : Code := (cod fn).sub p
def KR (Q : QT) : KT := retA pg fn.results.toList Q
abbrev T2 := Pt → Nat → Nat → Bool → Int → Int → AHeap → Prop
def E2 (R2 : T2) (env : Env) (h : AHeap) : Prop := eVal 0 env fun v env => xSl (some v) fun a0 n0 c0 e0 => eVal 1 env fun v env => eInt .i64 v fun x1 => eVal 5 env fun v env => eInt .i64 v fun x5 => eNil env (R2 a0 n0 c0 e0 x1 x5 h)
theorem E2elim {R2 : T2} {env : Env} {h : AHeap} (hi : E2 R2 env h) : ∃ a0, ∃ n0, ∃ c0, ∃ e0, ∃ x1, ∃ x5, env = [(0, .slice a0 n0 c0 e0), (1, .int .i64 x1), (5, .int .i64 x5)] ∧ R2 a0 n0 c0 e0 x1 x5 h := by
  unfold E2 at hi
  have hi0 := hi
  clear hi
  obtain ⟨v, env, rfl, hi1⟩ := eVal_elim hi0
  obtain ⟨a0, n0, c0, e0, rfl, hi2⟩ := xSl_elim hi1
  obtain ⟨v, env, rfl, hi3⟩ := eVal_elim hi2
  obtain ⟨x1, rfl, hi4⟩ := eInt_elim hi3
  obtain ⟨v, env, rfl, hi5⟩ := eVal_elim hi4
  obtain ⟨x5, rfl, hi6⟩ := eInt_elim hi5
  obtain ⟨rfl, hi7⟩ := eNil_elim hi6
  have hi := hi7
  exact ⟨a0, n0, c0, e0, x1, x5, rfl, hi⟩
def K0 (Q : QT) : KT := andThen (fun env' h' => (match kp.find 4000009 with | some ks => Den pg fn.ntmps (C [1, 1]) (env'.keep ks) h' (KR Q) | none => den pg fn.ntmps kp (C [1, 1]) env' h' (KR Q))) (KR Q)
def K1 (Q : QT) : KT := onExit 0 (K0 Q)
def K2 (Q : QT) : KT := left kp 2 (K1 Q)
def K3 (Q : QT) (R2 : T2) : KT := rnd ((kp.find 1000002).getD []) (E2 R2) (K2 Q)
def L2 (Q : QT) (a0 : Pt) (n0 c0 : Nat) (e0 : Bool) (x1 x5 : Int) (h : AHeap) : Prop := Loop (Den pg fn.ntmps (C [1, 0, 1, 0, 0])) ((kp.find 1000002).getD []) (K2 Q) [(0, .slice a0 n0 c0 e0), (1, .int .i64 x1), (5, .int .i64 x5)] h
def A2x0 (Q : QT) (x1 : Int) (h : AHeap) : Prop := At (K1 Q) (.exit 0) [(1, .int .i64 x1)] h
def L2t (Q : QT) (R2 : T2) (a0 : Pt) (n0 c0 : Nat) (e0 : Bool) (x1 x5 : Int) (h : AHeap) : Prop :=
 bcase (decide ((x5 : Int) < (((n0 : Nat) : Int)))) (SCall pg n_laws_markText [.int .i64 x1] h fun v_0 h_1 =>
 xStr (some v_0) fun s_2 => (0 ≤ (x5 : Int) ∧ (x5 : Int) < (n0 : Nat)) ∧ (xSome a0 fun i_3 o_4 => xHeap (hStore h_1 (.ptr (some (i_3, o_4 + (Int.toNat x5) * 3 + 0 + 0))) [.str s_2]) fun h_5 => SCall pg n_laws_markText [.int .i64 (IntKind.wrap .i64 (x1 + 1))] h_5 fun v_6 h_7 =>
 xStr (some v_6) fun s_8 => (0 ≤ (x5 : Int) ∧ (x5 : Int) < (n0 : Nat)) ∧ (xSome a0 fun i_9 o_10 => xHeap (hStore h_7 (.ptr (some (i_9, o_10 + (Int.toNat x5) * 3 + 0 + 1))) [.str s_8]) fun h_11 => (0 ≤ (x5 : Int) ∧ (x5 : Int) < (n0 : Nat)) ∧ (xSome a0 fun i_12 o_13 => xSl (hCell h_11 (.ptr (some (i_12, o_13 + (Int.toNat x5) * 3 + 2)))) fun a_14 n_15 c_16 e_17 => SCall pg n_laws_markNeedS [.slice a_14 n_15 c_16 e_17, .int .i64 (IntKind.wrap .i64 ((IntKind.wrap .i64 (x1 + 1)) + 1))] h_11 fun v_18 h_19 =>
 xInt .i64 (some v_18) fun x_20 => R2 a0 n0 c0 e0 x_20 (IntKind.wrap .i64 (x5 + 1)) h_19)))) (A2x0 Q x1 h)
theorem L2den (Q : QT) (R2 : T2) (a0 : Pt) (n0 c0 : Nat) (e0 : Bool) (x1 x5 : Int) (h : AHeap) (ht : L2t Q R2 a0 n0 c0 e0 x1 x5 h) : Den pg fn.ntmps (C [1, 0, 1, 0, 0]) [(0, .slice a0 n0 c0 e0), (1, .int .i64 x1), (5, .int .i64 x5)] h (K3 Q R2) :=
  den_Den (kp := kp) (@cast _ (den pg fn.ntmps kp (C [1, 0, 1, 0, 0]) [(0, .slice a0 n0 c0 e0), (1, .int .i64 x1), (5, .int .i64 x5)] h (K3 Q R2)) (by kernel_rfl) ht)
theorem L2ind (Q : QT) (a0 : Pt) (n0 c0 : Nat) (e0 : Bool) {G : Type} (J : G → Int → Int → AHeap → Prop) (m : G → Nat)
 (hr : ∀ (g : G) (x1 x5 : Int) (h : AHeap), J g x1 x5 h → ∀ (R2 : T2), (∀ g' (x1 x5 : Int) (h : AHeap), m g' < m g → J g' x1 x5 h → R2 a0 n0 c0 e0 x1 x5 h) → L2t Q R2 a0 n0 c0 e0 x1 x5 h)
 (g : G) (x1 x5 : Int) (h : AHeap) (hj : J g x1 x5 h) : L2 Q a0 n0 c0 e0 x1 x5 h := by
  refine Loop.inv2 (fun g => E2 fun a0' n0' c0' e0' x1 x5 h => a0 = a0' ∧ n0 = n0' ∧ c0 = c0' ∧ e0 = e0' ∧ J g x1 x5 h) (fun g => E2 fun a0' n0' c0' e0' x1 x5 h => a0 = a0' ∧ n0 = n0' ∧ c0 = c0' ∧ e0 = e0' ∧ ∃ g', m g' < m g ∧ J g' x1 x5 h) m ?_ ?_ g ⟨rfl, rfl, rfl, rfl, hj⟩
  · intro g env h hi
    obtain ⟨a0', n0', c0', e0', x1, x5, rfl, rfl, rfl, rfl, rfl, hj⟩ := E2elim hi
    exact L2den Q (fun a0' n0' c0' e0' x1 x5 h => a0 = a0' ∧ n0 = n0' ∧ c0 = c0' ∧ e0 = e0' ∧ ∃ g', m g' < m g ∧ J g' x1 x5 h) a0 n0 c0 e0 x1 x5 h (hr g x1 x5 h hj (fun a0' n0' c0' e0' x1 x5 h => a0 = a0' ∧ n0 = n0' ∧ c0 = c0' ∧ e0 = e0' ∧ ∃ g', m g' < m g ∧ J g' x1 x5 h) fun g' x1 x5 h hlt hj => ⟨rfl, rfl, rfl, rfl, g', hlt, hj⟩)
  · intro g env h hi
    obtain ⟨a0', n0', c0', e0', x1, x5, rfl, rfl, rfl, rfl, rfl, g', hlt, hj⟩ := E2elim hi
    exact ⟨g', hlt, rfl, rfl, rfl, rfl, hj⟩
theorem A2x0i (Q : QT) (x1 : Int) (h : AHeap) (ht :
 Q (.int .i64 x1) h) : A2x0 Q x1 h :=
  At.mk (@cast _ ((K1 Q) (.exit 0) [(1, .int .i64 x1)] h) (by kernel_rfl) ht)
theorem call (a0 : Pt) (n0 c0 : Nat) (e0 : Bool) (x1 : Int) (h : AHeap) (Q : QT) (ht :
 L2 Q a0 n0 c0 e0 x1 0 h) : SCall pg n_laws_markInstanceS [.slice a0 n0 c0 e0, .int .i64 x1] h Q :=
  SCall.of_body kp (c := cod fn) (fn := fn) Go.Proofs.Try.func68 (by kernel_rfl) (by kernel_rfl) (Nat.le_of_ble_eq_true (by kernel_rfl))
    (@cast _ (den pg fn.ntmps kp (cod fn) (Env.args 0 [.slice a0 n0 c0 e0, .int .i64 x1]) h (KR Q)) (by kernel_rfl) ht)
end F_laws_markInstanceS
/-! Function loop.example/instancesearch/laws.markWorld -/
namespace F_laws_markWorld
noncomputable abbrev fn : Func := Go.Proofs.Try.f25
def kp : Keeps := []
noncomputable def C (p : List Nat) : Code := (cod fn).sub p
def KR (Q : QT) : KT := retA pg fn.results.toList Q
theorem call (a0x0 : Pt) (n0x0 c0x0 : Nat) (e0x0 : Bool) (a0x1 : Pt) (n0x1 c0x1 : Nat) (e0x1 : Bool) (x1 : Int) (h : AHeap) (Q : QT) (ht :
 letH (h ++ [.cells t_impl_World [.slice a0x0 n0x0 c0x0 e0x0, .slice a0x1 n0x1 c0x1 e0x1] false]) fun h_0 => xSl (hCell h_0 (.ptr (some (List.length h, 0 + 0)))) fun a_1 n_2 c_3 e_4 => SCall pg n_laws_markClassS [.slice a_1 n_2 c_3 e_4, .int .i64 x1] h_0 fun v_5 h_6 =>
 xInt .i64 (some v_5) fun x_7 => xSl (hCell h_6 (.ptr (some (List.length h, 0 + 1)))) fun a_8 n_9 c_10 e_11 => SCall pg n_laws_markInstanceS [.slice a_8 n_9 c_10 e_11, .int .i64 x_7] h_6 fun v_12 h_13 =>
 xInt .i64 (some v_12) fun x_14 => Q (.int .i64 x_14) h_13) : SCall pg n_laws_markWorld [.agg [.slice a0x0 n0x0 c0x0 e0x0, .slice a0x1 n0x1 c0x1 e0x1], .int .i64 x1] h Q :=
  SCall.of_body kp (c := cod fn) (fn := fn) Go.Proofs.Try.func25 (by kernel_rfl) (by kernel_rfl) (Nat.le_of_ble_eq_true (by kernel_rfl))
    (@cast _ (den pg fn.ntmps kp (cod fn) (Env.args 0 [.agg [.slice a0x0 n0x0 c0x0 e0x0, .slice a0x1 n0x1 c0x1 e0x1], .int .i64 x1]) h (KR Q)) (by kernel_rfl) ht)
end F_laws_markWorld
end Go.Sim

/- Printed by wip/tool: what the functions' bodies do, in the words of 'den'. -/
set_option maxRecDepth 100000
set_option linter.unusedVariables false
namespace Go.Sim
open Go Go.RowKit
/-! Function loop.example/instancesearch/laws.markIntS -/
namespace F_laws_markIntS
noncomputable abbrev fn : Func := Go.Proofs.Try.f31
def kp : Keeps := [(3000002, [1]), (1000002, [0, 1, 5])]
noncomputable def C (p : List Nat) : Code := (cod fn).sub p
def KR (Q : QT) : KT := retA pg fn.results.toList Q
abbrev T2 := Pt → Nat → Nat → Bool → Int → Int → AHeap → Prop
def E2 (R2 : T2) (env : Env) (h : AHeap) : Prop := eVal 0 env fun v env => xSl (some v) fun a0 n0 c0 e0 => eVal 1 env fun v env => eInt .i64 v fun x1 => eVal 5 env fun v env => eInt .i64 v fun x5 => eNil env (R2 a0 n0 c0 e0 x1 x5 h)
theorem E2elim {R2 : T2} {env : Env} {h : AHeap} (hi : E2 R2 env h) : ∃ a0, ∃ n0, ∃ c0, ∃ e0, ∃ x1, ∃ x5, env = [(0, .slice a0 n0 c0 e0), (1, .int .i64 x1), (5, .int .i64 x5)] ∧ R2 a0 n0 c0 e0 x1 x5 h := by
  unfold E2 at hi
  have hi0 := hi
  clear hi
  obtain ⟨v, env, rfl, hi1⟩ := eVal_elim hi0
  obtain ⟨a0, n0, c0, e0, rfl, hi2⟩ := xSl_elim hi1
  obtain ⟨v, env, rfl, hi3⟩ := eVal_elim hi2
  obtain ⟨x1, rfl, hi4⟩ := eInt_elim hi3
  obtain ⟨v, env, rfl, hi5⟩ := eVal_elim hi4
  obtain ⟨x5, rfl, hi6⟩ := eInt_elim hi5
  obtain ⟨rfl, hi7⟩ := eNil_elim hi6
  have hi := hi7
  exact ⟨a0, n0, c0, e0, x1, x5, rfl, hi⟩
def K0 (Q : QT) : KT := andThen (fun env' h' => (match kp.find 4000006 with | some ks => Den pg fn.ntmps (C [1, 1]) (env'.keep ks) h' (KR Q) | none => den pg fn.ntmps kp (C [1, 1]) env' h' (KR Q))) (KR Q)
def K1 (Q : QT) : KT := onExit 0 (K0 Q)
def K2 (Q : QT) : KT := left kp 2 (K1 Q)
def K3 (Q : QT) (R2 : T2) : KT := rnd ((kp.find 1000002).getD []) (E2 R2) (K2 Q)
def L2 (Q : QT) (a0 : Pt) (n0 c0 : Nat) (e0 : Bool) (x1 x5 : Int) (h : AHeap) : Prop := Loop (Den pg fn.ntmps (C [1, 0, 1, 0, 0])) ((kp.find 1000002).getD []) (K2 Q) [(0, .slice a0 n0 c0 e0), (1, .int .i64 x1), (5, .int .i64 x5)] h
def A2x0 (Q : QT) (x1 : Int) (h : AHeap) : Prop := At (K1 Q) (.exit 0) [(1, .int .i64 x1)] h
def L2t (Q : QT) (R2 : T2) (a0 : Pt) (n0 c0 : Nat) (e0 : Bool) (x1 x5 : Int) (h : AHeap) : Prop :=
 bcase (decide ((x5 : Int) < (((n0 : Nat) : Int)))) ((0 ≤ (x5 : Int) ∧ (x5 : Int) < (n0 : Nat)) ∧ (xSome a0 fun i_0 o_1 => xHeap (hStore h (.ptr (some (i_0, o_1 + (Int.toNat x5) * 1))) [.int .i64 x1]) fun h_2 => R2 a0 n0 c0 e0 (IntKind.wrap .i64 (x1 + 1)) (IntKind.wrap .i64 (x5 + 1)) h_2)) (A2x0 Q x1 h)
theorem L2den (Q : QT) (R2 : T2) (a0 : Pt) (n0 c0 : Nat) (e0 : Bool) (x1 x5 : Int) (h : AHeap) (ht : L2t Q R2 a0 n0 c0 e0 x1 x5 h) : Den pg fn.ntmps (C [1, 0, 1, 0, 0]) [(0, .slice a0 n0 c0 e0), (1, .int .i64 x1), (5, .int .i64 x5)] h (K3 Q R2) :=
  den_Den (kp := kp) (@cast _ (den pg fn.ntmps kp (C [1, 0, 1, 0, 0]) [(0, .slice a0 n0 c0 e0), (1, .int .i64 x1), (5, .int .i64 x5)] h (K3 Q R2)) (by kernel_rfl) ht)
theorem L2ind (Q : QT) (a0 : Pt) (n0 c0 : Nat) (e0 : Bool) {G : Type} (J : G → Int → Int → AHeap → Prop) (m : G → Nat)
 (hr : ∀ (g : G) (x1 x5 : Int) (h : AHeap), J g x1 x5 h → ∀ (R2 : T2), (∀ g' (x1 x5 : Int) (h : AHeap), m g' < m g → J g' x1 x5 h → R2 a0 n0 c0 e0 x1 x5 h) → L2t Q R2 a0 n0 c0 e0 x1 x5 h)
 (g : G) (x1 x5 : Int) (h : AHeap) (hj : J g x1 x5 h) : L2 Q a0 n0 c0 e0 x1 x5 h := by
  refine Loop.inv2 (fun g => E2 fun a0' n0' c0' e0' x1 x5 h => a0 = a0' ∧ n0 = n0' ∧ c0 = c0' ∧ e0 = e0' ∧ J g x1 x5 h) (fun g => E2 fun a0' n0' c0' e0' x1 x5 h => a0 = a0' ∧ n0 = n0' ∧ c0 = c0' ∧ e0 = e0' ∧ ∃ g', m g' < m g ∧ J g' x1 x5 h) m ?_ ?_ g ⟨rfl, rfl, rfl, rfl, hj⟩
  · intro g env h hi
    obtain ⟨a0', n0', c0', e0', x1, x5, rfl, rfl, rfl, rfl, rfl, hj⟩ := E2elim hi
    exact L2den Q (fun a0' n0' c0' e0' x1 x5 h => a0 = a0' ∧ n0 = n0' ∧ c0 = c0' ∧ e0 = e0' ∧ ∃ g', m g' < m g ∧ J g' x1 x5 h) a0 n0 c0 e0 x1 x5 h (hr g x1 x5 h hj (fun a0' n0' c0' e0' x1 x5 h => a0 = a0' ∧ n0 = n0' ∧ c0 = c0' ∧ e0 = e0' ∧ ∃ g', m g' < m g ∧ J g' x1 x5 h) fun g' x1 x5 h hlt hj => ⟨rfl, rfl, rfl, rfl, g', hlt, hj⟩)
  · intro g env h hi
    obtain ⟨a0', n0', c0', e0', x1, x5, rfl, rfl, rfl, rfl, rfl, g', hlt, hj⟩ := E2elim hi
    exact ⟨g', hlt, rfl, rfl, rfl, rfl, hj⟩
theorem A2x0i (Q : QT) (x1 : Int) (h : AHeap) (ht :
 Q (.int .i64 x1) h) : A2x0 Q x1 h :=
  At.mk (@cast _ ((K1 Q) (.exit 0) [(1, .int .i64 x1)] h) (by kernel_rfl) ht)
theorem call (a0 : Pt) (n0 c0 : Nat) (e0 : Bool) (x1 : Int) (h : AHeap) (Q : QT) (ht :
 L2 Q a0 n0 c0 e0 x1 0 h) : SCall pg n_laws_markIntS [.slice a0 n0 c0 e0, .int .i64 x1] h Q :=
  SCall.of_body kp (c := cod fn) (fn := fn) Go.Proofs.Try.func31 (by kernel_rfl) (by kernel_rfl) (Nat.le_of_ble_eq_true (by kernel_rfl))
    (@cast _ (den pg fn.ntmps kp (cod fn) (Env.args 0 [.slice a0 n0 c0 e0, .int .i64 x1]) h (KR Q)) (by kernel_rfl) ht)
end F_laws_markIntS
/-! Function loop.example/instancesearch/laws.heldIntS -/
namespace F_laws_heldIntS
noncomputable abbrev fn : Func := Go.Proofs.Try.f32
def kp : Keeps := [(3000002, [1, 4]), (1000002, [0, 1, 5])]
noncomputable def C (p : List Nat) : Code := (cod fn).sub p
def KR (Q : QT) : KT := retA pg fn.results.toList Q
abbrev T2 := Pt → Nat → Nat → Bool → Int → Int → AHeap → Prop
def E2 (R2 : T2) (env : Env) (h : AHeap) : Prop := eVal 0 env fun v env => xSl (some v) fun a0 n0 c0 e0 => eVal 1 env fun v env => eInt .i64 v fun x1 => eVal 5 env fun v env => eInt .i64 v fun x5 => eNil env (R2 a0 n0 c0 e0 x1 x5 h)
theorem E2elim {R2 : T2} {env : Env} {h : AHeap} (hi : E2 R2 env h) : ∃ a0, ∃ n0, ∃ c0, ∃ e0, ∃ x1, ∃ x5, env = [(0, .slice a0 n0 c0 e0), (1, .int .i64 x1), (5, .int .i64 x5)] ∧ R2 a0 n0 c0 e0 x1 x5 h := by
  unfold E2 at hi
  have hi0 := hi
  clear hi
  obtain ⟨v, env, rfl, hi1⟩ := eVal_elim hi0
  obtain ⟨a0, n0, c0, e0, rfl, hi2⟩ := xSl_elim hi1
  obtain ⟨v, env, rfl, hi3⟩ := eVal_elim hi2
  obtain ⟨x1, rfl, hi4⟩ := eInt_elim hi3
  obtain ⟨v, env, rfl, hi5⟩ := eVal_elim hi4
  obtain ⟨x5, rfl, hi6⟩ := eInt_elim hi5
  obtain ⟨rfl, hi7⟩ := eNil_elim hi6
  have hi := hi7
  exact ⟨a0, n0, c0, e0, x1, x5, rfl, hi⟩
def K0 (Q : QT) : KT := andThen (fun env' h' => (match kp.find 4000007 with | some ks => Den pg fn.ntmps (C [1, 1]) (env'.keep ks) h' (KR Q) | none => den pg fn.ntmps kp (C [1, 1]) env' h' (KR Q))) (KR Q)
def K1 (Q : QT) : KT := onExit 0 (K0 Q)
def K2 (Q : QT) : KT := left kp 2 (K1 Q)
def K3 (Q : QT) (R2 : T2) : KT := rnd ((kp.find 1000002).getD []) (E2 R2) (K2 Q)
def L2 (Q : QT) (a0 : Pt) (n0 c0 : Nat) (e0 : Bool) (x1 x5 : Int) (h : AHeap) : Prop := Loop (Den pg fn.ntmps (C [1, 0, 1, 0, 0])) ((kp.find 1000002).getD []) (K2 Q) [(0, .slice a0 n0 c0 e0), (1, .int .i64 x1), (5, .int .i64 x5)] h
def A2x0 (Q : QT) (x1 : Int) (h : AHeap) : Prop := At (K1 Q) (.exit 0) [(1, .int .i64 x1), (4, .undef)] h
def L2t (Q : QT) (R2 : T2) (a0 : Pt) (n0 c0 : Nat) (e0 : Bool) (x1 x5 : Int) (h : AHeap) : Prop :=
 bcase (decide ((x5 : Int) < (((n0 : Nat) : Int)))) ((0 ≤ (x5 : Int) ∧ (x5 : Int) < (n0 : Nat)) ∧ (xSome a0 fun i_0 o_1 => xInt .i64 (hCell h (.ptr (some (i_0, o_1 + (Int.toNat x5) * 1)))) fun x_2 => bcase (!((x_2 : Int) == x1)) (Q (.int .i64 (-1)) h) (R2 a0 n0 c0 e0 (IntKind.wrap .i64 (x1 + 1)) (IntKind.wrap .i64 (x5 + 1)) h))) (A2x0 Q x1 h)
theorem L2den (Q : QT) (R2 : T2) (a0 : Pt) (n0 c0 : Nat) (e0 : Bool) (x1 x5 : Int) (h : AHeap) (ht : L2t Q R2 a0 n0 c0 e0 x1 x5 h) : Den pg fn.ntmps (C [1, 0, 1, 0, 0]) [(0, .slice a0 n0 c0 e0), (1, .int .i64 x1), (5, .int .i64 x5)] h (K3 Q R2) :=
  den_Den (kp := kp) (@cast _ (den pg fn.ntmps kp (C [1, 0, 1, 0, 0]) [(0, .slice a0 n0 c0 e0), (1, .int .i64 x1), (5, .int .i64 x5)] h (K3 Q R2)) (by kernel_rfl) ht)
theorem L2ind (Q : QT) (a0 : Pt) (n0 c0 : Nat) (e0 : Bool) {G : Type} (J : G → Int → Int → AHeap → Prop) (m : G → Nat)
 (hr : ∀ (g : G) (x1 x5 : Int) (h : AHeap), J g x1 x5 h → ∀ (R2 : T2), (∀ g' (x1 x5 : Int) (h : AHeap), m g' < m g → J g' x1 x5 h → R2 a0 n0 c0 e0 x1 x5 h) → L2t Q R2 a0 n0 c0 e0 x1 x5 h)
 (g : G) (x1 x5 : Int) (h : AHeap) (hj : J g x1 x5 h) : L2 Q a0 n0 c0 e0 x1 x5 h := by
  refine Loop.inv2 (fun g => E2 fun a0' n0' c0' e0' x1 x5 h => a0 = a0' ∧ n0 = n0' ∧ c0 = c0' ∧ e0 = e0' ∧ J g x1 x5 h) (fun g => E2 fun a0' n0' c0' e0' x1 x5 h => a0 = a0' ∧ n0 = n0' ∧ c0 = c0' ∧ e0 = e0' ∧ ∃ g', m g' < m g ∧ J g' x1 x5 h) m ?_ ?_ g ⟨rfl, rfl, rfl, rfl, hj⟩
  · intro g env h hi
    obtain ⟨a0', n0', c0', e0', x1, x5, rfl, rfl, rfl, rfl, rfl, hj⟩ := E2elim hi
    exact L2den Q (fun a0' n0' c0' e0' x1 x5 h => a0 = a0' ∧ n0 = n0' ∧ c0 = c0' ∧ e0 = e0' ∧ ∃ g', m g' < m g ∧ J g' x1 x5 h) a0 n0 c0 e0 x1 x5 h (hr g x1 x5 h hj (fun a0' n0' c0' e0' x1 x5 h => a0 = a0' ∧ n0 = n0' ∧ c0 = c0' ∧ e0 = e0' ∧ ∃ g', m g' < m g ∧ J g' x1 x5 h) fun g' x1 x5 h hlt hj => ⟨rfl, rfl, rfl, rfl, g', hlt, hj⟩)
  · intro g env h hi
    obtain ⟨a0', n0', c0', e0', x1, x5, rfl, rfl, rfl, rfl, rfl, g', hlt, hj⟩ := E2elim hi
    exact ⟨g', hlt, rfl, rfl, rfl, rfl, hj⟩
theorem A2x0i (Q : QT) (x1 : Int) (h : AHeap) (ht :
 Q (.int .i64 x1) h) : A2x0 Q x1 h :=
  At.mk (@cast _ ((K1 Q) (.exit 0) [(1, .int .i64 x1), (4, .undef)] h) (by kernel_rfl) ht)
theorem call (a0 : Pt) (n0 c0 : Nat) (e0 : Bool) (x1 : Int) (h : AHeap) (Q : QT) (ht :
 L2 Q a0 n0 c0 e0 x1 0 h) : SCall pg n_laws_heldIntS [.slice a0 n0 c0 e0, .int .i64 x1] h Q :=
  SCall.of_body kp (c := cod fn) (fn := fn) Go.Proofs.Try.func32 (by kernel_rfl) (by kernel_rfl) (Nat.le_of_ble_eq_true (by kernel_rfl))
    (@cast _ (den pg fn.ntmps kp (cod fn) (Env.args 0 [.slice a0 n0 c0 e0, .int .i64 x1]) h (KR Q)) (by kernel_rfl) ht)
end F_laws_heldIntS
end Go.Sim

/- Printed by wip/tool: what the functions' bodies do, in the words of 'den'. -/
set_option maxRecDepth 100000
set_option linter.unusedVariables false
namespace Go.Sim
open Go Go.RowKit
/-! Function loop.example/instancesearch/laws.FnExactIsEnding -/
namespace F_laws_FnExactIsEnding
noncomputable abbrev fn : Func := Go.Proofs.Try.f4
def kp : Keeps := [(2000010, [26])]
noncomputable def C (p : List Nat) : Code := (cod fn).sub p
def KR (Q : QT) : KT := retA pg fn.results.toList Q
theorem call (a0x0 : Pt) (n0x0 c0x0 : Nat) (e0x0 : Bool) (a0x1 : Pt) (n0x1 c0x1 : Nat) (e0x1 : Bool) (h : AHeap) (Q : QT) (ht :
 letH (h ++ [.cells t_laws_World [.slice a0x0 n0x0 c0x0 e0x0, .slice a0x1 n0x1 c0x1 e0x1] false]) fun h_0 => xRow (hRow h_0 (.ptr (some (List.length h, 0))) 2) fun cs_1 => xCons cs_1 fun c_2 r_3 => xSl (some c_2) fun a_4 n_5 c_6 e_7 => xCons r_3 fun c_8 r_9 => xSl (some c_8) fun a_10 n_11 c_12 e_13 => xNil r_9 (SCall pg n_laws_szWorld [.agg [.slice a_4 n_5 c_6 e_7, .slice a_10 n_11 c_12 e_13], .int .i64 1048576] h_0 fun v_14 h_15 =>
 xInt .i64 (some v_14) fun x_16 => bcase (decide ((x_16 : Int) < 0)) (Q (.bool true) h_15) (xRow (hRow h_15 (.ptr (some (List.length h, 0))) 2) fun cs_17 => xCons cs_17 fun c_18 r_19 => xSl (some c_18) fun a_20 n_21 c_22 e_23 => xCons r_19 fun c_24 r_25 => xSl (some c_24) fun a_26 n_27 c_28 e_29 => xNil r_25 (SCall pg n_laws_toWorld [.agg [.slice a_20 n_21 c_22 e_23, .slice a_26 n_27 c_28 e_29]] h_15 fun v_30 h_31 =>
 xAgg v_30 fun cs_32 => xCons cs_32 fun c_33 r_34 => xSl (some c_33) fun a_35 n_36 c_37 e_38 => xCons r_34 fun c_39 r_40 => xSl (some c_39) fun a_41 n_42 c_43 e_44 => xNil r_40 (SCall pg n_spec_IsEnding [.agg [.slice a_35 n_36 c_37 e_38, .slice a_41 n_42 c_43 e_44]] h_31 fun v_45 h_46 =>
 xBool (some v_45) fun b_47 => xRow (hRow h_46 (.ptr (some (List.length h, 0))) 2) fun cs_48 => xCons cs_48 fun c_49 r_50 => xSl (some c_49) fun a_51 n_52 c_53 e_54 => xCons r_50 fun c_55 r_56 => xSl (some c_55) fun a_57 n_58 c_59 e_60 => xNil r_56 (SCall pg n_laws_toWorld [.agg [.slice a_51 n_52 c_53 e_54, .slice a_57 n_58 c_59 e_60]] h_46 fun v_61 h_62 =>
 xAgg v_61 fun cs_63 => xCons cs_63 fun c_64 r_65 => xSl (some c_64) fun a_66 n_67 c_68 e_69 => xCons r_65 fun c_70 r_71 => xSl (some c_70) fun a_72 n_73 c_74 e_75 => xNil r_71 (letH (h_62 ++ [.cells t_impl_World [.slice none 0 0 true, .slice none 0 0 true] false]) fun h_76 => xHeap (hStore h_76 (.ptr (some (List.length h_62, 0))) [.slice a_66 n_67 c_68 e_69, .slice a_72 n_73 c_74 e_75]) fun h_77 => xRow (hRow h_77 (.ptr (some (List.length h_62, 0))) 2) fun cs_78 => xCons cs_78 fun c_79 r_80 => xSl (some c_79) fun a_81 n_82 c_83 e_84 => xCons r_80 fun c_85 r_86 => xSl (some c_85) fun a_87 n_88 c_89 e_90 => xNil r_86 (SCall pg n_impl_IsEnding [.agg [.slice a_81 n_82 c_83 e_84, .slice a_87 n_88 c_89 e_90]] h_77 fun v_91 h_92 =>
 xBool (some v_91) fun b_93 => bcase (!(b_93 == b_47)) (Q (.bool false) h_92) (xRow (hRow h_92 (.ptr (some (List.length h_62, 0))) 2) fun cs_94 => xCons cs_94 fun c_95 r_96 => xSl (some c_95) fun a_97 n_98 c_99 e_100 => xCons r_96 fun c_101 r_102 => xSl (some c_101) fun a_103 n_104 c_105 e_106 => xNil r_102 (xRow (hRow h_92 (.ptr (some (List.length h, 0))) 2) fun cs_107 => xCons cs_107 fun c_108 r_109 => xSl (some c_108) fun a_110 n_111 c_112 e_113 => xCons r_109 fun c_114 r_115 => xSl (some c_114) fun a_116 n_117 c_118 e_119 => xNil r_115 ((hRow h_92 (.ptr (some (List.length h_62, 0))) 2 = hRow h_92 (.ptr (some (List.length h_62, 0))) 2) ∧ SCall pg n_laws_toWorld [.agg [.slice a_110 n_111 c_112 e_113, .slice a_116 n_117 c_118 e_119]] h_92 fun v_120 h_121 =>
 xAgg v_120 fun cs_122 => xCons cs_122 fun c_123 r_124 => xSl (some c_123) fun a_125 n_126 c_127 e_128 => xCons r_124 fun c_129 r_130 => xSl (some c_129) fun a_131 n_132 c_133 e_134 => xNil r_130 ((hRow h_121 (.ptr (some (List.length h_62, 0))) 2 = hRow h_92 (.ptr (some (List.length h_62, 0))) 2) ∧ SCall pg n_laws_eqWorld [.agg [.slice a_97 n_98 c_99 e_100, .slice a_103 n_104 c_105 e_106], .agg [.slice a_125 n_126 c_127 e_128, .slice a_131 n_132 c_133 e_134]] h_121 fun v_135 h_136 =>
 xBool (some v_135) fun b_137 => bcase (!b_137) (Q (.bool false) h_136) (Q (.bool true) h_136))))))))))))) : SCall pg n_laws_FnExactIsEnding [.agg [.slice a0x0 n0x0 c0x0 e0x0, .slice a0x1 n0x1 c0x1 e0x1]] h Q :=
  SCall.of_body kp (c := cod fn) (fn := fn) Go.Proofs.Try.func4 (by kernel_rfl) (by kernel_rfl) (Nat.le_of_ble_eq_true (by kernel_rfl))
    (@cast _ (den pg fn.ntmps kp (cod fn) (Env.args 0 [.agg [.slice a0x0 n0x0 c0x0 e0x0, .slice a0x1 n0x1 c0x1 e0x1]]) h (KR Q)) (by kernel_rfl) ht)
end F_laws_FnExactIsEnding
end Go.Sim

/- Printed by wip/tool: what the functions' bodies do, in the words of 'den'. -/
set_option maxRecDepth 100000
set_option linter.unusedVariables false
namespace Go.Sim
open Go Go.RowKit
/-! Function loop.example/instancesearch/laws.FnExactGivensValid -/
namespace F_laws_FnExactGivensValid
noncomputable abbrev fn : Func := Go.Proofs.Try.f3
def kp : Keeps := [(2000014, [39, 8, 1])]
noncomputable def C (p : List Nat) : Code := (cod fn).sub p
def KR (Q : QT) : KT := retA pg fn.results.toList Q
theorem call (a0x0 : Pt) (n0x0 c0x0 : Nat) (e0x0 : Bool) (a0x1 : Pt) (n0x1 c0x1 : Nat) (e0x1 : Bool) (a1 : Pt) (n1 c1 : Nat) (e1 : Bool) (h : AHeap) (Q : QT) (ht :
 letH (h ++ [.cells t_laws_World [.slice a0x0 n0x0 c0x0 e0x0, .slice a0x1 n0x1 c0x1 e0x1] false]) fun h_0 => xRow (hRow h_0 (.ptr (some (List.length h, 0))) 2) fun cs_1 => xCons cs_1 fun c_2 r_3 => xSl (some c_2) fun a_4 n_5 c_6 e_7 => xCons r_3 fun c_8 r_9 => xSl (some c_8) fun a_10 n_11 c_12 e_13 => xNil r_9 (SCall pg n_laws_szWorld [.agg [.slice a_4 n_5 c_6 e_7, .slice a_10 n_11 c_12 e_13], .int .i64 1048576] h_0 fun v_14 h_15 =>
 xInt .i64 (some v_14) fun x_16 => bcase (decide ((x_16 : Int) < 0)) (Q (.bool true) h_15) (SCall pg n_laws_szNeedS [.slice a1 n1 c1 e1, .int .i64 x_16] h_15 fun v_17 h_18 =>
 xInt .i64 (some v_17) fun x_19 => bcase (decide ((x_19 : Int) < 0)) (Q (.bool true) h_18) (xRow (hRow h_18 (.ptr (some (List.length h, 0))) 2) fun cs_20 => xCons cs_20 fun c_21 r_22 => xSl (some c_21) fun a_23 n_24 c_25 e_26 => xCons r_22 fun c_27 r_28 => xSl (some c_27) fun a_29 n_30 c_31 e_32 => xNil r_28 (SCall pg n_laws_toWorld [.agg [.slice a_23 n_24 c_25 e_26, .slice a_29 n_30 c_31 e_32]] h_18 fun v_33 h_34 =>
 xAgg v_33 fun cs_35 => xCons cs_35 fun c_36 r_37 => xSl (some c_36) fun a_38 n_39 c_40 e_41 => xCons r_37 fun c_42 r_43 => xSl (some c_42) fun a_44 n_45 c_46 e_47 => xNil r_43 (SCall pg n_laws_toNeedS [.slice a1 n1 c1 e1] h_34 fun v_48 h_49 =>
 xSl (some v_48) fun a_50 n_51 c_52 e_53 => SCall pg n_spec_GivensValid [.agg [.slice a_38 n_39 c_40 e_41, .slice a_44 n_45 c_46 e_47], .slice a_50 n_51 c_52 e_53] h_49 fun v_54 h_55 =>
 xBool (some v_54) fun b_56 => xRow (hRow h_55 (.ptr (some (List.length h, 0))) 2) fun cs_57 => xCons cs_57 fun c_58 r_59 => xSl (some c_58) fun a_60 n_61 c_62 e_63 => xCons r_59 fun c_64 r_65 => xSl (some c_64) fun a_66 n_67 c_68 e_69 => xNil r_65 (SCall pg n_laws_toWorld [.agg [.slice a_60 n_61 c_62 e_63, .slice a_66 n_67 c_68 e_69]] h_55 fun v_70 h_71 =>
 xAgg v_70 fun cs_72 => xCons cs_72 fun c_73 r_74 => xSl (some c_73) fun a_75 n_76 c_77 e_78 => xCons r_74 fun c_79 r_80 => xSl (some c_79) fun a_81 n_82 c_83 e_84 => xNil r_80 (letH (h_71 ++ [.cells t_impl_World [.slice none 0 0 true, .slice none 0 0 true] false]) fun h_85 => xHeap (hStore h_85 (.ptr (some (List.length h_71, 0))) [.slice a_75 n_76 c_77 e_78, .slice a_81 n_82 c_83 e_84]) fun h_86 => SCall pg n_laws_toNeedS [.slice a1 n1 c1 e1] h_86 fun v_87 h_88 =>
 xSl (some v_87) fun a_89 n_90 c_91 e_92 => xRow (hRow h_88 (.ptr (some (List.length h_71, 0))) 2) fun cs_93 => xCons cs_93 fun c_94 r_95 => xSl (some c_94) fun a_96 n_97 c_98 e_99 => xCons r_95 fun c_100 r_101 => xSl (some c_100) fun a_102 n_103 c_104 e_105 => xNil r_101 (SCall pg n_impl_GivensValid [.agg [.slice a_96 n_97 c_98 e_99, .slice a_102 n_103 c_104 e_105], .slice a_89 n_90 c_91 e_92] h_88 fun v_106 h_107 =>
 xBool (some v_106) fun b_108 => bcase (!(b_108 == b_56)) (Q (.bool false) h_107) (xRow (hRow h_107 (.ptr (some (List.length h_71, 0))) 2) fun cs_109 => xCons cs_109 fun c_110 r_111 => xSl (some c_110) fun a_112 n_113 c_114 e_115 => xCons r_111 fun c_116 r_117 => xSl (some c_116) fun a_118 n_119 c_120 e_121 => xNil r_117 (xRow (hRow h_107 (.ptr (some (List.length h, 0))) 2) fun cs_122 => xCons cs_122 fun c_123 r_124 => xSl (some c_123) fun a_125 n_126 c_127 e_128 => xCons r_124 fun c_129 r_130 => xSl (some c_129) fun a_131 n_132 c_133 e_134 => xNil r_130 ((hRow h_107 (.ptr (some (List.length h_71, 0))) 2 = hRow h_107 (.ptr (some (List.length h_71, 0))) 2) ∧ SCall pg n_laws_toWorld [.agg [.slice a_125 n_126 c_127 e_128, .slice a_131 n_132 c_133 e_134]] h_107 fun v_135 h_136 =>
 xAgg v_135 fun cs_137 => xCons cs_137 fun c_138 r_139 => xSl (some c_138) fun a_140 n_141 c_142 e_143 => xCons r_139 fun c_144 r_145 => xSl (some c_144) fun a_146 n_147 c_148 e_149 => xNil r_145 ((hRow h_136 (.ptr (some (List.length h_71, 0))) 2 = hRow h_107 (.ptr (some (List.length h_71, 0))) 2) ∧ SCall pg n_laws_eqWorld [.agg [.slice a_112 n_113 c_114 e_115, .slice a_118 n_119 c_120 e_121], .agg [.slice a_140 n_141 c_142 e_143, .slice a_146 n_147 c_148 e_149]] h_136 fun v_150 h_151 =>
 xBool (some v_150) fun b_152 => bcase (!b_152) (Q (.bool false) h_151) (SCall pg n_laws_toNeedS [.slice a1 n1 c1 e1] h_151 fun v_153 h_154 =>
 xSl (some v_153) fun a_155 n_156 c_157 e_158 => SCall pg n_laws_eqNeedS [.slice a_89 n_90 c_91 e_92, .slice a_155 n_156 c_157 e_158] h_154 fun v_159 h_160 =>
 xBool (some v_159) fun b_161 => bcase (!b_161) (Q (.bool false) h_160) (Q (.bool true) h_160))))))))))))))) : SCall pg n_laws_FnExactGivensValid [.agg [.slice a0x0 n0x0 c0x0 e0x0, .slice a0x1 n0x1 c0x1 e0x1], .slice a1 n1 c1 e1] h Q :=
  SCall.of_body kp (c := cod fn) (fn := fn) Go.Proofs.Try.func3 (by kernel_rfl) (by kernel_rfl) (Nat.le_of_ble_eq_true (by kernel_rfl))
    (@cast _ (den pg fn.ntmps kp (cod fn) (Env.args 0 [.agg [.slice a0x0 n0x0 c0x0 e0x0, .slice a0x1 n0x1 c0x1 e0x1], .slice a1 n1 c1 e1]) h (KR Q)) (by kernel_rfl) ht)
end F_laws_FnExactGivensValid
end Go.Sim

/- Printed by wip/tool: what the functions' bodies do, in the words of 'den'. -/
set_option maxRecDepth 100000
set_option linter.unusedVariables false
namespace Go.Sim
open Go Go.RowKit
/-! Function loop.example/instancesearch/laws.toInstanceS -/
namespace F_laws_toInstanceS
noncomputable abbrev fn : Func := Go.Proofs.Try.f54
def kp : Keeps := [(3000003, [3]), (1000003, [0, 3, 4])]
noncomputable def C (p : List Nat) : Code := (cod fn).sub p
def KR (Q : QT) : KT := retA pg fn.results.toList Q
abbrev T3 := Pt → Nat → Nat → Bool → Pt → Nat → Nat → Bool → Int → AHeap → Prop
def E3 (R3 : T3) (env : Env) (h : AHeap) : Prop := eVal 0 env fun v env => xSl (some v) fun a0 n0 c0 e0 => eVal 3 env fun v env => xSl (some v) fun a3 n3 c3 e3 => eVal 4 env fun v env => eInt .i64 v fun x4 => eNil env (R3 a0 n0 c0 e0 a3 n3 c3 e3 x4 h)
theorem E3elim {R3 : T3} {env : Env} {h : AHeap} (hi : E3 R3 env h) : ∃ a0, ∃ n0, ∃ c0, ∃ e0, ∃ a3, ∃ n3, ∃ c3, ∃ e3, ∃ x4, env = [(0, .slice a0 n0 c0 e0), (3, .slice a3 n3 c3 e3), (4, .int .i64 x4)] ∧ R3 a0 n0 c0 e0 a3 n3 c3 e3 x4 h := by
  unfold E3 at hi
  have hi0 := hi
  clear hi
  obtain ⟨v, env, rfl, hi1⟩ := eVal_elim hi0
  obtain ⟨a0, n0, c0, e0, rfl, hi2⟩ := xSl_elim hi1
  obtain ⟨v, env, rfl, hi3⟩ := eVal_elim hi2
  obtain ⟨a3, n3, c3, e3, rfl, hi4⟩ := xSl_elim hi3
  obtain ⟨v, env, rfl, hi5⟩ := eVal_elim hi4
  obtain ⟨x4, rfl, hi6⟩ := eInt_elim hi5
  obtain ⟨rfl, hi7⟩ := eNil_elim hi6
  have hi := hi7
  exact ⟨a0, n0, c0, e0, a3, n3, c3, e3, x4, rfl, hi⟩
def K0 (Q : QT) : KT := andThen (fun env' h' => (match kp.find 4000006 with | some ks => Den pg fn.ntmps (C [1, 1, 1]) (env'.keep ks) h' (KR Q) | none => den pg fn.ntmps kp (C [1, 1, 1]) env' h' (KR Q))) (KR Q)
def K1 (Q : QT) : KT := onExit 0 (K0 Q)
def K2 (Q : QT) : KT := left kp 3 (K1 Q)
def K3 (Q : QT) (R3 : T3) : KT := rnd ((kp.find 1000003).getD []) (E3 R3) (K2 Q)
def L3 (Q : QT) (a0 : Pt) (n0 c0 : Nat) (e0 : Bool) (a3 : Pt) (n3 c3 : Nat) (e3 : Bool) (x4 : Int) (h : AHeap) : Prop := Loop (Den pg fn.ntmps (C [1, 1, 0, 1, 0, 0])) ((kp.find 1000003).getD []) (K2 Q) [(0, .slice a0 n0 c0 e0), (3, .slice a3 n3 c3 e3), (4, .int .i64 x4)] h
def A3x0 (Q : QT) (a3 : Pt) (n3 c3 : Nat) (e3 : Bool) (h : AHeap) : Prop := At (K1 Q) (.exit 0) [(3, .slice a3 n3 c3 e3)] h
def L3t (Q : QT) (R3 : T3) (a0 : Pt) (n0 c0 : Nat) (e0 : Bool) (a3 : Pt) (n3 c3 : Nat) (e3 : Bool) (x4 : Int) (h : AHeap) : Prop :=
 bcase (decide ((x4 : Int) < (((n0 : Nat) : Int)))) ((0 ≤ (x4 : Int) ∧ (x4 : Int) < (n0 : Nat)) ∧ (xSome a0 fun i_1 o_2 => xRow (hRow h (.ptr (some (i_1, o_2 + (Int.toNat x4) * 3))) 3) fun cs_3 => xCons cs_3 fun c_4 r_5 => xStr (some c_4) fun s_6 => xCons r_5 fun c_7 r_8 => xStr (some c_7) fun s_9 => xCons r_8 fun c_10 r_11 => xSl (some c_10) fun a_12 n_13 c_14 e_15 => xNil r_11 (SCall pg n_laws_toInstance [.agg [.str s_6, .str s_9, .slice a_12 n_13 c_14 e_15]] h fun v_16 h_17 =>
 xAgg v_16 fun cs_18 => xCons cs_18 fun c_19 r_20 => xStr (some c_19) fun s_21 => xCons r_20 fun c_22 r_23 => xStr (some c_22) fun s_24 => xCons r_23 fun c_25 r_26 => xSl (some c_25) fun a_27 n_28 c_29 e_30 => xNil r_26 ((0 ≤ (x4 : Int) ∧ (x4 : Int) < (n3 : Nat)) ∧ (xSome a3 fun i_31 o_32 => xHeap (hStore h_17 (.ptr (some (i_31, o_32 + (Int.toNat x4) * 3))) [.str s_21, .str s_24, .slice a_27 n_28 c_29 e_30]) fun h_33 => R3 a0 n0 c0 e0 a3 n3 c3 e3 (IntKind.wrap .i64 (x4 + 1)) h_33))))) (A3x0 Q a3 n3 c3 e3 h)
theorem L3den (Q : QT) (R3 : T3) (a0 : Pt) (n0 c0 : Nat) (e0 : Bool) (a3 : Pt) (n3 c3 : Nat) (e3 : Bool) (x4 : Int) (h : AHeap) (ht : L3t Q R3 a0 n0 c0 e0 a3 n3 c3 e3 x4 h) : Den pg fn.ntmps (C [1, 1, 0, 1, 0, 0]) [(0, .slice a0 n0 c0 e0), (3, .slice a3 n3 c3 e3), (4, .int .i64 x4)] h (K3 Q R3) :=
  den_Den (kp := kp) (@cast _ (den pg fn.ntmps kp (C [1, 1, 0, 1, 0, 0]) [(0, .slice a0 n0 c0 e0), (3, .slice a3 n3 c3 e3), (4, .int .i64 x4)] h (K3 Q R3)) (by kernel_rfl) ht)
theorem L3ind (Q : QT) (a0 : Pt) (n0 c0 : Nat) (e0 : Bool) (a3 : Pt) (n3 c3 : Nat) (e3 : Bool) {G : Type} (J : G → Int → AHeap → Prop) (m : G → Nat)
 (hr : ∀ (g : G) (x4 : Int) (h : AHeap), J g x4 h → ∀ (R3 : T3), (∀ g' (x4 : Int) (h : AHeap), m g' < m g → J g' x4 h → R3 a0 n0 c0 e0 a3 n3 c3 e3 x4 h) → L3t Q R3 a0 n0 c0 e0 a3 n3 c3 e3 x4 h)
 (g : G) (x4 : Int) (h : AHeap) (hj : J g x4 h) : L3 Q a0 n0 c0 e0 a3 n3 c3 e3 x4 h := by
  refine Loop.inv2 (fun g => E3 fun a0' n0' c0' e0' a3' n3' c3' e3' x4 h => a0 = a0' ∧ n0 = n0' ∧ c0 = c0' ∧ e0 = e0' ∧ a3 = a3' ∧ n3 = n3' ∧ c3 = c3' ∧ e3 = e3' ∧ J g x4 h) (fun g => E3 fun a0' n0' c0' e0' a3' n3' c3' e3' x4 h => a0 = a0' ∧ n0 = n0' ∧ c0 = c0' ∧ e0 = e0' ∧ a3 = a3' ∧ n3 = n3' ∧ c3 = c3' ∧ e3 = e3' ∧ ∃ g', m g' < m g ∧ J g' x4 h) m ?_ ?_ g ⟨rfl, rfl, rfl, rfl, rfl, rfl, rfl, rfl, hj⟩
  · intro g env h hi
    obtain ⟨a0', n0', c0', e0', a3', n3', c3', e3', x4, rfl, rfl, rfl, rfl, rfl, rfl, rfl, rfl, rfl, hj⟩ := E3elim hi
    exact L3den Q (fun a0' n0' c0' e0' a3' n3' c3' e3' x4 h => a0 = a0' ∧ n0 = n0' ∧ c0 = c0' ∧ e0 = e0' ∧ a3 = a3' ∧ n3 = n3' ∧ c3 = c3' ∧ e3 = e3' ∧ ∃ g', m g' < m g ∧ J g' x4 h) a0 n0 c0 e0 a3 n3 c3 e3 x4 h (hr g x4 h hj (fun a0' n0' c0' e0' a3' n3' c3' e3' x4 h => a0 = a0' ∧ n0 = n0' ∧ c0 = c0' ∧ e0 = e0' ∧ a3 = a3' ∧ n3 = n3' ∧ c3 = c3' ∧ e3 = e3' ∧ ∃ g', m g' < m g ∧ J g' x4 h) fun g' x4 h hlt hj => ⟨rfl, rfl, rfl, rfl, rfl, rfl, rfl, rfl, g', hlt, hj⟩)
  · intro g env h hi
    obtain ⟨a0', n0', c0', e0', a3', n3', c3', e3', x4, rfl, rfl, rfl, rfl, rfl, rfl, rfl, rfl, rfl, g', hlt, hj⟩ := E3elim hi
    exact ⟨g', hlt, rfl, rfl, rfl, rfl, rfl, rfl, rfl, rfl, hj⟩
theorem A3x0i (Q : QT) (a3 : Pt) (n3 c3 : Nat) (e3 : Bool) (h : AHeap) (ht :
 Q (.slice a3 n3 c3 e3) h) : A3x0 Q a3 n3 c3 e3 h :=
  At.mk (@cast _ ((K1 Q) (.exit 0) [(3, .slice a3 n3 c3 e3)] h) (by kernel_rfl) ht)
theorem call (a0 : Pt) (n0 c0 : Nat) (e0 : Bool) (h : AHeap) (Q : QT) (ht :
 IntKind.i64 = IntKind.i64 ∧ (IntKind.i64 = IntKind.i64 ∧ ((0 ≤ ((((n0 : Nat) : Int)) : Int) ∧ ((((n0 : Nat) : Int)) : Int) ≤ (((n0 : Nat) : Int)) ∧ ((((n0 : Nat) : Int)) : Int) * (((56 : Nat) : Int) + 1) ≤ 140737488355328) ∧ (letH (h ++ [.cells t_impl_Instance (reps (Int.toNat ((((n0 : Nat) : Int)))) [.str [], .str [], .slice none 0 0 true]) false]) fun h_0 => L3 Q a0 n0 c0 e0 (some (List.length h, 0)) (Int.toNat ((((n0 : Nat) : Int)))) (Int.toNat ((((n0 : Nat) : Int)))) true 0 h_0)))) : SCall pg n_laws_toInstanceS [.slice a0 n0 c0 e0] h Q :=
  SCall.of_body kp (c := cod fn) (fn := fn) Go.Proofs.Try.func54 (by kernel_rfl) (by kernel_rfl) (Nat.le_of_ble_eq_true (by kernel_rfl))
    (@cast _ (den pg fn.ntmps kp (cod fn) (Env.args 0 [.slice a0 n0 c0 e0]) h (KR Q)) (by kernel_rfl) ht)
end F_laws_toInstanceS
/-! Function loop.example/instancesearch/laws.toWorld -/
namespace F_laws_toWorld
noncomputable abbrev fn : Func := Go.Proofs.Try.f13
def kp : Keeps := []
noncomputable def C (p : List Nat) : Code := (cod fn).sub p
def KR (Q : QT) : KT := retA pg fn.results.toList Q
theorem call (a0x0 : Pt) (n0x0 c0x0 : Nat) (e0x0 : Bool) (a0x1 : Pt) (n0x1 c0x1 : Nat) (e0x1 : Bool) (h : AHeap) (Q : QT) (ht :
 letH (h ++ [.cells t_laws_World [.slice a0x0 n0x0 c0x0 e0x0, .slice a0x1 n0x1 c0x1 e0x1] false]) fun h_0 => letH (h_0 ++ [.cells t_impl_World [.slice none 0 0 true, .slice none 0 0 true] false]) fun h_1 => letH (h_1 ++ [.cells t_impl_World [.slice none 0 0 true, .slice none 0 0 true] false]) fun h_2 => xSl (hCell h_2 (.ptr (some (List.length h, 0 + 0)))) fun a_3 n_4 c_5 e_6 => SCall pg n_laws_toClassS [.slice a_3 n_4 c_5 e_6] h_2 fun v_7 h_8 =>
 xSl (some v_7) fun a_9 n_10 c_11 e_12 => xHeap (hStore h_8 (.ptr (some (List.length h_1, 0 + 0))) [.slice a_9 n_10 c_11 e_12]) fun h_13 => xSl (hCell h_13 (.ptr (some (List.length h, 0 + 1)))) fun a_14 n_15 c_16 e_17 => SCall pg n_laws_toInstanceS [.slice a_14 n_15 c_16 e_17] h_13 fun v_18 h_19 =>
 xSl (some v_18) fun a_20 n_21 c_22 e_23 => xHeap (hStore h_19 (.ptr (some (List.length h_1, 0 + 1))) [.slice a_20 n_21 c_22 e_23]) fun h_24 => xRow (hRow h_24 (.ptr (some (List.length h_1, 0))) 2) fun cs_25 => xCons cs_25 fun c_26 r_27 => xSl (some c_26) fun a_28 n_29 c_30 e_31 => xCons r_27 fun c_32 r_33 => xSl (some c_32) fun a_34 n_35 c_36 e_37 => xNil r_33 (xHeap (hStore h_24 (.ptr (some (List.length h_0, 0))) [.slice a_28 n_29 c_30 e_31, .slice a_34 n_35 c_36 e_37]) fun h_38 => xRow (hRow h_38 (.ptr (some (List.length h_0, 0))) 2) fun cs_39 => xCons cs_39 fun c_40 r_41 => xSl (some c_40) fun a_42 n_43 c_44 e_45 => xCons r_41 fun c_46 r_47 => xSl (some c_46) fun a_48 n_49 c_50 e_51 => xNil r_47 (Q (.agg [.slice a_42 n_43 c_44 e_45, .slice a_48 n_49 c_50 e_51]) h_38))) : SCall pg n_laws_toWorld [.agg [.slice a0x0 n0x0 c0x0 e0x0, .slice a0x1 n0x1 c0x1 e0x1]] h Q :=
  SCall.of_body kp (c := cod fn) (fn := fn) Go.Proofs.Try.func13 (by kernel_rfl) (by kernel_rfl) (Nat.le_of_ble_eq_true (by kernel_rfl))
    (@cast _ (den pg fn.ntmps kp (cod fn) (Env.args 0 [.agg [.slice a0x0 n0x0 c0x0 e0x0, .slice a0x1 n0x1 c0x1 e0x1]]) h (KR Q)) (by kernel_rfl) ht)
end F_laws_toWorld
/-! Function loop.example/instancesearch/laws.eqInstance -/
namespace F_laws_eqInstance
noncomputable abbrev fn : Func := Go.Proofs.Try.f24
def kp : Keeps := []
noncomputable def C (p : List Nat) : Code := (cod fn).sub p
def KR (Q : QT) : KT := retA pg fn.results.toList Q
theorem call (x0x0 x0x1 : List Nat) (a0x2 : Pt) (n0x2 c0x2 : Nat) (e0x2 : Bool) (x1x0 x1x1 : List Nat) (a1x2 : Pt) (n1x2 c1x2 : Nat) (e1x2 : Bool) (h : AHeap) (Q : QT) (ht :
 letH (h ++ [.cells t_impl_Instance [.str x0x0, .str x0x1, .slice a0x2 n0x2 c0x2 e0x2] false]) fun h_0 => letH (h_0 ++ [.cells t_impl_Instance [.str x1x0, .str x1x1, .slice a1x2 n1x2 c1x2 e1x2] false]) fun h_1 => xRow (hRow h_1 (.ptr (some (List.length h, 0 + 0))) 2) fun cs_2 => xCons cs_2 fun c_3 r_4 => xStr (some c_3) fun s_5 => xCons r_4 fun c_6 r_7 => xStr (some c_6) fun s_8 => xNil r_7 (xRow (hRow h_1 (.ptr (some (List.length h_0, 0 + 0))) 2) fun cs_9 => xCons cs_9 fun c_10 r_11 => xStr (some c_10) fun s_12 => xCons r_11 fun c_13 r_14 => xStr (some c_13) fun s_15 => xNil r_14 (SCall pg n_laws_eqNeed [.agg [.str s_5, .str s_8], .agg [.str s_12, .str s_15]] h_1 fun v_16 h_17 =>
 xBool (some v_16) fun b_18 => bcase (!b_18) (Q (.bool false) h_17) (xSl (hCell h_17 (.ptr (some (List.length h, 0 + 2)))) fun a_19 n_20 c_21 e_22 => xSl (hCell h_17 (.ptr (some (List.length h_0, 0 + 2)))) fun a_23 n_24 c_25 e_26 => SCall pg n_laws_eqNeedS [.slice a_19 n_20 c_21 e_22, .slice a_23 n_24 c_25 e_26] h_17 fun v_27 h_28 =>
 xBool (some v_27) fun b_29 => bcase (!b_29) (Q (.bool false) h_28) (Q (.bool true) h_28))))) : SCall pg n_laws_eqInstance [.agg [.str x0x0, .str x0x1, .slice a0x2 n0x2 c0x2 e0x2], .agg [.str x1x0, .str x1x1, .slice a1x2 n1x2 c1x2 e1x2]] h Q :=
  SCall.of_body kp (c := cod fn) (fn := fn) Go.Proofs.Try.func24 (by kernel_rfl) (by kernel_rfl) (Nat.le_of_ble_eq_true (by kernel_rfl))
    (@cast _ (den pg fn.ntmps kp (cod fn) (Env.args 0 [.agg [.str x0x0, .str x0x1, .slice a0x2 n0x2 c0x2 e0x2], .agg [.str x1x0, .str x1x1, .slice a1x2 n1x2 c1x2 e1x2]]) h (KR Q)) (by kernel_rfl) ht)
end F_laws_eqInstance
/-! Function loop.example/instancesearch/laws.eqInstanceS -/
namespace F_laws_eqInstanceS
noncomputable abbrev fn : Func := Go.Proofs.Try.f61
def kp : Keeps := [(3000004, [4]), (1000004, [0, 1, 5]), (2000006, [26, 5, 0, 1])]
noncomputable def C (p : List Nat) : Code := (cod fn).sub p
def KR (Q : QT) : KT := retA pg fn.results.toList Q
abbrev T4 := Pt → Nat → Nat → Bool → Pt → Nat → Nat → Bool → Int → AHeap → Prop
def E4 (R4 : T4) (env : Env) (h : AHeap) : Prop := eVal 0 env fun v env => xSl (some v) fun a0 n0 c0 e0 => eVal 1 env fun v env => xSl (some v) fun a1 n1 c1 e1 => eVal 5 env fun v env => eInt .i64 v fun x5 => eNil env (R4 a0 n0 c0 e0 a1 n1 c1 e1 x5 h)
theorem E4elim {R4 : T4} {env : Env} {h : AHeap} (hi : E4 R4 env h) : ∃ a0, ∃ n0, ∃ c0, ∃ e0, ∃ a1, ∃ n1, ∃ c1, ∃ e1, ∃ x5, env = [(0, .slice a0 n0 c0 e0), (1, .slice a1 n1 c1 e1), (5, .int .i64 x5)] ∧ R4 a0 n0 c0 e0 a1 n1 c1 e1 x5 h := by
  unfold E4 at hi
  have hi0 := hi
  clear hi
  obtain ⟨v, env, rfl, hi1⟩ := eVal_elim hi0
  obtain ⟨a0, n0, c0, e0, rfl, hi2⟩ := xSl_elim hi1
  obtain ⟨v, env, rfl, hi3⟩ := eVal_elim hi2
  obtain ⟨a1, n1, c1, e1, rfl, hi4⟩ := xSl_elim hi3
  obtain ⟨v, env, rfl, hi5⟩ := eVal_elim hi4
  obtain ⟨x5, rfl, hi6⟩ := eInt_elim hi5
  obtain ⟨rfl, hi7⟩ := eNil_elim hi6
  have hi := hi7
  exact ⟨a0, n0, c0, e0, a1, n1, c1, e1, x5, rfl, hi⟩
def K0 (Q : QT) : KT := andThen (fun env' h' => (match kp.find 4000008 with | some ks => Den pg fn.ntmps (C [1, 1, 1]) (env'.keep ks) h' (KR Q) | none => den pg fn.ntmps kp (C [1, 1, 1]) env' h' (KR Q))) (KR Q)
def K1 (Q : QT) : KT := onExit 0 (K0 Q)
def K2 (Q : QT) : KT := left kp 4 (K1 Q)
def K3 (Q : QT) (R4 : T4) : KT := rnd ((kp.find 1000004).getD []) (E4 R4) (K2 Q)
def L4 (Q : QT) (a0 : Pt) (n0 c0 : Nat) (e0 : Bool) (a1 : Pt) (n1 c1 : Nat) (e1 : Bool) (x5 : Int) (h : AHeap) : Prop := Loop (Den pg fn.ntmps (C [1, 1, 0, 1, 0, 0])) ((kp.find 1000004).getD []) (K2 Q) [(0, .slice a0 n0 c0 e0), (1, .slice a1 n1 c1 e1), (5, .int .i64 x5)] h
def A4x0 (Q : QT) (h : AHeap) : Prop := At (K1 Q) (.exit 0) [(4, .undef)] h
def L4t (Q : QT) (R4 : T4) (a0 : Pt) (n0 c0 : Nat) (e0 : Bool) (a1 : Pt) (n1 c1 : Nat) (e1 : Bool) (x5 : Int) (h : AHeap) : Prop :=
 bcase (decide ((x5 : Int) < (((n0 : Nat) : Int)))) ((0 ≤ (x5 : Int) ∧ (x5 : Int) < (n0 : Nat)) ∧ (xSome a0 fun i_0 o_1 => (0 ≤ (x5 : Int) ∧ (x5 : Int) < (n1 : Nat)) ∧ (xSome a1 fun i_2 o_3 => xRow (hRow h (.ptr (some (i_0, o_1 + (Int.toNat x5) * 3))) 3) fun cs_4 => xCons cs_4 fun c_5 r_6 => xStr (some c_5) fun s_7 => xCons r_6 fun c_8 r_9 => xStr (some c_8) fun s_10 => xCons r_9 fun c_11 r_12 => xSl (some c_11) fun a_13 n_14 c_15 e_16 => xNil r_12 (xRow (hRow h (.ptr (some (i_2, o_3 + (Int.toNat x5) * 3))) 3) fun cs_17 => xCons cs_17 fun c_18 r_19 => xStr (some c_18) fun s_20 => xCons r_19 fun c_21 r_22 => xStr (some c_21) fun s_23 => xCons r_22 fun c_24 r_25 => xSl (some c_24) fun a_26 n_27 c_28 e_29 => xNil r_25 ((hRow h (.ptr (some (i_0, o_1 + (Int.toNat x5) * 3))) 3 = hRow h (.ptr (some (i_0, o_1 + (Int.toNat x5) * 3))) 3) ∧ SCall pg n_laws_eqInstance [.agg [.str s_7, .str s_10, .slice a_13 n_14 c_15 e_16], .agg [.str s_20, .str s_23, .slice a_26 n_27 c_28 e_29]] h fun v_30 h_31 =>
 xBool (some v_30) fun b_32 => bcase (!b_32) (Q (.bool false) h_31) (R4 a0 n0 c0 e0 a1 n1 c1 e1 (IntKind.wrap .i64 (x5 + 1)) h_31)))))) (A4x0 Q h)
theorem L4den (Q : QT) (R4 : T4) (a0 : Pt) (n0 c0 : Nat) (e0 : Bool) (a1 : Pt) (n1 c1 : Nat) (e1 : Bool) (x5 : Int) (h : AHeap) (ht : L4t Q R4 a0 n0 c0 e0 a1 n1 c1 e1 x5 h) : Den pg fn.ntmps (C [1, 1, 0, 1, 0, 0]) [(0, .slice a0 n0 c0 e0), (1, .slice a1 n1 c1 e1), (5, .int .i64 x5)] h (K3 Q R4) :=
  den_Den (kp := kp) (@cast _ (den pg fn.ntmps kp (C [1, 1, 0, 1, 0, 0]) [(0, .slice a0 n0 c0 e0), (1, .slice a1 n1 c1 e1), (5, .int .i64 x5)] h (K3 Q R4)) (by kernel_rfl) ht)
theorem L4ind (Q : QT) (a0 : Pt) (n0 c0 : Nat) (e0 : Bool) (a1 : Pt) (n1 c1 : Nat) (e1 : Bool) {G : Type} (J : G → Int → AHeap → Prop) (m : G → Nat)
 (hr : ∀ (g : G) (x5 : Int) (h : AHeap), J g x5 h → ∀ (R4 : T4), (∀ g' (x5 : Int) (h : AHeap), m g' < m g → J g' x5 h → R4 a0 n0 c0 e0 a1 n1 c1 e1 x5 h) → L4t Q R4 a0 n0 c0 e0 a1 n1 c1 e1 x5 h)
 (g : G) (x5 : Int) (h : AHeap) (hj : J g x5 h) : L4 Q a0 n0 c0 e0 a1 n1 c1 e1 x5 h := by
  refine Loop.inv2 (fun g => E4 fun a0' n0' c0' e0' a1' n1' c1' e1' x5 h => a0 = a0' ∧ n0 = n0' ∧ c0 = c0' ∧ e0 = e0' ∧ a1 = a1' ∧ n1 = n1' ∧ c1 = c1' ∧ e1 = e1' ∧ J g x5 h) (fun g => E4 fun a0' n0' c0' e0' a1' n1' c1' e1' x5 h => a0 = a0' ∧ n0 = n0' ∧ c0 = c0' ∧ e0 = e0' ∧ a1 = a1' ∧ n1 = n1' ∧ c1 = c1' ∧ e1 = e1' ∧ ∃ g', m g' < m g ∧ J g' x5 h) m ?_ ?_ g ⟨rfl, rfl, rfl, rfl, rfl, rfl, rfl, rfl, hj⟩
  · intro g env h hi
    obtain ⟨a0', n0', c0', e0', a1', n1', c1', e1', x5, rfl, rfl, rfl, rfl, rfl, rfl, rfl, rfl, rfl, hj⟩ := E4elim hi
    exact L4den Q (fun a0' n0' c0' e0' a1' n1' c1' e1' x5 h => a0 = a0' ∧ n0 = n0' ∧ c0 = c0' ∧ e0 = e0' ∧ a1 = a1' ∧ n1 = n1' ∧ c1 = c1' ∧ e1 = e1' ∧ ∃ g', m g' < m g ∧ J g' x5 h) a0 n0 c0 e0 a1 n1 c1 e1 x5 h (hr g x5 h hj (fun a0' n0' c0' e0' a1' n1' c1' e1' x5 h => a0 = a0' ∧ n0 = n0' ∧ c0 = c0' ∧ e0 = e0' ∧ a1 = a1' ∧ n1 = n1' ∧ c1 = c1' ∧ e1 = e1' ∧ ∃ g', m g' < m g ∧ J g' x5 h) fun g' x5 h hlt hj => ⟨rfl, rfl, rfl, rfl, rfl, rfl, rfl, rfl, g', hlt, hj⟩)
  · intro g env h hi
    obtain ⟨a0', n0', c0', e0', a1', n1', c1', e1', x5, rfl, rfl, rfl, rfl, rfl, rfl, rfl, rfl, rfl, g', hlt, hj⟩ := E4elim hi
    exact ⟨g', hlt, rfl, rfl, rfl, rfl, rfl, rfl, rfl, rfl, hj⟩
theorem A4x0i (Q : QT) (h : AHeap) (ht :
 Q (.bool true) h) : A4x0 Q h :=
  At.mk (@cast _ ((K1 Q) (.exit 0) [(4, .undef)] h) (by kernel_rfl) ht)
theorem call (a0 : Pt) (n0 c0 : Nat) (e0 : Bool) (a1 : Pt) (n1 c1 : Nat) (e1 : Bool) (h : AHeap) (Q : QT) (ht :
 bcase (!((((n0 : Nat) : Int) : Int) == (((n1 : Nat) : Int)))) (Q (.bool false) h) (L4 Q a0 n0 c0 e0 a1 n1 c1 e1 0 h)) : SCall pg n_laws_eqInstanceS [.slice a0 n0 c0 e0, .slice a1 n1 c1 e1] h Q :=
  SCall.of_body kp (c := cod fn) (fn := fn) Go.Proofs.Try.func61 (by kernel_rfl) (by kernel_rfl) (Nat.le_of_ble_eq_true (by kernel_rfl))
    (@cast _ (den pg fn.ntmps kp (cod fn) (Env.args 0 [.slice a0 n0 c0 e0, .slice a1 n1 c1 e1]) h (KR Q)) (by kernel_rfl) ht)
end F_laws_eqInstanceS
/-! Function loop.example/instancesearch/laws.eqWorld -/
namespace F_laws_eqWorld
noncomputable abbrev fn : Func := Go.Proofs.Try.f16
def kp : Keeps := []
noncomputable def C (p : List Nat) : Code := (cod fn).sub p
def KR (Q : QT) : KT := retA pg fn.results.toList Q
theorem call (a0x0 : Pt) (n0x0 c0x0 : Nat) (e0x0 : Bool) (a0x1 : Pt) (n0x1 c0x1 : Nat) (e0x1 : Bool) (a1x0 : Pt) (n1x0 c1x0 : Nat) (e1x0 : Bool) (a1x1 : Pt) (n1x1 c1x1 : Nat) (e1x1 : Bool) (h : AHeap) (Q : QT) (ht :
 letH (h ++ [.cells t_impl_World [.slice a0x0 n0x0 c0x0 e0x0, .slice a0x1 n0x1 c0x1 e0x1] false]) fun h_0 => letH (h_0 ++ [.cells t_impl_World [.slice a1x0 n1x0 c1x0 e1x0, .slice a1x1 n1x1 c1x1 e1x1] false]) fun h_1 => xSl (hCell h_1 (.ptr (some (List.length h, 0 + 0)))) fun a_2 n_3 c_4 e_5 => xSl (hCell h_1 (.ptr (some (List.length h_0, 0 + 0)))) fun a_6 n_7 c_8 e_9 => SCall pg n_laws_eqClassS [.slice a_2 n_3 c_4 e_5, .slice a_6 n_7 c_8 e_9] h_1 fun v_10 h_11 =>
 xBool (some v_10) fun b_12 => bcase (!b_12) (Q (.bool false) h_11) (xSl (hCell h_11 (.ptr (some (List.length h, 0 + 1)))) fun a_13 n_14 c_15 e_16 => xSl (hCell h_11 (.ptr (some (List.length h_0, 0 + 1)))) fun a_17 n_18 c_19 e_20 => SCall pg n_laws_eqInstanceS [.slice a_13 n_14 c_15 e_16, .slice a_17 n_18 c_19 e_20] h_11 fun v_21 h_22 =>
 xBool (some v_21) fun b_23 => bcase (!b_23) (Q (.bool false) h_22) (Q (.bool true) h_22))) : SCall pg n_laws_eqWorld [.agg [.slice a0x0 n0x0 c0x0 e0x0, .slice a0x1 n0x1 c0x1 e0x1], .agg [.slice a1x0 n1x0 c1x0 e1x0, .slice a1x1 n1x1 c1x1 e1x1]] h Q :=
  SCall.of_body kp (c := cod fn) (fn := fn) Go.Proofs.Try.func16 (by kernel_rfl) (by kernel_rfl) (Nat.le_of_ble_eq_true (by kernel_rfl))
    (@cast _ (den pg fn.ntmps kp (cod fn) (Env.args 0 [.agg [.slice a0x0 n0x0 c0x0 e0x0, .slice a0x1 n0x1 c0x1 e0x1], .agg [.slice a1x0 n1x0 c1x0 e1x0, .slice a1x1 n1x1 c1x1 e1x1]]) h (KR Q)) (by kernel_rfl) ht)
end F_laws_eqWorld
end Go.Sim
