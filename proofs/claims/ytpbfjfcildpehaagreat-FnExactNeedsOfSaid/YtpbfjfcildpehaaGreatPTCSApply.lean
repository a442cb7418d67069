/- A part of the proof of a statement of this seat: see the text that holds the theorem. No condition. -/
import Derived.Test.YtpbfjfcildpehaaGreatNm
set_option linter.unusedVariables false
set_option linter.unusedSimpArgs false
set_option linter.all false
/- Printed by wip/tool: what the functions' bodies do, in the words of 'den'. -/
set_option maxRecDepth 100000
set_option linter.unusedVariables false
namespace Go.Sim
open Go Go.RowKit
/-! Function loop.example/instancesearch/laws.FnExactNeedsOf -/
namespace F_laws_FnExactNeedsOf
noncomputable abbrev fn : Func := Go.Proofs.Tryz.f3
def kp : Keeps := [(4000012, [10, 3, 11, 8, 12, 9, 1, 2]), (2000012, [56, 10, 11, 8, 12, 9, 3, 1, 2]), (4000018, [11, 3, 1, 2, 8, 9]), (4000029, [11, 14])]
noncomputable def C (p : List Nat) : Code := (cod fn).sub p
def KR (Q : QT) : KT := retA pg fn.results.toList Q
def J12 (Q : QT) (i10 o10 i3 o3 : Nat) (a11 : Pt) (n11 c11 : Nat) (e11 : Bool) (a8 : Pt) (n8 c8 : Nat) (e8 x12 x9 : Bool) (x1 : Int) (x2 : List Nat) (h : AHeap) : Prop := Den pg fn.ntmps (C [1, 1, 1, 1, 1, 1, 1, 1, 1]) [(10, .ptr (some (i10, o10))), (3, .ptr (some (i3, o3))), (11, .slice a11 n11 c11 e11), (8, .slice a8 n8 c8 e8), (12, .bool x12), (9, .bool x9), (1, .int .i64 x1), (2, .str x2)] h (KR Q)
def J18 (Q : QT) (a11 : Pt) (n11 c11 : Nat) (e11 : Bool) (i3 o3 : Nat) (x1 : Int) (x2 : List Nat) (a8 : Pt) (n8 c8 : Nat) (e8 x9 : Bool) (h : AHeap) : Prop := Den pg fn.ntmps (C [1, 1, 1, 1, 1, 1, 1, 1, 1, 1, 1, 1, 1]) [(11, .slice a11 n11 c11 e11), (3, .ptr (some (i3, o3))), (1, .int .i64 x1), (2, .str x2), (8, .slice a8 n8 c8 e8), (9, .bool x9)] h (KR Q)
def J29 (Q : QT) (a11 : Pt) (n11 c11 : Nat) (e11 : Bool) (x14 : Int) (h : AHeap) : Prop := Den pg fn.ntmps (C [1, 1, 1, 1, 1, 1, 1, 1, 1, 1, 1, 1, 1, 1, 1, 1, 1, 1, 1, 1, 1]) [(11, .slice a11 n11 c11 e11), (14, .int .i64 x14)] h (KR Q)
theorem J12i (Q : QT) (i10 o10 i3 o3 : Nat) (a11 : Pt) (n11 c11 : Nat) (e11 : Bool) (a8 : Pt) (n8 c8 : Nat) (e8 x12 x9 : Bool) (x1 : Int) (x2 : List Nat) (h : AHeap) (ht :
 xRow (hRow h (.ptr (some (i10, o10))) 2) fun cs_115 => xCons cs_115 fun c_116 r_117 => xSl (some c_116) fun a_118 n_119 c_120 e_121 => xCons r_117 fun c_122 r_123 => xSl (some c_122) fun a_124 n_125 c_126 e_127 => xNil r_123 (xRow (hRow h (.ptr (some (i3, o3))) 2) fun cs_128 => xCons cs_128 fun c_129 r_130 => xSl (some c_129) fun a_131 n_132 c_133 e_134 => xCons r_130 fun c_135 r_136 => xSl (some c_135) fun a_137 n_138 c_139 e_140 => xNil r_136 ((hRow h (.ptr (some (i10, o10))) 2 = hRow h (.ptr (some (i10, o10))) 2) ∧ SCall pg n_laws_toWorld [.agg [.slice a_131 n_132 c_133 e_134, .slice a_137 n_138 c_139 e_140]] h fun v_141 h_142 =>
 xAgg v_141 fun cs_143 => xCons cs_143 fun c_144 r_145 => xSl (some c_144) fun a_146 n_147 c_148 e_149 => xCons r_145 fun c_150 r_151 => xSl (some c_150) fun a_152 n_153 c_154 e_155 => xNil r_151 ((hRow h_142 (.ptr (some (i10, o10))) 2 = hRow h (.ptr (some (i10, o10))) 2) ∧ SCall pg n_laws_eqWorld [.agg [.slice a_118 n_119 c_120 e_121, .slice a_124 n_125 c_126 e_127], .agg [.slice a_146 n_147 c_148 e_149, .slice a_152 n_153 c_154 e_155]] h_142 fun v_156 h_157 =>
 xBool (some v_156) fun b_158 => bcase (!b_158) (Q (.bool false) h_157) (xRow (hRow h_157 (.ptr (some (i10, o10))) 2) fun cs_159 => xCons cs_159 fun c_160 r_161 => xSl (some c_160) fun a_162 n_163 c_164 e_165 => xCons r_161 fun c_166 r_167 => xSl (some c_166) fun a_168 n_169 c_170 e_171 => xNil r_167 (SCall pg n_laws_markWorld [.agg [.slice a_162 n_163 c_164 e_165, .slice a_168 n_169 c_170 e_171], .int .i64 1] h_157 fun v_172 h_173 =>
 xInt .i64 (some v_172) fun x_174 => bcase (decide ((x_174 : Int) < 0)) (Q (.bool false) h_173) (SCall pg n_laws_eqNeedS [.slice a11 n11 c11 e11, .slice a8 n8 c8 e8] h_173 fun v_175 h_176 =>
 xBool (some v_175) fun b_177 => bcase (!b_177) (Q (.bool false) h_176) (bcase (!(x12 == x9)) (Q (.bool false) h_176) (J18 Q a11 n11 c11 e11 i3 o3 x1 x2 a8 n8 c8 e8 x9 h_176))))))))) : J12 Q i10 o10 i3 o3 a11 n11 c11 e11 a8 n8 c8 e8 x12 x9 x1 x2 h :=
  den_Den (kp := kp) (@cast _ (den pg fn.ntmps kp (C [1, 1, 1, 1, 1, 1, 1, 1, 1]) [(10, .ptr (some (i10, o10))), (3, .ptr (some (i3, o3))), (11, .slice a11 n11 c11 e11), (8, .slice a8 n8 c8 e8), (12, .bool x12), (9, .bool x9), (1, .int .i64 x1), (2, .str x2)] h (KR Q)) (by kernel_rfl) ht)
theorem J18i (Q : QT) (a11 : Pt) (n11 c11 : Nat) (e11 : Bool) (i3 o3 : Nat) (x1 : Int) (x2 : List Nat) (a8 : Pt) (n8 c8 : Nat) (e8 x9 : Bool) (h : AHeap) (ht :
 SCall pg n_laws_markNeedS [.slice a11 n11 c11 e11, .int .i64 1] h fun v_178 h_179 =>
 xInt .i64 (some v_178) fun x_180 => SCall pg n_laws_heldNeedS [.slice a11 n11 c11 e11, .int .i64 1] h_179 fun v_181 h_182 =>
 xInt .i64 (some v_181) fun x_183 => bcase (decide ((x_183 : Int) < 0)) (Q (.bool false) h_182) (bcase (!((x_183 : Int) == x_180)) (Q (.bool false) h_182) (xRow (hRow h_182 (.ptr (some (i3, o3))) 2) fun cs_184 => xCons cs_184 fun c_185 r_186 => xSl (some c_185) fun a_187 n_188 c_189 e_190 => xCons r_186 fun c_191 r_192 => xSl (some c_191) fun a_193 n_194 c_195 e_196 => xNil r_192 (SCall pg n_laws_toWorld [.agg [.slice a_187 n_188 c_189 e_190, .slice a_193 n_194 c_195 e_196]] h_182 fun v_197 h_198 =>
 xAgg v_197 fun cs_199 => xCons cs_199 fun c_200 r_201 => xSl (some c_200) fun a_202 n_203 c_204 e_205 => xCons r_201 fun c_206 r_207 => xSl (some c_206) fun a_208 n_209 c_210 e_211 => xNil r_207 (SCall pg n_impl_NeedsOf [.agg [.slice a_202 n_203 c_204 e_205, .slice a_208 n_209 c_210 e_211], .int .i64 x1, .str x2] h_198 fun v_212 h_213 =>
 xTup v_212 fun cs_214 => xCons cs_214 fun c_215 r_216 => xSl (some c_215) fun a_217 n_218 c_219 e_220 => xCons r_216 fun c_221 r_222 => xBool (some c_221) fun b_223 => xNil r_222 (SCall pg n_laws_eqNeedS [.slice a_217 n_218 c_219 e_220, .slice a8 n8 c8 e8] h_213 fun v_224 h_225 =>
 xBool (some v_224) fun b_226 => bcase (!b_226) (Q (.bool false) h_225) (bcase (!(b_223 == x9)) (Q (.bool false) h_225) (J29 Q a11 n11 c11 e11 x_180 h_225)))))))) : J18 Q a11 n11 c11 e11 i3 o3 x1 x2 a8 n8 c8 e8 x9 h :=
  den_Den (kp := kp) (@cast _ (den pg fn.ntmps kp (C [1, 1, 1, 1, 1, 1, 1, 1, 1, 1, 1, 1, 1]) [(11, .slice a11 n11 c11 e11), (3, .ptr (some (i3, o3))), (1, .int .i64 x1), (2, .str x2), (8, .slice a8 n8 c8 e8), (9, .bool x9)] h (KR Q)) (by kernel_rfl) ht)
theorem J29i (Q : QT) (a11 : Pt) (n11 c11 : Nat) (e11 : Bool) (x14 : Int) (h : AHeap) (ht :
 SCall pg n_laws_heldNeedS [.slice a11 n11 c11 e11, .int .i64 1] h fun v_227 h_228 =>
 xInt .i64 (some v_227) fun x_229 => bcase (decide ((x_229 : Int) < 0)) (Q (.bool false) h_228) (bcase (!((x_229 : Int) == x14)) (Q (.bool false) h_228) (Q (.bool true) h_228))) : J29 Q a11 n11 c11 e11 x14 h :=
  den_Den (kp := kp) (@cast _ (den pg fn.ntmps kp (C [1, 1, 1, 1, 1, 1, 1, 1, 1, 1, 1, 1, 1, 1, 1, 1, 1, 1, 1, 1, 1]) [(11, .slice a11 n11 c11 e11), (14, .int .i64 x14)] h (KR Q)) (by kernel_rfl) ht)
theorem call (a0x0 : Pt) (n0x0 c0x0 : Nat) (e0x0 : Bool) (a0x1 : Pt) (n0x1 c0x1 : Nat) (e0x1 : Bool) (x1 : Int) (x2 : List Nat) (h : AHeap) (Q : QT) (ht :
 letH (h ++ [.cells t_laws_World [.slice a0x0 n0x0 c0x0 e0x0, .slice a0x1 n0x1 c0x1 e0x1] false]) fun h_0 => bcase (decide (((((List.length x2 : Nat) : Int)) : Int) > 1048576)) (Q (.bool true) h_0) (xRow (hRow h_0 (.ptr (some (List.length h, 0))) 2) fun cs_1 => xCons cs_1 fun c_2 r_3 => xSl (some c_2) fun a_4 n_5 c_6 e_7 => xCons r_3 fun c_8 r_9 => xSl (some c_8) fun a_10 n_11 c_12 e_13 => xNil r_9 (SCall pg n_laws_szWorld [.agg [.slice a_4 n_5 c_6 e_7, .slice a_10 n_11 c_12 e_13], .int .i64 1048576] h_0 fun v_14 h_15 =>
 xInt .i64 (some v_14) fun x_16 => bcase (decide ((x_16 : Int) < 0)) (Q (.bool true) h_15) (xRow (hRow h_15 (.ptr (some (List.length h, 0))) 2) fun cs_17 => xCons cs_17 fun c_18 r_19 => xSl (some c_18) fun a_20 n_21 c_22 e_23 => xCons r_19 fun c_24 r_25 => xSl (some c_24) fun a_26 n_27 c_28 e_29 => xNil r_25 (SCall pg n_laws_toWorld [.agg [.slice a_20 n_21 c_22 e_23, .slice a_26 n_27 c_28 e_29]] h_15 fun v_30 h_31 =>
 xAgg v_30 fun cs_32 => xCons cs_32 fun c_33 r_34 => xSl (some c_33) fun a_35 n_36 c_37 e_38 => xCons r_34 fun c_39 r_40 => xSl (some c_39) fun a_41 n_42 c_43 e_44 => xNil r_40 (SCall pg n_spec_NeedsOf [.agg [.slice a_35 n_36 c_37 e_38, .slice a_41 n_42 c_43 e_44], .int .i64 x1, .str x2] h_31 fun v_45 h_46 =>
 xTup v_45 fun cs_47 => xCons cs_47 fun c_48 r_49 => xSl (some c_48) fun a_50 n_51 c_52 e_53 => xCons r_49 fun c_54 r_55 => xBool (some c_54) fun b_56 => xNil r_55 (xRow (hRow h_46 (.ptr (some (List.length h, 0))) 2) fun cs_57 => xCons cs_57 fun c_58 r_59 => xSl (some c_58) fun a_60 n_61 c_62 e_63 => xCons r_59 fun c_64 r_65 => xSl (some c_64) fun a_66 n_67 c_68 e_69 => xNil r_65 (SCall pg n_laws_toWorld [.agg [.slice a_60 n_61 c_62 e_63, .slice a_66 n_67 c_68 e_69]] h_46 fun v_70 h_71 =>
 xAgg v_70 fun cs_72 => xCons cs_72 fun c_73 r_74 => xSl (some c_73) fun a_75 n_76 c_77 e_78 => xCons r_74 fun c_79 r_80 => xSl (some c_79) fun a_81 n_82 c_83 e_84 => xNil r_80 (letH (h_71 ++ [.cells t_impl_World [.slice none 0 0 true, .slice none 0 0 true] false]) fun h_85 => xHeap (hStore h_85 (.ptr (some (List.length h_71, 0))) [.slice a_75 n_76 c_77 e_78, .slice a_81 n_82 c_83 e_84]) fun h_86 => xRow (hRow h_86 (.ptr (some (List.length h_71, 0))) 2) fun cs_87 => xCons cs_87 fun c_88 r_89 => xSl (some c_88) fun a_90 n_91 c_92 e_93 => xCons r_89 fun c_94 r_95 => xSl (some c_94) fun a_96 n_97 c_98 e_99 => xNil r_95 (SCall pg n_impl_NeedsOf [.agg [.slice a_90 n_91 c_92 e_93, .slice a_96 n_97 c_98 e_99], .int .i64 x1, .str x2] h_86 fun v_100 h_101 =>
 xTup v_100 fun cs_102 => xCons cs_102 fun c_103 r_104 => xSl (some c_103) fun a_105 n_106 c_107 e_108 => xCons r_104 fun c_109 r_110 => xBool (some c_109) fun b_111 => xNil r_110 (SCall pg n_laws_eqNeedS [.slice a_105 n_106 c_107 e_108, .slice a_50 n_51 c_52 e_53] h_101 fun v_112 h_113 =>
 xBool (some v_112) fun b_114 => bcase (!b_114) (Q (.bool false) h_113) (bcase (!(b_111 == b_56)) (Q (.bool false) h_113) (J12 Q (List.length h_71) 0 (List.length h) 0 a_105 n_106 c_107 e_108 a_50 n_51 c_52 e_53 b_111 b_56 x1 x2 h_113))))))))))))) : SCall pg n_laws_FnExactNeedsOf [.agg [.slice a0x0 n0x0 c0x0 e0x0, .slice a0x1 n0x1 c0x1 e0x1], .int .i64 x1, .str x2] h Q :=
  SCall.of_body kp (c := cod fn) (fn := fn) Go.Proofs.Tryz.func3 (by kernel_rfl) (by kernel_rfl) (Nat.le_of_ble_eq_true (by kernel_rfl))
    (@cast _ (den pg fn.ntmps kp (cod fn) (Env.args 0 [.agg [.slice a0x0 n0x0 c0x0 e0x0, .slice a0x1 n0x1 c0x1 e0x1], .int .i64 x1, .str x2]) h (KR Q)) (by kernel_rfl) ht)
end F_laws_FnExactNeedsOf
end Go.Sim

/- Printed by wip/tool: what the functions' bodies do, in the words of 'den'. -/
set_option maxRecDepth 100000
set_option linter.unusedVariables false
namespace Go.Sim
open Go Go.RowKit
/-! Function loop.example/instancesearch/spec.ApplyBindings -/
namespace F_spec_ApplyBindings
noncomputable abbrev fn : Func := Go.Proofs.Tryz.f59
def kp : Keeps := [(4000004, [0, 6]), (3000006, [8, 6]), (1000006, [6, 8, 26, 27, 28]), (2000008, [28, 27, 26, 8, 6])]
noncomputable def C (p : List Nat) : Code := (cod fn).sub p
def KR (Q : QT) : KT := retA pg fn.results.toList Q
abbrev T6 := Nat → Nat → Nat → Nat → Pt → Nat → Nat → Bool → Int → Int → AHeap → Prop
def E6 (R6 : T6) (env : Env) (h : AHeap) : Prop := eVal 6 env fun v env => xPtr (some v) fun a => xSome a fun i6 o6 => eVal 8 env fun v env => xPtr (some v) fun a => xSome a fun i8 o8 => eVal 26 env fun v env => xSl (some v) fun a26 n26 c26 e26 => eVal 27 env fun v env => eInt .i64 v fun x27 => eVal 28 env fun v env => eInt .i64 v fun x28 => eNil env (R6 i6 o6 i8 o8 a26 n26 c26 e26 x27 x28 h)
theorem E6elim {R6 : T6} {env : Env} {h : AHeap} (hi : E6 R6 env h) : ∃ i6, ∃ o6, ∃ i8, ∃ o8, ∃ a26, ∃ n26, ∃ c26, ∃ e26, ∃ x27, ∃ x28, env = [(6, .ptr (some (i6, o6))), (8, .ptr (some (i8, o8))), (26, .slice a26 n26 c26 e26), (27, .int .i64 x27), (28, .int .i64 x28)] ∧ R6 i6 o6 i8 o8 a26 n26 c26 e26 x27 x28 h := by
  unfold E6 at hi
  have hi0 := hi
  clear hi
  obtain ⟨v, env, rfl, hi1⟩ := eVal_elim hi0
  obtain ⟨a, rfl, hi2⟩ := xPtr_elim hi1
  obtain ⟨i6, o6, rfl, hi3⟩ := xSome_elim hi2
  obtain ⟨v, env, rfl, hi4⟩ := eVal_elim hi3
  obtain ⟨a, rfl, hi5⟩ := xPtr_elim hi4
  obtain ⟨i8, o8, rfl, hi6⟩ := xSome_elim hi5
  obtain ⟨v, env, rfl, hi7⟩ := eVal_elim hi6
  obtain ⟨a26, n26, c26, e26, rfl, hi8⟩ := xSl_elim hi7
  obtain ⟨v, env, rfl, hi9⟩ := eVal_elim hi8
  obtain ⟨x27, rfl, hi10⟩ := eInt_elim hi9
  obtain ⟨v, env, rfl, hi11⟩ := eVal_elim hi10
  obtain ⟨x28, rfl, hi12⟩ := eInt_elim hi11
  obtain ⟨rfl, hi13⟩ := eNil_elim hi12
  have hi := hi13
  exact ⟨i6, o6, i8, o8, a26, n26, c26, e26, x27, x28, rfl, hi⟩
def K0 (Q : QT) : KT := andThen (fun env' h' => (match kp.find 4000010 with | some ks => Den pg fn.ntmps (C [1, 1, 1, 1, 1]) (env'.keep ks) h' (KR Q) | none => den pg fn.ntmps kp (C [1, 1, 1, 1, 1]) env' h' (KR Q))) (KR Q)
def K1 (Q : QT) : KT := onExit 0 (K0 Q)
def K2 (Q : QT) : KT := left kp 6 (K1 Q)
def K3 (Q : QT) (R6 : T6) : KT := rnd ((kp.find 1000006).getD []) (E6 R6) (K2 Q)
def J4 (Q : QT) (a0 : Pt) (n0 c0 : Nat) (e0 : Bool) (i6 o6 : Nat) (h : AHeap) : Prop := Den pg fn.ntmps (C [1, 1, 1]) [(0, .slice a0 n0 c0 e0), (6, .ptr (some (i6, o6)))] h (KR Q)
def L6 (Q : QT) (i6 o6 i8 o8 : Nat) (a26 : Pt) (n26 c26 : Nat) (e26 : Bool) (x27 x28 : Int) (h : AHeap) : Prop := Loop (Den pg fn.ntmps (C [1, 1, 1, 1, 0, 1, 0, 0])) ((kp.find 1000006).getD []) (K2 Q) [(6, .ptr (some (i6, o6))), (8, .ptr (some (i8, o8))), (26, .slice a26 n26 c26 e26), (27, .int .i64 x27), (28, .int .i64 x28)] h
def A6x0 (Q : QT) (i8 o8 i6 o6 : Nat) (h : AHeap) : Prop := At (K1 Q) (.exit 0) [(8, .ptr (some (i8, o8))), (6, .ptr (some (i6, o6)))] h
theorem J4i (Q : QT) (a0 : Pt) (n0 c0 : Nat) (e0 : Bool) (i6 o6 : Nat) (h : AHeap) (ht :
 letH (h ++ [.cells t_spec_l2Map [.int .u8 0, .slice none 0 0 true, .int .u8 0, .slice none 0 0 true, .int .u8 0, .slice none 0 0 true, .int .u8 0, .slice none 0 0 true, .int .u8 0, .slice none 0 0 true, .int .u8 0, .slice none 0 0 true, .int .u8 0, .slice none 0 0 true, .int .u8 0, .slice none 0 0 true, .int .u8 0, .slice none 0 0 true, .int .u8 0, .slice none 0 0 true, .int .u8 0, .slice none 0 0 true, .int .u8 0, .slice none 0 0 true] false]) fun h_23 => L6 Q i6 o6 (List.length h) 0 a0 n0 c0 e0 (((n0 : Nat) : Int)) 0 h_23) : J4 Q a0 n0 c0 e0 i6 o6 h :=
  den_Den (kp := kp) (@cast _ (den pg fn.ntmps kp (C [1, 1, 1]) [(0, .slice a0 n0 c0 e0), (6, .ptr (some (i6, o6)))] h (KR Q)) (by kernel_rfl) ht)
def L6t (Q : QT) (R6 : T6) (i6 o6 i8 o8 : Nat) (a26 : Pt) (n26 c26 : Nat) (e26 : Bool) (x27 x28 : Int) (h : AHeap) : Prop :=
 bcase (decide ((x28 : Int) < x27)) ((0 ≤ (x28 : Int) ∧ (x28 : Int) < (n26 : Nat)) ∧ (xSome a26 fun i_24 o_25 => xRow (hRow h (.ptr (some (i_24, o_25 + (Int.toNat x28) * 2))) 2) fun cs_26 => xCons cs_26 fun c_27 r_28 => xStr (some c_27) fun s_29 => xCons r_28 fun c_30 r_31 => xStr (some c_30) fun s_32 => xNil r_31 (letH (h ++ [.cells t_impl_Binding [.str [], .str []] false]) fun h_33 => xHeap (hStore h_33 (.ptr (some (List.length h, 0))) [.str s_29, .str s_32]) fun h_34 => xStr (hCell h_34 (.ptr (some (List.length h, 0 + 0)))) fun s_35 => byteAt s_35 0 fun b_36 => xStr (hCell h_34 (.ptr (some (List.length h, 0 + 1)))) fun s_37 => SCall pg n_spec_l2Index [.int .u8 (((b_36 : Nat) : Int))] h_34 fun v_38 h_39 =>
 xInt .i64 (some v_38) fun x_40 => (hCell h_39 (.ptr (some (List.length h, 0 + 1))) = hCell h_34 (.ptr (some (List.length h, 0 + 1)))) ∧ (hCell h_39 (.ptr (some (List.length h, 0 + 0))) = hCell h_34 (.ptr (some (List.length h, 0 + 0)))) ∧ SCall pg n_spec_l1Read [.str s_37] h_39 fun v_41 h_42 =>
 xTup v_41 fun cs_43 => xCons cs_43 fun c_44 r_45 => xAgg c_44 fun cs_46 => xCons cs_46 fun c_47 r_48 => xInt .u8 (some c_47) fun x_49 => xCons r_48 fun c_50 r_51 => xSl (some c_50) fun a_52 n_53 c_54 e_55 => xNil r_51 (xCons r_45 fun c_56 r_57 => xBool (some c_56) fun b_58 => xNil r_57 ((hCell h_42 (.ptr (some (List.length h, 0 + 0))) = hCell h_39 (.ptr (some (List.length h, 0 + 0)))) ∧ (0 ≤ (x_40 : Int) ∧ (x_40 : Int) < (12 : Nat)) ∧ (xHeap (hStore h_42 (.ptr (some (i8, o8 + (Int.toNat x_40) * 2))) [.int .u8 x_49, .slice a_52 n_53 c_54 e_55]) fun h_59 => R6 i6 o6 i8 o8 a26 n26 c26 e26 x27 (IntKind.wrap .i64 (x28 + 1)) h_59)))))) (A6x0 Q i8 o8 i6 o6 h)
theorem L6den (Q : QT) (R6 : T6) (i6 o6 i8 o8 : Nat) (a26 : Pt) (n26 c26 : Nat) (e26 : Bool) (x27 x28 : Int) (h : AHeap) (ht : L6t Q R6 i6 o6 i8 o8 a26 n26 c26 e26 x27 x28 h) : Den pg fn.ntmps (C [1, 1, 1, 1, 0, 1, 0, 0]) [(6, .ptr (some (i6, o6))), (8, .ptr (some (i8, o8))), (26, .slice a26 n26 c26 e26), (27, .int .i64 x27), (28, .int .i64 x28)] h (K3 Q R6) :=
  den_Den (kp := kp) (@cast _ (den pg fn.ntmps kp (C [1, 1, 1, 1, 0, 1, 0, 0]) [(6, .ptr (some (i6, o6))), (8, .ptr (some (i8, o8))), (26, .slice a26 n26 c26 e26), (27, .int .i64 x27), (28, .int .i64 x28)] h (K3 Q R6)) (by kernel_rfl) ht)
theorem L6ind (Q : QT) (i6 o6 i8 o8 : Nat) (a26 : Pt) (n26 c26 : Nat) (e26 : Bool) (x27 : Int) {G : Type} (J : G → Int → AHeap → Prop) (m : G → Nat)
 (hr : ∀ (g : G) (x28 : Int) (h : AHeap), J g x28 h → ∀ (R6 : T6), (∀ g' (x28 : Int) (h : AHeap), m g' < m g → J g' x28 h → R6 i6 o6 i8 o8 a26 n26 c26 e26 x27 x28 h) → L6t Q R6 i6 o6 i8 o8 a26 n26 c26 e26 x27 x28 h)
 (g : G) (x28 : Int) (h : AHeap) (hj : J g x28 h) : L6 Q i6 o6 i8 o8 a26 n26 c26 e26 x27 x28 h := by
  refine Loop.inv2 (fun g => E6 fun i6' o6' i8' o8' a26' n26' c26' e26' x27' x28 h => i6 = i6' ∧ o6 = o6' ∧ i8 = i8' ∧ o8 = o8' ∧ a26 = a26' ∧ n26 = n26' ∧ c26 = c26' ∧ e26 = e26' ∧ x27 = x27' ∧ J g x28 h) (fun g => E6 fun i6' o6' i8' o8' a26' n26' c26' e26' x27' x28 h => i6 = i6' ∧ o6 = o6' ∧ i8 = i8' ∧ o8 = o8' ∧ a26 = a26' ∧ n26 = n26' ∧ c26 = c26' ∧ e26 = e26' ∧ x27 = x27' ∧ ∃ g', m g' < m g ∧ J g' x28 h) m ?_ ?_ g ⟨rfl, rfl, rfl, rfl, rfl, rfl, rfl, rfl, rfl, hj⟩
  · intro g env h hi
    obtain ⟨i6', o6', i8', o8', a26', n26', c26', e26', x27', x28, rfl, rfl, rfl, rfl, rfl, rfl, rfl, rfl, rfl, rfl, hj⟩ := E6elim hi
    exact L6den Q (fun i6' o6' i8' o8' a26' n26' c26' e26' x27' x28 h => i6 = i6' ∧ o6 = o6' ∧ i8 = i8' ∧ o8 = o8' ∧ a26 = a26' ∧ n26 = n26' ∧ c26 = c26' ∧ e26 = e26' ∧ x27 = x27' ∧ ∃ g', m g' < m g ∧ J g' x28 h) i6 o6 i8 o8 a26 n26 c26 e26 x27 x28 h (hr g x28 h hj (fun i6' o6' i8' o8' a26' n26' c26' e26' x27' x28 h => i6 = i6' ∧ o6 = o6' ∧ i8 = i8' ∧ o8 = o8' ∧ a26 = a26' ∧ n26 = n26' ∧ c26 = c26' ∧ e26 = e26' ∧ x27 = x27' ∧ ∃ g', m g' < m g ∧ J g' x28 h) fun g' x28 h hlt hj => ⟨rfl, rfl, rfl, rfl, rfl, rfl, rfl, rfl, rfl, g', hlt, hj⟩)
  · intro g env h hi
    obtain ⟨i6', o6', i8', o8', a26', n26', c26', e26', x27', x28, rfl, rfl, rfl, rfl, rfl, rfl, rfl, rfl, rfl, rfl, g', hlt, hj⟩ := E6elim hi
    exact ⟨g', hlt, rfl, rfl, rfl, rfl, rfl, rfl, rfl, rfl, rfl, hj⟩
theorem A6x0i (Q : QT) (i8 o8 i6 o6 : Nat) (h : AHeap) (ht :
 xRow (hRow h (.ptr (some (i6, o6))) 2) fun cs_60 => xCons cs_60 fun c_61 r_62 => xInt .u8 (some c_61) fun x_63 => xCons r_62 fun c_64 r_65 => xSl (some c_64) fun a_66 n_67 c_68 e_69 => xNil r_65 (SCall pg n_spec_l2Put [.ptr (some (i8, o8)), .agg [.int .u8 x_63, .slice a_66 n_67 c_68 e_69]] h fun v_70 h_71 =>
 xAgg v_70 fun cs_72 => xCons cs_72 fun c_73 r_74 => xInt .u8 (some c_73) fun x_75 => xCons r_74 fun c_76 r_77 => xSl (some c_76) fun a_78 n_79 c_80 e_81 => xNil r_77 (letH (h_71 ++ [.cells t_spec_l1Node [.int .u8 0, .slice none 0 0 true] false]) fun h_82 => xHeap (hStore h_82 (.ptr (some (List.length h_71, 0))) [.int .u8 x_75, .slice a_78 n_79 c_80 e_81]) fun h_83 => xRow (hRow h_83 (.ptr (some (List.length h_71, 0))) 2) fun cs_84 => xCons cs_84 fun c_85 r_86 => xInt .u8 (some c_85) fun x_87 => xCons r_86 fun c_88 r_89 => xSl (some c_88) fun a_90 n_91 c_92 e_93 => xNil r_89 (SCall pg n_spec_l2Length [.agg [.int .u8 x_87, .slice a_90 n_91 c_92 e_93]] h_83 fun v_94 h_95 =>
 xInt .i64 (some v_94) fun x_96 => bcase (decide ((x_96 : Int) > 60)) (Q (.tup [.str [], .bool false]) h_95) (xRow (hRow h_95 (.ptr (some (List.length h_71, 0))) 2) fun cs_97 => xCons cs_97 fun c_98 r_99 => xInt .u8 (some c_98) fun x_100 => xCons r_99 fun c_101 r_102 => xSl (some c_101) fun a_103 n_104 c_105 e_106 => xNil r_102 (SCall pg n_spec_l1Text [.agg [.int .u8 x_100, .slice a_103 n_104 c_105 e_106]] h_95 fun v_107 h_108 =>
 xStr (some v_107) fun s_109 => Q (.tup [.str s_109, .bool true]) h_108)))))) : A6x0 Q i8 o8 i6 o6 h :=
  At.mk (@cast _ ((K1 Q) (.exit 0) [(8, .ptr (some (i8, o8))), (6, .ptr (some (i6, o6)))] h) (by kernel_rfl) ht)
theorem call (a0 : Pt) (n0 c0 : Nat) (e0 : Bool) (x1 : List Nat) (h : AHeap) (Q : QT) (ht :
 SCall pg n_spec_l1Read [.str x1] h fun v_0 h_1 =>
 xTup v_0 fun cs_2 => xCons cs_2 fun c_3 r_4 => xAgg c_3 fun cs_5 => xCons cs_5 fun c_6 r_7 => xInt .u8 (some c_6) fun x_8 => xCons r_7 fun c_9 r_10 => xSl (some c_9) fun a_11 n_12 c_13 e_14 => xNil r_10 (xCons r_4 fun c_15 r_16 => xBool (some c_15) fun b_17 => xNil r_16 (letH (h_1 ++ [.cells t_spec_l1Node [.int .u8 0, .slice none 0 0 true] false]) fun h_18 => xHeap (hStore h_18 (.ptr (some (List.length h_1, 0))) [.int .u8 x_8, .slice a_11 n_12 c_13 e_14]) fun h_19 => bcase (!b_17) (Q (.tup [.str [], .bool false]) h_19) (SCall pg n_spec_BindingsValid [.slice a0 n0 c0 e0] h_19 fun v_20 h_21 =>
 xBool (some v_20) fun b_22 => bcase (!b_22) (Q (.tup [.str [], .bool false]) h_21) (J4 Q a0 n0 c0 e0 (List.length h_1) 0 h_21))))) : SCall pg n_spec_ApplyBindings [.slice a0 n0 c0 e0, .str x1] h Q :=
  SCall.of_body kp (c := cod fn) (fn := fn) Go.Proofs.Tryz.func59 (by kernel_rfl) (by kernel_rfl) (Nat.le_of_ble_eq_true (by kernel_rfl))
    (@cast _ (den pg fn.ntmps kp (cod fn) (Env.args 0 [.slice a0 n0 c0 e0, .str x1]) h (KR Q)) (by kernel_rfl) ht)
end F_spec_ApplyBindings
/-! Function loop.example/instancesearch/spec.l4Needs -/
namespace F_spec_l4Needs
noncomputable abbrev fn : Func := Go.Proofs.Tryz.f30
def kp : Keeps := [(3000006, [6, 4, 5]), (1000006, [6, 7, 26, 27, 28])]
noncomputable def C (p : List Nat) : Code := (cod fn).sub p
def KR (Q : QT) : KT := retA pg fn.results.toList Q
abbrev T6 := Pt → Nat → Nat → Bool → Pt → Nat → Nat → Bool → Pt → Nat → Nat → Bool → Int → Int → AHeap → Prop
def E6 (R6 : T6) (env : Env) (h : AHeap) : Prop := eVal 6 env fun v env => xSl (some v) fun a6 n6 c6 e6 => eVal 7 env fun v env => xSl (some v) fun a7 n7 c7 e7 => eVal 26 env fun v env => xSl (some v) fun a26 n26 c26 e26 => eVal 27 env fun v env => eInt .i64 v fun x27 => eVal 28 env fun v env => eInt .i64 v fun x28 => eNil env (R6 a6 n6 c6 e6 a7 n7 c7 e7 a26 n26 c26 e26 x27 x28 h)
theorem E6elim {R6 : T6} {env : Env} {h : AHeap} (hi : E6 R6 env h) : ∃ a6, ∃ n6, ∃ c6, ∃ e6, ∃ a7, ∃ n7, ∃ c7, ∃ e7, ∃ a26, ∃ n26, ∃ c26, ∃ e26, ∃ x27, ∃ x28, env = [(6, .slice a6 n6 c6 e6), (7, .slice a7 n7 c7 e7), (26, .slice a26 n26 c26 e26), (27, .int .i64 x27), (28, .int .i64 x28)] ∧ R6 a6 n6 c6 e6 a7 n7 c7 e7 a26 n26 c26 e26 x27 x28 h := by
  unfold E6 at hi
  have hi0 := hi
  clear hi
  obtain ⟨v, env, rfl, hi1⟩ := eVal_elim hi0
  obtain ⟨a6, n6, c6, e6, rfl, hi2⟩ := xSl_elim hi1
  obtain ⟨v, env, rfl, hi3⟩ := eVal_elim hi2
  obtain ⟨a7, n7, c7, e7, rfl, hi4⟩ := xSl_elim hi3
  obtain ⟨v, env, rfl, hi5⟩ := eVal_elim hi4
  obtain ⟨a26, n26, c26, e26, rfl, hi6⟩ := xSl_elim hi5
  obtain ⟨v, env, rfl, hi7⟩ := eVal_elim hi6
  obtain ⟨x27, rfl, hi8⟩ := eInt_elim hi7
  obtain ⟨v, env, rfl, hi9⟩ := eVal_elim hi8
  obtain ⟨x28, rfl, hi10⟩ := eInt_elim hi9
  obtain ⟨rfl, hi11⟩ := eNil_elim hi10
  have hi := hi11
  exact ⟨a6, n6, c6, e6, a7, n7, c7, e7, a26, n26, c26, e26, x27, x28, rfl, hi⟩
def K0 (Q : QT) : KT := andThen (fun env' h' => (match kp.find 4000013 with | some ks => Den pg fn.ntmps (C [1, 1, 1, 1, 1]) (env'.keep ks) h' (KR Q) | none => den pg fn.ntmps kp (C [1, 1, 1, 1, 1]) env' h' (KR Q))) (KR Q)
def K1 (Q : QT) : KT := onExit 0 (K0 Q)
def K2 (Q : QT) : KT := left kp 6 (K1 Q)
def K3 (Q : QT) (R6 : T6) : KT := rnd ((kp.find 1000006).getD []) (E6 R6) (K2 Q)
def L6 (Q : QT) (a6 : Pt) (n6 c6 : Nat) (e6 : Bool) (a7 : Pt) (n7 c7 : Nat) (e7 : Bool) (a26 : Pt) (n26 c26 : Nat) (e26 : Bool) (x27 x28 : Int) (h : AHeap) : Prop := Loop (Den pg fn.ntmps (C [1, 1, 1, 1, 0, 1, 0, 0])) ((kp.find 1000006).getD []) (K2 Q) [(6, .slice a6 n6 c6 e6), (7, .slice a7 n7 c7 e7), (26, .slice a26 n26 c26 e26), (27, .int .i64 x27), (28, .int .i64 x28)] h
def A6x0 (Q : QT) (a6 : Pt) (n6 c6 : Nat) (e6 : Bool) (h : AHeap) : Prop := At (K1 Q) (.exit 0) [(6, .slice a6 n6 c6 e6), (4, .undef), (5, .undef)] h
def L6t (Q : QT) (R6 : T6) (a6 : Pt) (n6 c6 : Nat) (e6 : Bool) (a7 : Pt) (n7 c7 : Nat) (e7 : Bool) (a26 : Pt) (n26 c26 : Nat) (e26 : Bool) (x27 x28 : Int) (h : AHeap) : Prop :=
 bcase (decide ((x28 : Int) < x27)) ((0 ≤ (x28 : Int) ∧ (x28 : Int) < (n26 : Nat)) ∧ (xSome a26 fun i_19 o_20 => xRow (hRow h (.ptr (some (i_19, o_20 + (Int.toNat x28) * 2))) 2) fun cs_21 => xCons cs_21 fun c_22 r_23 => xStr (some c_22) fun s_24 => xCons r_23 fun c_25 r_26 => xStr (some c_25) fun s_27 => xNil r_26 (letH (h ++ [.cells t_impl_Need [.str [], .str []] false]) fun h_28 => xHeap (hStore h_28 (.ptr (some (List.length h, 0))) [.str s_24, .str s_27]) fun h_29 => xStr (hCell h_29 (.ptr (some (List.length h, 0 + 1)))) fun s_30 => SCall pg n_spec_ApplyBindings [.slice a7 n7 c7 e7, .str s_30] h_29 fun v_31 h_32 =>
 xTup v_31 fun cs_33 => xCons cs_33 fun c_34 r_35 => xStr (some c_34) fun s_36 => xCons r_35 fun c_37 r_38 => xBool (some c_37) fun b_39 => xNil r_38 (bcase (!b_39) (letH (h_32 ++ [.cells t_impl_Need [] false]) fun h_40 => Q (.tup [.slice (some (List.length h_32, 0)) 0 0 true, .bool false]) h_40) (xStr (hCell h_32 (.ptr (some (List.length h, 0 + 0)))) fun s_41 => letH (h_32 ++ [.cells t_impl_Need [.str s_41, .str s_36] false]) fun h_42 => appendA pg t_L_impl_Need h_42 (.slice a6 n6 c6 e6) (.slice (some (List.length h_32, 0)) 1 1 true) fun v_43 h_44 => xSl (some v_43) fun a_45 n_46 c_47 e_48 => R6 a_45 n_46 c_47 e_48 a7 n7 c7 e7 a26 n26 c26 e26 x27 (IntKind.wrap .i64 (x28 + 1)) h_44))))) (A6x0 Q a6 n6 c6 e6 h)
theorem L6den (Q : QT) (R6 : T6) (a6 : Pt) (n6 c6 : Nat) (e6 : Bool) (a7 : Pt) (n7 c7 : Nat) (e7 : Bool) (a26 : Pt) (n26 c26 : Nat) (e26 : Bool) (x27 x28 : Int) (h : AHeap) (ht : L6t Q R6 a6 n6 c6 e6 a7 n7 c7 e7 a26 n26 c26 e26 x27 x28 h) : Den pg fn.ntmps (C [1, 1, 1, 1, 0, 1, 0, 0]) [(6, .slice a6 n6 c6 e6), (7, .slice a7 n7 c7 e7), (26, .slice a26 n26 c26 e26), (27, .int .i64 x27), (28, .int .i64 x28)] h (K3 Q R6) :=
  den_Den (kp := kp) (@cast _ (den pg fn.ntmps kp (C [1, 1, 1, 1, 0, 1, 0, 0]) [(6, .slice a6 n6 c6 e6), (7, .slice a7 n7 c7 e7), (26, .slice a26 n26 c26 e26), (27, .int .i64 x27), (28, .int .i64 x28)] h (K3 Q R6)) (by kernel_rfl) ht)
theorem L6ind (Q : QT) (a7 : Pt) (n7 c7 : Nat) (e7 : Bool) (a26 : Pt) (n26 c26 : Nat) (e26 : Bool) (x27 : Int) {G : Type} (J : G → Pt → Nat → Nat → Bool → Int → AHeap → Prop) (m : G → Nat)
 (hr : ∀ (g : G) (a6 : Pt) (n6 c6 : Nat) (e6 : Bool) (x28 : Int) (h : AHeap), J g a6 n6 c6 e6 x28 h → ∀ (R6 : T6), (∀ g' (a6 : Pt) (n6 c6 : Nat) (e6 : Bool) (x28 : Int) (h : AHeap), m g' < m g → J g' a6 n6 c6 e6 x28 h → R6 a6 n6 c6 e6 a7 n7 c7 e7 a26 n26 c26 e26 x27 x28 h) → L6t Q R6 a6 n6 c6 e6 a7 n7 c7 e7 a26 n26 c26 e26 x27 x28 h)
 (g : G) (a6 : Pt) (n6 c6 : Nat) (e6 : Bool) (x28 : Int) (h : AHeap) (hj : J g a6 n6 c6 e6 x28 h) : L6 Q a6 n6 c6 e6 a7 n7 c7 e7 a26 n26 c26 e26 x27 x28 h := by
  refine Loop.inv2 (fun g => E6 fun a6 n6 c6 e6 a7' n7' c7' e7' a26' n26' c26' e26' x27' x28 h => a7 = a7' ∧ n7 = n7' ∧ c7 = c7' ∧ e7 = e7' ∧ a26 = a26' ∧ n26 = n26' ∧ c26 = c26' ∧ e26 = e26' ∧ x27 = x27' ∧ J g a6 n6 c6 e6 x28 h) (fun g => E6 fun a6 n6 c6 e6 a7' n7' c7' e7' a26' n26' c26' e26' x27' x28 h => a7 = a7' ∧ n7 = n7' ∧ c7 = c7' ∧ e7 = e7' ∧ a26 = a26' ∧ n26 = n26' ∧ c26 = c26' ∧ e26 = e26' ∧ x27 = x27' ∧ ∃ g', m g' < m g ∧ J g' a6 n6 c6 e6 x28 h) m ?_ ?_ g ⟨rfl, rfl, rfl, rfl, rfl, rfl, rfl, rfl, rfl, hj⟩
  · intro g env h hi
    obtain ⟨a6, n6, c6, e6, a7', n7', c7', e7', a26', n26', c26', e26', x27', x28, rfl, rfl, rfl, rfl, rfl, rfl, rfl, rfl, rfl, rfl, hj⟩ := E6elim hi
    exact L6den Q (fun a6 n6 c6 e6 a7' n7' c7' e7' a26' n26' c26' e26' x27' x28 h => a7 = a7' ∧ n7 = n7' ∧ c7 = c7' ∧ e7 = e7' ∧ a26 = a26' ∧ n26 = n26' ∧ c26 = c26' ∧ e26 = e26' ∧ x27 = x27' ∧ ∃ g', m g' < m g ∧ J g' a6 n6 c6 e6 x28 h) a6 n6 c6 e6 a7 n7 c7 e7 a26 n26 c26 e26 x27 x28 h (hr g a6 n6 c6 e6 x28 h hj (fun a6 n6 c6 e6 a7' n7' c7' e7' a26' n26' c26' e26' x27' x28 h => a7 = a7' ∧ n7 = n7' ∧ c7 = c7' ∧ e7 = e7' ∧ a26 = a26' ∧ n26 = n26' ∧ c26 = c26' ∧ e26 = e26' ∧ x27 = x27' ∧ ∃ g', m g' < m g ∧ J g' a6 n6 c6 e6 x28 h) fun g' a6 n6 c6 e6 x28 h hlt hj => ⟨rfl, rfl, rfl, rfl, rfl, rfl, rfl, rfl, rfl, g', hlt, hj⟩)
  · intro g env h hi
    obtain ⟨a6, n6, c6, e6, a7', n7', c7', e7', a26', n26', c26', e26', x27', x28, rfl, rfl, rfl, rfl, rfl, rfl, rfl, rfl, rfl, rfl, g', hlt, hj⟩ := E6elim hi
    exact ⟨g', hlt, rfl, rfl, rfl, rfl, rfl, rfl, rfl, rfl, rfl, hj⟩
theorem A6x0i (Q : QT) (a6 : Pt) (n6 c6 : Nat) (e6 : Bool) (h : AHeap) (ht :
 Q (.tup [.slice a6 n6 c6 e6, .bool true]) h) : A6x0 Q a6 n6 c6 e6 h :=
  At.mk (@cast _ ((K1 Q) (.exit 0) [(6, .slice a6 n6 c6 e6), (4, .undef), (5, .undef)] h) (by kernel_rfl) ht)
theorem call (x0x0 x0x1 : List Nat) (a0x2 : Pt) (n0x2 c0x2 : Nat) (e0x2 : Bool) (x1 : List Nat) (h : AHeap) (Q : QT) (ht :
 letH (h ++ [.cells t_impl_Instance [.str x0x0, .str x0x1, .slice a0x2 n0x2 c0x2 e0x2] false]) fun h_0 => letH (h_0 ++ [.cells t_impl_Need [] false]) fun h_1 => xStr (hCell h_1 (.ptr (some (List.length h, 0 + 0 + 1)))) fun s_2 => SCall pg n_spec_MatchType [.str s_2, .str x1] h_1 fun v_3 h_4 =>
 xTup v_3 fun cs_5 => xCons cs_5 fun c_6 r_7 => xSl (some c_6) fun a_8 n_9 c_10 e_11 => xCons r_7 fun c_12 r_13 => xBool (some c_12) fun b_14 => xNil r_13 (bcase (!b_14) (Q (.tup [.slice (some (List.length h_0, 0)) 0 0 true, .bool false]) h_4) (xSl (hCell h_4 (.ptr (some (List.length h, 0 + 2)))) fun a_15 n_16 c_17 e_18 => L6 Q (some (List.length h_0, 0)) 0 0 true a_8 n_9 c_10 e_11 a_15 n_16 c_17 e_18 (((n_16 : Nat) : Int)) 0 h_4))) : SCall pg n_spec_l4Needs [.agg [.str x0x0, .str x0x1, .slice a0x2 n0x2 c0x2 e0x2], .str x1] h Q :=
  SCall.of_body kp (c := cod fn) (fn := fn) Go.Proofs.Tryz.func30 (by kernel_rfl) (by kernel_rfl) (Nat.le_of_ble_eq_true (by kernel_rfl))
    (@cast _ (den pg fn.ntmps kp (cod fn) (Env.args 0 [.agg [.str x0x0, .str x0x1, .slice a0x2 n0x2 c0x2 e0x2], .str x1]) h (KR Q)) (by kernel_rfl) ht)
end F_spec_l4Needs
/-! Function loop.example/instancesearch/impl.NeedsOf -/
namespace F_impl_NeedsOf
noncomputable abbrev fn : Func := Go.Proofs.Tryz.f10
def kp : Keeps := [(4000003, [3, 1, 2])]
noncomputable def C (p : List Nat) : Code := (cod fn).sub p
def KR (Q : QT) : KT := retA pg fn.results.toList Q
def J3 (Q : QT) (i3 o3 : Nat) (x1 : Int) (x2 : List Nat) (h : AHeap) : Prop := Den pg fn.ntmps (C [1, 1]) [(3, .ptr (some (i3, o3))), (1, .int .i64 x1), (2, .str x2)] h (KR Q)
theorem J3i (Q : QT) (i3 o3 : Nat) (x1 : Int) (x2 : List Nat) (h : AHeap) (ht :
 xSl (hCell h (.ptr (some (i3, o3 + 1)))) fun a_21 n_22 c_23 e_24 => (0 ≤ (x1 : Int) ∧ (x1 : Int) < (n_22 : Nat)) ∧ (xSome a_21 fun i_25 o_26 => xRow (hRow h (.ptr (some (i_25, o_26 + (Int.toNat x1) * 3))) 3) fun cs_27 => xCons cs_27 fun c_28 r_29 => xStr (some c_28) fun s_30 => xCons r_29 fun c_31 r_32 => xStr (some c_31) fun s_33 => xCons r_32 fun c_34 r_35 => xSl (some c_34) fun a_36 n_37 c_38 e_39 => xNil r_35 (SCall pg n_impl_Instance_needs [.agg [.str s_30, .str s_33, .slice a_36 n_37 c_38 e_39], .str x2] h fun v_40 h_41 =>
 xTup v_40 fun cs_42 => xCons cs_42 fun c_43 r_44 => xSl (some c_43) fun a_45 n_46 c_47 e_48 => xCons r_44 fun c_49 r_50 => xBool (some c_49) fun b_51 => xNil r_50 (Q (.tup [.slice a_45 n_46 c_47 e_48, .bool b_51]) h_41)))) : J3 Q i3 o3 x1 x2 h :=
  den_Den (kp := kp) (@cast _ (den pg fn.ntmps kp (C [1, 1]) [(3, .ptr (some (i3, o3))), (1, .int .i64 x1), (2, .str x2)] h (KR Q)) (by kernel_rfl) ht)
theorem call (a0x0 : Pt) (n0x0 c0x0 : Nat) (e0x0 : Bool) (a0x1 : Pt) (n0x1 c0x1 : Nat) (e0x1 : Bool) (x1 : Int) (x2 : List Nat) (h : AHeap) (Q : QT) (ht :
 letH (h ++ [.cells t_impl_World [.slice a0x0 n0x0 c0x0 e0x0, .slice a0x1 n0x1 c0x1 e0x1] false]) fun h_0 => xRow (hRow h_0 (.ptr (some (List.length h, 0))) 2) fun cs_1 => xCons cs_1 fun c_2 r_3 => xSl (some c_2) fun a_4 n_5 c_6 e_7 => xCons r_3 fun c_8 r_9 => xSl (some c_8) fun a_10 n_11 c_12 e_13 => xNil r_9 (SCall pg n_impl_WorldValid [.agg [.slice a_4 n_5 c_6 e_7, .slice a_10 n_11 c_12 e_13]] h_0 fun v_14 h_15 =>
 xBool (some v_14) fun b_16 => bcase (!b_16) (Q (.tup [.slice none 0 0 true, .bool false]) h_15) (bcase (decide ((x1 : Int) < 0)) (Q (.tup [.slice none 0 0 true, .bool false]) h_15) (xSl (hCell h_15 (.ptr (some (List.length h, 0 + 1)))) fun a_17 n_18 c_19 e_20 => bcase (decide ((x1 : Int) ≥ (((n_18 : Nat) : Int)))) (Q (.tup [.slice none 0 0 true, .bool false]) h_15) (J3 Q (List.length h) 0 x1 x2 h_15))))) : SCall pg n_impl_NeedsOf [.agg [.slice a0x0 n0x0 c0x0 e0x0, .slice a0x1 n0x1 c0x1 e0x1], .int .i64 x1, .str x2] h Q :=
  SCall.of_body kp (c := cod fn) (fn := fn) Go.Proofs.Tryz.func10 (by kernel_rfl) (by kernel_rfl) (Nat.le_of_ble_eq_true (by kernel_rfl))
    (@cast _ (den pg fn.ntmps kp (cod fn) (Env.args 0 [.agg [.slice a0x0 n0x0 c0x0 e0x0, .slice a0x1 n0x1 c0x1 e0x1], .int .i64 x1, .str x2]) h (KR Q)) (by kernel_rfl) ht)
end F_impl_NeedsOf
/-! Function loop.example/instancesearch/spec.NeedsOf -/
namespace F_spec_NeedsOf
noncomputable abbrev fn : Func := Go.Proofs.Tryz.f8
def kp : Keeps := [(4000003, [3, 1, 2])]
noncomputable def C (p : List Nat) : Code := (cod fn).sub p
def KR (Q : QT) : KT := retA pg fn.results.toList Q
def J3 (Q : QT) (i3 o3 : Nat) (x1 : Int) (x2 : List Nat) (h : AHeap) : Prop := Den pg fn.ntmps (C [1, 1]) [(3, .ptr (some (i3, o3))), (1, .int .i64 x1), (2, .str x2)] h (KR Q)
theorem J3i (Q : QT) (i3 o3 : Nat) (x1 : Int) (x2 : List Nat) (h : AHeap) (ht :
 xSl (hCell h (.ptr (some (i3, o3 + 1)))) fun a_26 n_27 c_28 e_29 => (0 ≤ (x1 : Int) ∧ (x1 : Int) < (n_27 : Nat)) ∧ (xSome a_26 fun i_30 o_31 => xRow (hRow h (.ptr (some (i_30, o_31 + (Int.toNat x1) * 3))) 3) fun cs_32 => xCons cs_32 fun c_33 r_34 => xStr (some c_33) fun s_35 => xCons r_34 fun c_36 r_37 => xStr (some c_36) fun s_38 => xCons r_37 fun c_39 r_40 => xSl (some c_39) fun a_41 n_42 c_43 e_44 => xNil r_40 (SCall pg n_spec_l4Needs [.agg [.str s_35, .str s_38, .slice a_41 n_42 c_43 e_44], .str x2] h fun v_45 h_46 =>
 xTup v_45 fun cs_47 => xCons cs_47 fun c_48 r_49 => xSl (some c_48) fun a_50 n_51 c_52 e_53 => xCons r_49 fun c_54 r_55 => xBool (some c_54) fun b_56 => xNil r_55 (Q (.tup [.slice a_50 n_51 c_52 e_53, .bool b_56]) h_46)))) : J3 Q i3 o3 x1 x2 h :=
  den_Den (kp := kp) (@cast _ (den pg fn.ntmps kp (C [1, 1]) [(3, .ptr (some (i3, o3))), (1, .int .i64 x1), (2, .str x2)] h (KR Q)) (by kernel_rfl) ht)
theorem call (a0x0 : Pt) (n0x0 c0x0 : Nat) (e0x0 : Bool) (a0x1 : Pt) (n0x1 c0x1 : Nat) (e0x1 : Bool) (x1 : Int) (x2 : List Nat) (h : AHeap) (Q : QT) (ht :
 letH (h ++ [.cells t_impl_World [.slice a0x0 n0x0 c0x0 e0x0, .slice a0x1 n0x1 c0x1 e0x1] false]) fun h_0 => xRow (hRow h_0 (.ptr (some (List.length h, 0))) 2) fun cs_1 => xCons cs_1 fun c_2 r_3 => xSl (some c_2) fun a_4 n_5 c_6 e_7 => xCons r_3 fun c_8 r_9 => xSl (some c_8) fun a_10 n_11 c_12 e_13 => xNil r_9 (SCall pg n_spec_WorldValid [.agg [.slice a_4 n_5 c_6 e_7, .slice a_10 n_11 c_12 e_13]] h_0 fun v_14 h_15 =>
 xBool (some v_14) fun b_16 => bcase (!b_16) (letH (h_15 ++ [.cells t_impl_Need [] false]) fun h_17 => Q (.tup [.slice (some (List.length h_15, 0)) 0 0 true, .bool false]) h_17) (xSl (hCell h_15 (.ptr (some (List.length h, 0 + 1)))) fun a_18 n_19 c_20 e_21 => SCall pg n_spec_l1In [.int .i64 x1, .int .i64 0, .int .i64 (IntKind.wrap .i64 ((((n_19 : Nat) : Int)) - 1))] h_15 fun v_22 h_23 =>
 xBool (some v_22) fun b_24 => bcase (!b_24) (letH (h_23 ++ [.cells t_impl_Need [] false]) fun h_25 => Q (.tup [.slice (some (List.length h_23, 0)) 0 0 true, .bool false]) h_25) (J3 Q (List.length h) 0 x1 x2 h_23)))) : SCall pg n_spec_NeedsOf [.agg [.slice a0x0 n0x0 c0x0 e0x0, .slice a0x1 n0x1 c0x1 e0x1], .int .i64 x1, .str x2] h Q :=
  SCall.of_body kp (c := cod fn) (fn := fn) Go.Proofs.Tryz.func8 (by kernel_rfl) (by kernel_rfl) (Nat.le_of_ble_eq_true (by kernel_rfl))
    (@cast _ (den pg fn.ntmps kp (cod fn) (Env.args 0 [.agg [.slice a0x0 n0x0 c0x0 e0x0, .slice a0x1 n0x1 c0x1 e0x1], .int .i64 x1, .str x2]) h (KR Q)) (by kernel_rfl) ht)
end F_spec_NeedsOf
end Go.Sim

/- Printed by wip/tool: what the functions' bodies do, in the words of 'den'. -/
set_option maxRecDepth 100000
set_option linter.unusedVariables false
namespace Go.Sim
open Go Go.RowKit
/-! Function loop.example/instancesearch/spec.BindingsValid -/
namespace F_spec_BindingsValid
noncomputable abbrev fn : Func := Go.Proofs.Tryz.f102
def kp : Keeps := [(3000002, [2]), (1000002, [0, 5, 6, 7]), (2000004, [43, 7, 6, 5, 0]), (4000006, [7, 6, 5, 0])]
noncomputable def C (p : List Nat) : Code := (cod fn).sub p
def KR (Q : QT) : KT := retA pg fn.results.toList Q
abbrev T2 := Pt → Nat → Nat → Bool → Pt → Nat → Nat → Bool → Int → Int → AHeap → Prop
def E2 (R2 : T2) (env : Env) (h : AHeap) : Prop := eVal 0 env fun v env => xSl (some v) fun a0 n0 c0 e0 => eVal 5 env fun v env => xSl (some v) fun a5 n5 c5 e5 => eVal 6 env fun v env => eInt .i64 v fun x6 => eVal 7 env fun v env => eInt .i64 v fun x7 => eNil env (R2 a0 n0 c0 e0 a5 n5 c5 e5 x6 x7 h)
theorem E2elim {R2 : T2} {env : Env} {h : AHeap} (hi : E2 R2 env h) : ∃ a0, ∃ n0, ∃ c0, ∃ e0, ∃ a5, ∃ n5, ∃ c5, ∃ e5, ∃ x6, ∃ x7, env = [(0, .slice a0 n0 c0 e0), (5, .slice a5 n5 c5 e5), (6, .int .i64 x6), (7, .int .i64 x7)] ∧ R2 a0 n0 c0 e0 a5 n5 c5 e5 x6 x7 h := by
  unfold E2 at hi
  have hi0 := hi
  clear hi
  obtain ⟨v, env, rfl, hi1⟩ := eVal_elim hi0
  obtain ⟨a0, n0, c0, e0, rfl, hi2⟩ := xSl_elim hi1
  obtain ⟨v, env, rfl, hi3⟩ := eVal_elim hi2
  obtain ⟨a5, n5, c5, e5, rfl, hi4⟩ := xSl_elim hi3
  obtain ⟨v, env, rfl, hi5⟩ := eVal_elim hi4
  obtain ⟨x6, rfl, hi6⟩ := eInt_elim hi5
  obtain ⟨v, env, rfl, hi7⟩ := eVal_elim hi6
  obtain ⟨x7, rfl, hi8⟩ := eInt_elim hi7
  obtain ⟨rfl, hi9⟩ := eNil_elim hi8
  have hi := hi9
  exact ⟨a0, n0, c0, e0, a5, n5, c5, e5, x6, x7, rfl, hi⟩
def K0 (Q : QT) : KT := andThen (fun env' h' => (match kp.find 4000007 with | some ks => Den pg fn.ntmps (C [1, 1]) (env'.keep ks) h' (KR Q) | none => den pg fn.ntmps kp (C [1, 1]) env' h' (KR Q))) (KR Q)
def K1 (Q : QT) : KT := onExit 0 (K0 Q)
def K2 (Q : QT) : KT := left kp 2 (K1 Q)
def K3 (Q : QT) (R2 : T2) : KT := rnd ((kp.find 1000002).getD []) (E2 R2) (K2 Q)
def L2 (Q : QT) (a0 : Pt) (n0 c0 : Nat) (e0 : Bool) (a5 : Pt) (n5 c5 : Nat) (e5 : Bool) (x6 x7 : Int) (h : AHeap) : Prop := Loop (Den pg fn.ntmps (C [1, 0, 1, 0, 0])) ((kp.find 1000002).getD []) (K2 Q) [(0, .slice a0 n0 c0 e0), (5, .slice a5 n5 c5 e5), (6, .int .i64 x6), (7, .int .i64 x7)] h
def J6 (Q : QT) (R2 : T2) (x7 x6 : Int) (a5 : Pt) (n5 c5 : Nat) (e5 : Bool) (a0 : Pt) (n0 c0 : Nat) (e0 : Bool) (h : AHeap) : Prop := Den pg fn.ntmps (C [1, 0, 1, 0, 0, 1, 1, 1]) [(7, .int .i64 x7), (6, .int .i64 x6), (5, .slice a5 n5 c5 e5), (0, .slice a0 n0 c0 e0)] h (K3 Q R2)
def A2x0 (Q : QT) (h : AHeap) : Prop := At (K1 Q) (.exit 0) [(2, .undef)] h
def L2t (Q : QT) (R2 : T2) (a0 : Pt) (n0 c0 : Nat) (e0 : Bool) (a5 : Pt) (n5 c5 : Nat) (e5 : Bool) (x6 x7 : Int) (h : AHeap) : Prop :=
 bcase (decide ((x7 : Int) < x6)) ((0 ≤ (x7 : Int) ∧ (x7 : Int) < (n5 : Nat)) ∧ (xSome a5 fun i_0 o_1 => xRow (hRow h (.ptr (some (i_0, o_1 + (Int.toNat x7) * 2))) 2) fun cs_2 => xCons cs_2 fun c_3 r_4 => xStr (some c_3) fun s_5 => xCons r_4 fun c_6 r_7 => xStr (some c_6) fun s_8 => xNil r_7 (letH (h ++ [.cells t_impl_Binding [.str [], .str []] false]) fun h_9 => xHeap (hStore h_9 (.ptr (some (List.length h, 0))) [.str s_5, .str s_8]) fun h_10 => xStr (hCell h_10 (.ptr (some (List.length h, 0 + 0)))) fun s_11 => bcase (!((((List.length s_11 : Nat) : Int) : Int) == 1)) ((hCell h_10 (.tup []) = hCell h_10 (.tup [])) ∧ Q (.bool false) h_10) (xStr (hCell h_10 (.ptr (some (List.length h, 0 + 0)))) fun s_12 => byteAt s_12 0 fun b_13 => SCall pg n_spec_l1Variable [.int .u8 (((b_13 : Nat) : Int))] h_10 fun v_14 h_15 =>
 xBool (some v_14) fun b_16 => bcase (!b_16) ((hCell h_15 (.tup []) = hCell h_15 (.tup [])) ∧ Q (.bool false) h_15) (xStr (hCell h_15 (.ptr (some (List.length h, 0 + 1)))) fun s_17 => SCall pg n_spec_TypeValid [.str s_17] h_15 fun v_18 h_19 =>
 xBool (some v_18) fun b_20 => bcase (!b_20) ((hCell h_19 (.tup []) = hCell h_19 (.tup [])) ∧ Q (.bool false) h_19) (bcase (decide ((x7 : Int) > 0)) ((0 ≤ (IntKind.wrap .i64 (x7 - 1) : Int) ∧ (IntKind.wrap .i64 (x7 - 1) : Int) < (n0 : Nat)) ∧ (xSome a0 fun i_21 o_22 => xStr (hCell h_19 (.ptr (some (i_21, o_22 + (Int.toNat (IntKind.wrap .i64 (x7 - 1))) * 2 + 0)))) fun s_23 => xStr (hCell h_19 (.ptr (some (List.length h, 0 + 0)))) fun s_24 => (hCell h_19 (.ptr (some (i_21, o_22 + (Int.toNat (IntKind.wrap .i64 (x7 - 1))) * 2 + 0))) = hCell h_19 (.ptr (some (i_21, o_22 + (Int.toNat (IntKind.wrap .i64 (x7 - 1))) * 2 + 0)))) ∧ bcase (!natLess s_23 s_24) (Q (.bool false) h_19) (J6 Q R2 x7 x6 a5 n5 c5 e5 a0 n0 c0 e0 h_19))) ((hCell h_19 (.tup []) = hCell h_19 (.tup [])) ∧ J6 Q R2 x7 x6 a5 n5 c5 e5 a0 n0 c0 e0 h_19))))))) (A2x0 Q h)
theorem L2den (Q : QT) (R2 : T2) (a0 : Pt) (n0 c0 : Nat) (e0 : Bool) (a5 : Pt) (n5 c5 : Nat) (e5 : Bool) (x6 x7 : Int) (h : AHeap) (ht : L2t Q R2 a0 n0 c0 e0 a5 n5 c5 e5 x6 x7 h) : Den pg fn.ntmps (C [1, 0, 1, 0, 0]) [(0, .slice a0 n0 c0 e0), (5, .slice a5 n5 c5 e5), (6, .int .i64 x6), (7, .int .i64 x7)] h (K3 Q R2) :=
  den_Den (kp := kp) (@cast _ (den pg fn.ntmps kp (C [1, 0, 1, 0, 0]) [(0, .slice a0 n0 c0 e0), (5, .slice a5 n5 c5 e5), (6, .int .i64 x6), (7, .int .i64 x7)] h (K3 Q R2)) (by kernel_rfl) ht)
theorem L2ind (Q : QT) (a0 : Pt) (n0 c0 : Nat) (e0 : Bool) (a5 : Pt) (n5 c5 : Nat) (e5 : Bool) (x6 : Int) {G : Type} (J : G → Int → AHeap → Prop) (m : G → Nat)
 (hr : ∀ (g : G) (x7 : Int) (h : AHeap), J g x7 h → ∀ (R2 : T2), (∀ g' (x7 : Int) (h : AHeap), m g' < m g → J g' x7 h → R2 a0 n0 c0 e0 a5 n5 c5 e5 x6 x7 h) → L2t Q R2 a0 n0 c0 e0 a5 n5 c5 e5 x6 x7 h)
 (g : G) (x7 : Int) (h : AHeap) (hj : J g x7 h) : L2 Q a0 n0 c0 e0 a5 n5 c5 e5 x6 x7 h := by
  refine Loop.inv2 (fun g => E2 fun a0' n0' c0' e0' a5' n5' c5' e5' x6' x7 h => a0 = a0' ∧ n0 = n0' ∧ c0 = c0' ∧ e0 = e0' ∧ a5 = a5' ∧ n5 = n5' ∧ c5 = c5' ∧ e5 = e5' ∧ x6 = x6' ∧ J g x7 h) (fun g => E2 fun a0' n0' c0' e0' a5' n5' c5' e5' x6' x7 h => a0 = a0' ∧ n0 = n0' ∧ c0 = c0' ∧ e0 = e0' ∧ a5 = a5' ∧ n5 = n5' ∧ c5 = c5' ∧ e5 = e5' ∧ x6 = x6' ∧ ∃ g', m g' < m g ∧ J g' x7 h) m ?_ ?_ g ⟨rfl, rfl, rfl, rfl, rfl, rfl, rfl, rfl, rfl, hj⟩
  · intro g env h hi
    obtain ⟨a0', n0', c0', e0', a5', n5', c5', e5', x6', x7, rfl, rfl, rfl, rfl, rfl, rfl, rfl, rfl, rfl, rfl, hj⟩ := E2elim hi
    exact L2den Q (fun a0' n0' c0' e0' a5' n5' c5' e5' x6' x7 h => a0 = a0' ∧ n0 = n0' ∧ c0 = c0' ∧ e0 = e0' ∧ a5 = a5' ∧ n5 = n5' ∧ c5 = c5' ∧ e5 = e5' ∧ x6 = x6' ∧ ∃ g', m g' < m g ∧ J g' x7 h) a0 n0 c0 e0 a5 n5 c5 e5 x6 x7 h (hr g x7 h hj (fun a0' n0' c0' e0' a5' n5' c5' e5' x6' x7 h => a0 = a0' ∧ n0 = n0' ∧ c0 = c0' ∧ e0 = e0' ∧ a5 = a5' ∧ n5 = n5' ∧ c5 = c5' ∧ e5 = e5' ∧ x6 = x6' ∧ ∃ g', m g' < m g ∧ J g' x7 h) fun g' x7 h hlt hj => ⟨rfl, rfl, rfl, rfl, rfl, rfl, rfl, rfl, rfl, g', hlt, hj⟩)
  · intro g env h hi
    obtain ⟨a0', n0', c0', e0', a5', n5', c5', e5', x6', x7, rfl, rfl, rfl, rfl, rfl, rfl, rfl, rfl, rfl, rfl, g', hlt, hj⟩ := E2elim hi
    exact ⟨g', hlt, rfl, rfl, rfl, rfl, rfl, rfl, rfl, rfl, rfl, hj⟩
theorem J6i (Q : QT) (R2 : T2) (x7 x6 : Int) (a5 : Pt) (n5 c5 : Nat) (e5 : Bool) (a0 : Pt) (n0 c0 : Nat) (e0 : Bool) (h : AHeap) (ht :
 R2 a0 n0 c0 e0 a5 n5 c5 e5 x6 (IntKind.wrap .i64 (x7 + 1)) h) : J6 Q R2 x7 x6 a5 n5 c5 e5 a0 n0 c0 e0 h :=
  den_Den (kp := kp) (@cast _ (den pg fn.ntmps kp (C [1, 0, 1, 0, 0, 1, 1, 1]) [(7, .int .i64 x7), (6, .int .i64 x6), (5, .slice a5 n5 c5 e5), (0, .slice a0 n0 c0 e0)] h (K3 Q R2)) (by kernel_rfl) ht)
theorem A2x0i (Q : QT) (h : AHeap) (ht :
 Q (.bool true) h) : A2x0 Q h :=
  At.mk (@cast _ ((K1 Q) (.exit 0) [(2, .undef)] h) (by kernel_rfl) ht)
theorem call (a0 : Pt) (n0 c0 : Nat) (e0 : Bool) (h : AHeap) (Q : QT) (ht :
 L2 Q a0 n0 c0 e0 a0 n0 c0 e0 (((n0 : Nat) : Int)) 0 h) : SCall pg n_spec_BindingsValid [.slice a0 n0 c0 e0] h Q :=
  SCall.of_body kp (c := cod fn) (fn := fn) Go.Proofs.Tryz.func102 (by kernel_rfl) (by kernel_rfl) (Nat.le_of_ble_eq_true (by kernel_rfl))
    (@cast _ (den pg fn.ntmps kp (cod fn) (Env.args 0 [.slice a0 n0 c0 e0]) h (KR Q)) (by kernel_rfl) ht)
end F_spec_BindingsValid
/-! Function loop.example/instancesearch/spec.l2Put -/
namespace F_spec_l2Put
noncomputable abbrev fn : Func := Go.Proofs.Tryz.f104
def kp : Keeps := [(4000004, [3, 0, 4]), (3000006, [6, 4]), (1000006, [0, 4, 6, 33, 34, 35]), (2000008, [35, 34, 33, 6, 0, 4])]
noncomputable def C (p : List Nat) : Code := (cod fn).sub p
def KR (Q : QT) : KT := retA pg fn.results.toList Q
abbrev T6 := Pt → Nat → Nat → Nat → Nat → Pt → Nat → Nat → Bool → Int → Int → AHeap → Prop
def E6 (R6 : T6) (env : Env) (h : AHeap) : Prop := eVal 0 env fun v env => xPtr (some v) fun a0 => eVal 4 env fun v env => xPtr (some v) fun a => xSome a fun i4 o4 => eVal 6 env fun v env => xPtr (some v) fun a => xSome a fun i6 o6 => eVal 33 env fun v env => xSl (some v) fun a33 n33 c33 e33 => eVal 34 env fun v env => eInt .i64 v fun x34 => eVal 35 env fun v env => eInt .i64 v fun x35 => eNil env (R6 a0 i4 o4 i6 o6 a33 n33 c33 e33 x34 x35 h)
theorem E6elim {R6 : T6} {env : Env} {h : AHeap} (hi : E6 R6 env h) : ∃ a0, ∃ i4, ∃ o4, ∃ i6, ∃ o6, ∃ a33, ∃ n33, ∃ c33, ∃ e33, ∃ x34, ∃ x35, env = [(0, .ptr a0), (4, .ptr (some (i4, o4))), (6, .ptr (some (i6, o6))), (33, .slice a33 n33 c33 e33), (34, .int .i64 x34), (35, .int .i64 x35)] ∧ R6 a0 i4 o4 i6 o6 a33 n33 c33 e33 x34 x35 h := by
  unfold E6 at hi
  have hi0 := hi
  clear hi
  obtain ⟨v, env, rfl, hi1⟩ := eVal_elim hi0
  obtain ⟨a0, rfl, hi2⟩ := xPtr_elim hi1
  obtain ⟨v, env, rfl, hi3⟩ := eVal_elim hi2
  obtain ⟨a, rfl, hi4⟩ := xPtr_elim hi3
  obtain ⟨i4, o4, rfl, hi5⟩ := xSome_elim hi4
  obtain ⟨v, env, rfl, hi6⟩ := eVal_elim hi5
  obtain ⟨a, rfl, hi7⟩ := xPtr_elim hi6
  obtain ⟨i6, o6, rfl, hi8⟩ := xSome_elim hi7
  obtain ⟨v, env, rfl, hi9⟩ := eVal_elim hi8
  obtain ⟨a33, n33, c33, e33, rfl, hi10⟩ := xSl_elim hi9
  obtain ⟨v, env, rfl, hi11⟩ := eVal_elim hi10
  obtain ⟨x34, rfl, hi12⟩ := eInt_elim hi11
  obtain ⟨v, env, rfl, hi13⟩ := eVal_elim hi12
  obtain ⟨x35, rfl, hi14⟩ := eInt_elim hi13
  obtain ⟨rfl, hi15⟩ := eNil_elim hi14
  have hi := hi15
  exact ⟨a0, i4, o4, i6, o6, a33, n33, c33, e33, x34, x35, rfl, hi⟩
def K0 (Q : QT) : KT := andThen (fun env' h' => (match kp.find 4000010 with | some ks => Den pg fn.ntmps (C [1, 1, 1, 1]) (env'.keep ks) h' (KR Q) | none => den pg fn.ntmps kp (C [1, 1, 1, 1]) env' h' (KR Q))) (KR Q)
def K1 (Q : QT) : KT := onExit 0 (K0 Q)
def K2 (Q : QT) : KT := left kp 6 (K1 Q)
def K3 (Q : QT) (R6 : T6) : KT := rnd ((kp.find 1000006).getD []) (E6 R6) (K2 Q)
def J4 (Q : QT) (i3 o3 : Nat) (a0 : Pt) (i4 o4 : Nat) (h : AHeap) : Prop := Den pg fn.ntmps (C [1, 1]) [(3, .ptr (some (i3, o3))), (0, .ptr a0), (4, .ptr (some (i4, o4)))] h (KR Q)
def L6 (Q : QT) (a0 : Pt) (i4 o4 i6 o6 : Nat) (a33 : Pt) (n33 c33 : Nat) (e33 : Bool) (x34 x35 : Int) (h : AHeap) : Prop := Loop (Den pg fn.ntmps (C [1, 1, 1, 0, 1, 0, 0])) ((kp.find 1000006).getD []) (K2 Q) [(0, .ptr a0), (4, .ptr (some (i4, o4))), (6, .ptr (some (i6, o6))), (33, .slice a33 n33 c33 e33), (34, .int .i64 x34), (35, .int .i64 x35)] h
def A6x0 (Q : QT) (i6 o6 i4 o4 : Nat) (h : AHeap) : Prop := At (K1 Q) (.exit 0) [(6, .ptr (some (i6, o6))), (4, .ptr (some (i4, o4)))] h
theorem J4i (Q : QT) (i3 o3 : Nat) (a0 : Pt) (i4 o4 : Nat) (h : AHeap) (ht :
 xInt .u8 (hCell h (.ptr (some (i3, o3 + 0)))) fun x_32 => letH (h ++ [.cells t_spec_l1Node [] false]) fun h_33 => letH (h_33 ++ [.cells t_spec_l1Node [.int .u8 0, .slice none 0 0 true] false]) fun h_34 => xHeap (hStore h_34 (.ptr (some (List.length h_33, 0))) [.int .u8 x_32, .slice (some (List.length h, 0)) 0 0 true]) fun h_35 => xSl (hCell h_35 (.ptr (some (i3, o3 + 1)))) fun a_36 n_37 c_38 e_39 => L6 Q a0 i4 o4 (List.length h_33) 0 a_36 n_37 c_38 e_39 (((n_37 : Nat) : Int)) 0 h_35) : J4 Q i3 o3 a0 i4 o4 h :=
  den_Den (kp := kp) (@cast _ (den pg fn.ntmps kp (C [1, 1]) [(3, .ptr (some (i3, o3))), (0, .ptr a0), (4, .ptr (some (i4, o4)))] h (KR Q)) (by kernel_rfl) ht)
def L6t (Q : QT) (R6 : T6) (a0 : Pt) (i4 o4 i6 o6 : Nat) (a33 : Pt) (n33 c33 : Nat) (e33 : Bool) (x34 x35 : Int) (h : AHeap) : Prop :=
 bcase (decide ((x35 : Int) < x34)) ((0 ≤ (x35 : Int) ∧ (x35 : Int) < (n33 : Nat)) ∧ (xSome a33 fun i_40 o_41 => xRow (hRow h (.ptr (some (i_40, o_41 + (Int.toNat x35) * 2))) 2) fun cs_42 => xCons cs_42 fun c_43 r_44 => xInt .u8 (some c_43) fun x_45 => xCons r_44 fun c_46 r_47 => xSl (some c_46) fun a_48 n_49 c_50 e_51 => xNil r_47 (letH (h ++ [.cells t_spec_l1Node [.int .u8 0, .slice none 0 0 true] false]) fun h_52 => xHeap (hStore h_52 (.ptr (some (List.length h, 0))) [.int .u8 x_45, .slice a_48 n_49 c_50 e_51]) fun h_53 => xSl (hCell h_53 (.ptr (some (i6, o6 + 1)))) fun a_54 n_55 c_56 e_57 => xRow (hRow h_53 (.ptr (some (List.length h, 0))) 2) fun cs_58 => xCons cs_58 fun c_59 r_60 => xInt .u8 (some c_59) fun x_61 => xCons r_60 fun c_62 r_63 => xSl (some c_62) fun a_64 n_65 c_66 e_67 => xNil r_63 ((hCell h_53 (.ptr (some (i6, o6 + 1))) = hCell h_53 (.ptr (some (i6, o6 + 1)))) ∧ SCall pg n_spec_l2Put [.ptr a0, .agg [.int .u8 x_61, .slice a_64 n_65 c_66 e_67]] h_53 fun v_68 h_69 =>
 xAgg v_68 fun cs_70 => xCons cs_70 fun c_71 r_72 => xInt .u8 (some c_71) fun x_73 => xCons r_72 fun c_74 r_75 => xSl (some c_74) fun a_76 n_77 c_78 e_79 => xNil r_75 ((hCell h_69 (.ptr (some (i6, o6 + 1))) = hCell h_53 (.ptr (some (i6, o6 + 1)))) ∧ letH (h_69 ++ [.cells t_spec_l1Node [.int .u8 x_73, .slice a_76 n_77 c_78 e_79] false]) fun h_80 => (hCell h_80 (.ptr (some (i6, o6 + 1))) = hCell h_69 (.ptr (some (i6, o6 + 1)))) ∧ appendA pg t_L_spec_l1Node h_80 (.slice a_54 n_55 c_56 e_57) (.slice (some (List.length h_69, 0)) 1 1 true) fun v_81 h_82 => xSl (some v_81) fun a_83 n_84 c_85 e_86 => xHeap (hStore h_82 (.ptr (some (i6, o6 + 1))) [.slice a_83 n_84 c_85 e_86]) fun h_87 => R6 a0 i4 o4 i6 o6 a33 n33 c33 e33 x34 (IntKind.wrap .i64 (x35 + 1)) h_87))))) (A6x0 Q i6 o6 i4 o4 h)
theorem L6den (Q : QT) (R6 : T6) (a0 : Pt) (i4 o4 i6 o6 : Nat) (a33 : Pt) (n33 c33 : Nat) (e33 : Bool) (x34 x35 : Int) (h : AHeap) (ht : L6t Q R6 a0 i4 o4 i6 o6 a33 n33 c33 e33 x34 x35 h) : Den pg fn.ntmps (C [1, 1, 1, 0, 1, 0, 0]) [(0, .ptr a0), (4, .ptr (some (i4, o4))), (6, .ptr (some (i6, o6))), (33, .slice a33 n33 c33 e33), (34, .int .i64 x34), (35, .int .i64 x35)] h (K3 Q R6) :=
  den_Den (kp := kp) (@cast _ (den pg fn.ntmps kp (C [1, 1, 1, 0, 1, 0, 0]) [(0, .ptr a0), (4, .ptr (some (i4, o4))), (6, .ptr (some (i6, o6))), (33, .slice a33 n33 c33 e33), (34, .int .i64 x34), (35, .int .i64 x35)] h (K3 Q R6)) (by kernel_rfl) ht)
theorem L6ind (Q : QT) (a0 : Pt) (i4 o4 i6 o6 : Nat) (a33 : Pt) (n33 c33 : Nat) (e33 : Bool) (x34 : Int) {G : Type} (J : G → Int → AHeap → Prop) (m : G → Nat)
 (hr : ∀ (g : G) (x35 : Int) (h : AHeap), J g x35 h → ∀ (R6 : T6), (∀ g' (x35 : Int) (h : AHeap), m g' < m g → J g' x35 h → R6 a0 i4 o4 i6 o6 a33 n33 c33 e33 x34 x35 h) → L6t Q R6 a0 i4 o4 i6 o6 a33 n33 c33 e33 x34 x35 h)
 (g : G) (x35 : Int) (h : AHeap) (hj : J g x35 h) : L6 Q a0 i4 o4 i6 o6 a33 n33 c33 e33 x34 x35 h := by
  refine Loop.inv2 (fun g => E6 fun a0' i4' o4' i6' o6' a33' n33' c33' e33' x34' x35 h => a0 = a0' ∧ i4 = i4' ∧ o4 = o4' ∧ i6 = i6' ∧ o6 = o6' ∧ a33 = a33' ∧ n33 = n33' ∧ c33 = c33' ∧ e33 = e33' ∧ x34 = x34' ∧ J g x35 h) (fun g => E6 fun a0' i4' o4' i6' o6' a33' n33' c33' e33' x34' x35 h => a0 = a0' ∧ i4 = i4' ∧ o4 = o4' ∧ i6 = i6' ∧ o6 = o6' ∧ a33 = a33' ∧ n33 = n33' ∧ c33 = c33' ∧ e33 = e33' ∧ x34 = x34' ∧ ∃ g', m g' < m g ∧ J g' x35 h) m ?_ ?_ g ⟨rfl, rfl, rfl, rfl, rfl, rfl, rfl, rfl, rfl, rfl, hj⟩
  · intro g env h hi
    obtain ⟨a0', i4', o4', i6', o6', a33', n33', c33', e33', x34', x35, rfl, rfl, rfl, rfl, rfl, rfl, rfl, rfl, rfl, rfl, rfl, hj⟩ := E6elim hi
    exact L6den Q (fun a0' i4' o4' i6' o6' a33' n33' c33' e33' x34' x35 h => a0 = a0' ∧ i4 = i4' ∧ o4 = o4' ∧ i6 = i6' ∧ o6 = o6' ∧ a33 = a33' ∧ n33 = n33' ∧ c33 = c33' ∧ e33 = e33' ∧ x34 = x34' ∧ ∃ g', m g' < m g ∧ J g' x35 h) a0 i4 o4 i6 o6 a33 n33 c33 e33 x34 x35 h (hr g x35 h hj (fun a0' i4' o4' i6' o6' a33' n33' c33' e33' x34' x35 h => a0 = a0' ∧ i4 = i4' ∧ o4 = o4' ∧ i6 = i6' ∧ o6 = o6' ∧ a33 = a33' ∧ n33 = n33' ∧ c33 = c33' ∧ e33 = e33' ∧ x34 = x34' ∧ ∃ g', m g' < m g ∧ J g' x35 h) fun g' x35 h hlt hj => ⟨rfl, rfl, rfl, rfl, rfl, rfl, rfl, rfl, rfl, rfl, g', hlt, hj⟩)
  · intro g env h hi
    obtain ⟨a0', i4', o4', i6', o6', a33', n33', c33', e33', x34', x35, rfl, rfl, rfl, rfl, rfl, rfl, rfl, rfl, rfl, rfl, rfl, g', hlt, hj⟩ := E6elim hi
    exact ⟨g', hlt, rfl, rfl, rfl, rfl, rfl, rfl, rfl, rfl, rfl, rfl, hj⟩
theorem A6x0i (Q : QT) (i6 o6 i4 o4 : Nat) (h : AHeap) (ht :
 xRow (hRow h (.ptr (some (i6, o6))) 2) fun cs_88 => xCons cs_88 fun c_89 r_90 => xInt .u8 (some c_89) fun x_91 => xCons r_90 fun c_92 r_93 => xSl (some c_92) fun a_94 n_95 c_96 e_97 => xNil r_93 (xHeap (hStore h (.ptr (some (i4, o4))) [.int .u8 x_91, .slice a_94 n_95 c_96 e_97]) fun h_98 => xRow (hRow h_98 (.ptr (some (i4, o4))) 2) fun cs_99 => xCons cs_99 fun c_100 r_101 => xInt .u8 (some c_100) fun x_102 => xCons r_101 fun c_103 r_104 => xSl (some c_103) fun a_105 n_106 c_107 e_108 => xNil r_104 (Q (.agg [.int .u8 x_102, .slice a_105 n_106 c_107 e_108]) h_98))) : A6x0 Q i6 o6 i4 o4 h :=
  At.mk (@cast _ ((K1 Q) (.exit 0) [(6, .ptr (some (i6, o6))), (4, .ptr (some (i4, o4)))] h) (by kernel_rfl) ht)
theorem call (a0 : Pt) (x1x0 : Int) (a1x1 : Pt) (n1x1 c1x1 : Nat) (e1x1 : Bool) (h : AHeap) (Q : QT) (ht :
 letH (h ++ [.cells t_spec_l1Node [.int .u8 x1x0, .slice a1x1 n1x1 c1x1 e1x1] false]) fun h_0 => letH (h_0 ++ [.cells t_spec_l1Node [.int .u8 0, .slice none 0 0 true] false]) fun h_1 => xInt .u8 (hCell h_1 (.ptr (some (List.length h, 0 + 0)))) fun x_2 => SCall pg n_spec_l2Index [.int .u8 x_2] h_1 fun v_3 h_4 =>
 xInt .i64 (some v_3) fun x_5 => bcase (decide ((x_5 : Int) ≥ 0)) (xSome a0 fun i_6 o_7 => (0 ≤ (x_5 : Int) ∧ (x_5 : Int) < (12 : Nat)) ∧ (xInt .u8 (hCell h_4 (.ptr (some (i_6, o_7 + (Int.toNat x_5) * 2 + 0)))) fun x_8 => bcase (!((x_8 : Int) == 0)) (xSome a0 fun i_9 o_10 => (0 ≤ (x_5 : Int) ∧ (x_5 : Int) < (12 : Nat)) ∧ (xRow (hRow h_4 (.ptr (some (i_9, o_10 + (Int.toNat x_5) * 2))) 2) fun cs_11 => xCons cs_11 fun c_12 r_13 => xInt .u8 (some c_12) fun x_14 => xCons r_13 fun c_15 r_16 => xSl (some c_15) fun a_17 n_18 c_19 e_20 => xNil r_16 (xHeap (hStore h_4 (.ptr (some (List.length h_0, 0))) [.int .u8 x_14, .slice a_17 n_18 c_19 e_20]) fun h_21 => xRow (hRow h_21 (.ptr (some (List.length h_0, 0))) 2) fun cs_22 => xCons cs_22 fun c_23 r_24 => xInt .u8 (some c_23) fun x_25 => xCons r_24 fun c_26 r_27 => xSl (some c_26) fun a_28 n_29 c_30 e_31 => xNil r_27 (Q (.agg [.int .u8 x_25, .slice a_28 n_29 c_30 e_31]) h_21)))) (J4 Q (List.length h) 0 a0 (List.length h_0) 0 h_4))) (J4 Q (List.length h) 0 a0 (List.length h_0) 0 h_4)) : SCall pg n_spec_l2Put [.ptr a0, .agg [.int .u8 x1x0, .slice a1x1 n1x1 c1x1 e1x1]] h Q :=
  SCall.of_body kp (c := cod fn) (fn := fn) Go.Proofs.Tryz.func104 (by kernel_rfl) (by kernel_rfl) (Nat.le_of_ble_eq_true (by kernel_rfl))
    (@cast _ (den pg fn.ntmps kp (cod fn) (Env.args 0 [.ptr a0, .agg [.int .u8 x1x0, .slice a1x1 n1x1 c1x1 e1x1]]) h (KR Q)) (by kernel_rfl) ht)
end F_spec_l2Put
end Go.Sim
