/- A part of the proof of a statement of this seat: see the text that holds the theorem. No condition. -/
import Derived.Test.YtcdpjjhnhiaapaaGreatNm
set_option linter.unusedVariables false
set_option linter.unusedSimpArgs false
set_option linter.all false
/- Printed by wip/tool: what the functions' bodies do, in the words of 'den'. -/
set_option maxRecDepth 100000
set_option linter.unusedVariables false
namespace Go.Sim
open Go Go.RowKit
/-! Function loop.example/instancesearch/laws.FnExactMostSpecial -/
namespace F_laws_FnExactMostSpecial
noncomputable abbrev fn : Func := Go.Proofs.Tryz.f5
def kp : Keeps := [(2000008, [2, 3, 6]), (2000010, [8, 6, 7, 2]), (2000013, [37])]
noncomputable def C (p : List Nat) : Code := (cod fn).sub p
def KR (Q : QT) : KT := retA pg fn.results.toList Q
theorem call (a0x0 : Pt) (n0x0 c0x0 : Nat) (e0x0 : Bool) (a0x1 : Pt) (n0x1 c0x1 : Nat) (e0x1 : Bool) (x1x0 x1x1 : List Nat) (h : AHeap) (Q : QT) (ht :
 letH (h ++ [.cells t_laws_World [.slice a0x0 n0x0 c0x0 e0x0, .slice a0x1 n0x1 c0x1 e0x1] false]) fun h_0 => letH (h_0 ++ [.cells t_laws_Need [.str x1x0, .str x1x1] false]) fun h_1 => xRow (hRow h_1 (.ptr (some (List.length h, 0))) 2) fun cs_2 => xCons cs_2 fun c_3 r_4 => xSl (some c_3) fun a_5 n_6 c_7 e_8 => xCons r_4 fun c_9 r_10 => xSl (some c_9) fun a_11 n_12 c_13 e_14 => xNil r_10 (SCall pg n_laws_szWorld [.agg [.slice a_5 n_6 c_7 e_8, .slice a_11 n_12 c_13 e_14], .int .i64 1048576] h_1 fun v_15 h_16 =>
 xInt .i64 (some v_15) fun x_17 => bcase (decide ((x_17 : Int) < 0)) (Q (.bool true) h_16) (xRow (hRow h_16 (.ptr (some (List.length h_0, 0))) 2) fun cs_18 => xCons cs_18 fun c_19 r_20 => xStr (some c_19) fun s_21 => xCons r_20 fun c_22 r_23 => xStr (some c_22) fun s_24 => xNil r_23 (SCall pg n_laws_szNeed [.agg [.str s_21, .str s_24], .int .i64 x_17] h_16 fun v_25 h_26 =>
 xInt .i64 (some v_25) fun x_27 => bcase (decide ((x_27 : Int) < 0)) (Q (.bool true) h_26) (xRow (hRow h_26 (.ptr (some (List.length h, 0))) 2) fun cs_28 => xCons cs_28 fun c_29 r_30 => xSl (some c_29) fun a_31 n_32 c_33 e_34 => xCons r_30 fun c_35 r_36 => xSl (some c_35) fun a_37 n_38 c_39 e_40 => xNil r_36 (xRow (hRow h_26 (.ptr (some (List.length h_0, 0))) 2) fun cs_41 => xCons cs_41 fun c_42 r_43 => xStr (some c_42) fun s_44 => xCons r_43 fun c_45 r_46 => xStr (some c_45) fun s_47 => xNil r_46 (SCall pg n_laws_toWorld [.agg [.slice a_31 n_32 c_33 e_34, .slice a_37 n_38 c_39 e_40]] h_26 fun v_48 h_49 =>
 xAgg v_48 fun cs_50 => xCons cs_50 fun c_51 r_52 => xSl (some c_51) fun a_53 n_54 c_55 e_56 => xCons r_52 fun c_57 r_58 => xSl (some c_57) fun a_59 n_60 c_61 e_62 => xNil r_58 ((hRow h_49 (.ptr (some (List.length h_0, 0))) 2 = hRow h_26 (.ptr (some (List.length h_0, 0))) 2) ∧ SCall pg n_laws_toNeed [.agg [.str s_44, .str s_47]] h_49 fun v_63 h_64 =>
 xAgg v_63 fun cs_65 => xCons cs_65 fun c_66 r_67 => xStr (some c_66) fun s_68 => xCons r_67 fun c_69 r_70 => xStr (some c_69) fun s_71 => xNil r_70 ((hRow h_64 (.ptr (some (List.length h, 0))) 2 = hRow h_49 (.ptr (some (List.length h, 0))) 2) ∧ SCall pg n_spec_MostSpecial [.agg [.slice a_53 n_54 c_55 e_56, .slice a_59 n_60 c_61 e_62], .agg [.str s_68, .str s_71]] h_64 fun v_72 h_73 =>
 xInt .i64 (some v_72) fun x_74 => (hRow h_73 (.ptr (some (List.length h_0, 0))) 2 = hRow h_64 (.ptr (some (List.length h_0, 0))) 2) ∧ (hRow h_73 (.ptr (some (List.length h, 0))) 2 = hRow h_64 (.ptr (some (List.length h, 0))) 2) ∧ xRow (hRow h_73 (.ptr (some (List.length h, 0))) 2) fun cs_75 => xCons cs_75 fun c_76 r_77 => xSl (some c_76) fun a_78 n_79 c_80 e_81 => xCons r_77 fun c_82 r_83 => xSl (some c_82) fun a_84 n_85 c_86 e_87 => xNil r_83 (SCall pg n_laws_toWorld [.agg [.slice a_78 n_79 c_80 e_81, .slice a_84 n_85 c_86 e_87]] h_73 fun v_88 h_89 =>
 xAgg v_88 fun cs_90 => xCons cs_90 fun c_91 r_92 => xSl (some c_91) fun a_93 n_94 c_95 e_96 => xCons r_92 fun c_97 r_98 => xSl (some c_97) fun a_99 n_100 c_101 e_102 => xNil r_98 (letH (h_89 ++ [.cells t_impl_World [.slice none 0 0 true, .slice none 0 0 true] false]) fun h_103 => xHeap (hStore h_103 (.ptr (some (List.length h_89, 0))) [.slice a_93 n_94 c_95 e_96, .slice a_99 n_100 c_101 e_102]) fun h_104 => xRow (hRow h_104 (.ptr (some (List.length h_89, 0))) 2) fun cs_105 => xCons cs_105 fun c_106 r_107 => xSl (some c_106) fun a_108 n_109 c_110 e_111 => xCons r_107 fun c_112 r_113 => xSl (some c_112) fun a_114 n_115 c_116 e_117 => xNil r_113 (xRow (hRow h_104 (.ptr (some (List.length h_0, 0))) 2) fun cs_118 => xCons cs_118 fun c_119 r_120 => xStr (some c_119) fun s_121 => xCons r_120 fun c_122 r_123 => xStr (some c_122) fun s_124 => xNil r_123 ((hRow h_104 (.ptr (some (List.length h_89, 0))) 2 = hRow h_104 (.ptr (some (List.length h_89, 0))) 2) ∧ SCall pg n_laws_toNeed [.agg [.str s_121, .str s_124]] h_104 fun v_125 h_126 =>
 xAgg v_125 fun cs_127 => xCons cs_127 fun c_128 r_129 => xStr (some c_128) fun s_130 => xCons r_129 fun c_131 r_132 => xStr (some c_131) fun s_133 => xNil r_132 ((hRow h_126 (.ptr (some (List.length h_89, 0))) 2 = hRow h_104 (.ptr (some (List.length h_89, 0))) 2) ∧ SCall pg n_impl_MostSpecial [.agg [.slice a_108 n_109 c_110 e_111, .slice a_114 n_115 c_116 e_117], .agg [.str s_130, .str s_133]] h_126 fun v_134 h_135 =>
 xInt .i64 (some v_134) fun x_136 => bcase (!((x_136 : Int) == x_74)) (Q (.bool false) h_135) (xRow (hRow h_135 (.ptr (some (List.length h_89, 0))) 2) fun cs_137 => xCons cs_137 fun c_138 r_139 => xSl (some c_138) fun a_140 n_141 c_142 e_143 => xCons r_139 fun c_144 r_145 => xSl (some c_144) fun a_146 n_147 c_148 e_149 => xNil r_145 (xRow (hRow h_135 (.ptr (some (List.length h, 0))) 2) fun cs_150 => xCons cs_150 fun c_151 r_152 => xSl (some c_151) fun a_153 n_154 c_155 e_156 => xCons r_152 fun c_157 r_158 => xSl (some c_157) fun a_159 n_160 c_161 e_162 => xNil r_158 ((hRow h_135 (.ptr (some (List.length h_89, 0))) 2 = hRow h_135 (.ptr (some (List.length h_89, 0))) 2) ∧ SCall pg n_laws_toWorld [.agg [.slice a_153 n_154 c_155 e_156, .slice a_159 n_160 c_161 e_162]] h_135 fun v_163 h_164 =>
 xAgg v_163 fun cs_165 => xCons cs_165 fun c_166 r_167 => xSl (some c_166) fun a_168 n_169 c_170 e_171 => xCons r_167 fun c_172 r_173 => xSl (some c_172) fun a_174 n_175 c_176 e_177 => xNil r_173 ((hRow h_164 (.ptr (some (List.length h_89, 0))) 2 = hRow h_135 (.ptr (some (List.length h_89, 0))) 2) ∧ SCall pg n_laws_eqWorld [.agg [.slice a_140 n_141 c_142 e_143, .slice a_146 n_147 c_148 e_149], .agg [.slice a_168 n_169 c_170 e_171, .slice a_174 n_175 c_176 e_177]] h_164 fun v_178 h_179 =>
 xBool (some v_178) fun b_180 => bcase (!b_180) (Q (.bool false) h_179) (Q (.bool true) h_179))))))))))))))))))) : SCall pg n_laws_FnExactMostSpecial [.agg [.slice a0x0 n0x0 c0x0 e0x0, .slice a0x1 n0x1 c0x1 e0x1], .agg [.str x1x0, .str x1x1]] h Q :=
  SCall.of_body kp (c := cod fn) (fn := fn) Go.Proofs.Tryz.func5 (by kernel_rfl) (by kernel_rfl) (Nat.le_of_ble_eq_true (by kernel_rfl))
    (@cast _ (den pg fn.ntmps kp (cod fn) (Env.args 0 [.agg [.slice a0x0 n0x0 c0x0 e0x0, .slice a0x1 n0x1 c0x1 e0x1], .agg [.str x1x0, .str x1x1]]) h (KR Q)) (by kernel_rfl) ht)
end F_laws_FnExactMostSpecial
end Go.Sim

/- Printed by wip/tool: what the functions' bodies do, in the words of 'den'. -/
set_option maxRecDepth 100000
set_option linter.unusedVariables false
namespace Go.Sim
open Go Go.RowKit
/-! Function loop.example/instancesearch/impl.mostSpecial$1 -/
namespace F_impl_mostSpecial_lit1
noncomputable abbrev fn : Func := Go.Proofs.Tryz.f91
def kp : Keeps := [(2000001, [4])]
noncomputable def C (p : List Nat) : Code := (cod fn).sub p
def KR (Q : QT) : KT := retA pg fn.results.toList Q
theorem call (x0 : Int) (v1 v2 : AVal) (h : AHeap) (Q : QT) (ht :
 fieldAddrA pg t_impl_World v1 1 fun v_0 => fieldAddrA pg t_impl_World v1 1 fun v_1 => xSl (hCell h (v_0)) fun a_2 n_3 c_4 e_5 => xInt .i64 (hCell h (v2)) fun x_6 => (0 ≤ (x_6 : Int) ∧ (x_6 : Int) < (n_3 : Nat)) ∧ (xSome a_2 fun i_7 o_8 => xRow (hRow h (.ptr (some (i_7, o_8 + (Int.toNat x_6) * 3))) 3) fun cs_9 => xCons cs_9 fun c_10 r_11 => xStr (some c_10) fun s_12 => xCons r_11 fun c_13 r_14 => xStr (some c_13) fun s_15 => xCons r_14 fun c_16 r_17 => xSl (some c_16) fun a_18 n_19 c_20 e_21 => xNil r_17 (xSl (hCell h (v_1)) fun a_22 n_23 c_24 e_25 => (hRow h (.ptr (some (i_7, o_8 + (Int.toNat x_6) * 3))) 3 = hRow h (.ptr (some (i_7, o_8 + (Int.toNat x_6) * 3))) 3) ∧ (hCell h (v2) = hCell h (v2)) ∧ (hCell h (v_0) = hCell h (v_0)) ∧ (0 ≤ (x0 : Int) ∧ (x0 : Int) < (n_23 : Nat)) ∧ (xSome a_22 fun i_26 o_27 => xRow (hRow h (.ptr (some (i_26, o_27 + (Int.toNat x0) * 3))) 3) fun cs_28 => xCons cs_28 fun c_29 r_30 => xStr (some c_29) fun s_31 => xCons r_30 fun c_32 r_33 => xStr (some c_32) fun s_34 => xCons r_33 fun c_35 r_36 => xSl (some c_35) fun a_37 n_38 c_39 e_40 => xNil r_36 ((hRow h (.ptr (some (i_7, o_8 + (Int.toNat x_6) * 3))) 3 = hRow h (.ptr (some (i_7, o_8 + (Int.toNat x_6) * 3))) 3) ∧ (hCell h (v2) = hCell h (v2)) ∧ (hCell h (v_0) = hCell h (v_0)) ∧ SCall pg n_impl_special [.agg [.str s_12, .str s_15, .slice a_18 n_19 c_20 e_21], .agg [.str s_31, .str s_34, .slice a_37 n_38 c_39 e_40]] h fun v_41 h_42 =>
 xBool (some v_41) fun b_43 => (hCell h_42 (v2) = hCell h (v2)) ∧ (hCell h_42 (v_0) = hCell h (v_0)) ∧ Q (.bool (!b_43)) h_42))))) : SCall pg n_impl_mostSpecial_lit1 [.int .i64 x0, v1, v2] h Q :=
  SCall.of_body kp (c := cod fn) (fn := fn) Go.Proofs.Tryz.func91 (by kernel_rfl) (by kernel_rfl) (Nat.le_of_ble_eq_true (by kernel_rfl))
    (@cast _ (den pg fn.ntmps kp (cod fn) (Env.args 0 [.int .i64 x0, v1, v2]) h (KR Q)) (by kernel_rfl) ht)
end F_impl_mostSpecial_lit1
/-! Function slices.IndexFunc[[]int,int] -/
namespace F_slices_IndexFunc_L_int_int__impl_mostSpecial_lit1
noncomputable abbrev fn : Func := Go.Proofs.Tryz.f127
def kp : Keeps := [(3000002, [4]), (1000002, [0, 1, 7, 8])]
noncomputable def C (p : List Nat) : Code := (cod fn).sub p
def KR (Q : QT) : KT := retA pg fn.results.toList Q
abbrev T2 := Pt → Nat → Nat → Bool → AVal → AVal → Int → Int → AHeap → Prop
def E2 (R2 : T2) (env : Env) (h : AHeap) : Prop := eVal 0 env fun v env => xSl (some v) fun a0 n0 c0 e0 => eVal 1 env fun v env => eFn n_impl_mostSpecial_lit1 v fun cs => xCons cs fun c cs' => xAny (some c) fun v1x0 => xCons cs' fun c cs'' => xAny (some c) fun v1x1 => xNil cs'' (eVal 7 env fun v env => eInt .i64 v fun x7 => eVal 8 env fun v env => eInt .i64 v fun x8 => eNil env (R2 a0 n0 c0 e0 v1x0 v1x1 x7 x8 h))
theorem E2elim {R2 : T2} {env : Env} {h : AHeap} (hi : E2 R2 env h) : ∃ a0, ∃ n0, ∃ c0, ∃ e0, ∃ v1x0, ∃ v1x1, ∃ x7, ∃ x8, env = [(0, .slice a0 n0 c0 e0), (1, .fn n_impl_mostSpecial_lit1 [v1x0, v1x1]), (7, .int .i64 x7), (8, .int .i64 x8)] ∧ R2 a0 n0 c0 e0 v1x0 v1x1 x7 x8 h := by
  unfold E2 at hi
  have hi0 := hi
  clear hi
  obtain ⟨v, env, rfl, hi1⟩ := eVal_elim hi0
  obtain ⟨a0, n0, c0, e0, rfl, hi2⟩ := xSl_elim hi1
  obtain ⟨v, env, rfl, hi3⟩ := eVal_elim hi2
  obtain ⟨cs, rfl, hi4⟩ := eFn_elim hi3
  obtain ⟨c, cs', rfl, hi5⟩ := xCons_elim hi4
  obtain ⟨v1x0, hx, hi6⟩ := xAny_elim hi5
  replace hx := (Option.some.inj hx).symm
  subst hx
  obtain ⟨c, cs'', rfl, hi7⟩ := xCons_elim hi6
  obtain ⟨v1x1, hx, hi8⟩ := xAny_elim hi7
  replace hx := (Option.some.inj hx).symm
  subst hx
  obtain ⟨rfl, hi9⟩ := xNil_elim hi8
  obtain ⟨v, env, rfl, hi10⟩ := eVal_elim hi9
  obtain ⟨x7, rfl, hi11⟩ := eInt_elim hi10
  obtain ⟨v, env, rfl, hi12⟩ := eVal_elim hi11
  obtain ⟨x8, rfl, hi13⟩ := eInt_elim hi12
  obtain ⟨rfl, hi14⟩ := eNil_elim hi13
  have hi := hi14
  exact ⟨a0, n0, c0, e0, v1x0, v1x1, x7, x8, rfl, hi⟩
def K0 (Q : QT) : KT := andThen (fun env' h' => (match kp.find 4000007 with | some ks => Den pg fn.ntmps (C [1, 1]) (env'.keep ks) h' (KR Q) | none => den pg fn.ntmps kp (C [1, 1]) env' h' (KR Q))) (KR Q)
def K1 (Q : QT) : KT := onExit 0 (K0 Q)
def K2 (Q : QT) : KT := left kp 2 (K1 Q)
def K3 (Q : QT) (R2 : T2) : KT := rnd ((kp.find 1000002).getD []) (E2 R2) (K2 Q)
def L2 (Q : QT) (a0 : Pt) (n0 c0 : Nat) (e0 : Bool) (v1x0 v1x1 : AVal) (x7 x8 : Int) (h : AHeap) : Prop := Loop (Den pg fn.ntmps (C [1, 0, 1, 0, 0])) ((kp.find 1000002).getD []) (K2 Q) [(0, .slice a0 n0 c0 e0), (1, .fn n_impl_mostSpecial_lit1 [v1x0, v1x1]), (7, .int .i64 x7), (8, .int .i64 x8)] h
def A2x0 (Q : QT) (h : AHeap) : Prop := At (K1 Q) (.exit 0) [(4, .undef)] h
def L2t (Q : QT) (R2 : T2) (a0 : Pt) (n0 c0 : Nat) (e0 : Bool) (v1x0 v1x1 : AVal) (x7 x8 : Int) (h : AHeap) : Prop :=
 bcase (decide ((x8 : Int) < x7)) ((0 ≤ (x8 : Int) ∧ (x8 : Int) < (n0 : Nat)) ∧ (xSome a0 fun i_0 o_1 => xInt .i64 (hCell h (.ptr (some (i_0, o_1 + (Int.toNat x8) * 1)))) fun x_2 => SCall pg n_impl_mostSpecial_lit1 [.int .i64 x_2, v1x0, v1x1] h fun v_3 h_4 =>
 xBool (some v_3) fun b_5 => bcase b_5 (Q (.int .i64 x8) h_4) (R2 a0 n0 c0 e0 v1x0 v1x1 x7 (IntKind.wrap .i64 (x8 + 1)) h_4))) (A2x0 Q h)
theorem L2den (Q : QT) (R2 : T2) (a0 : Pt) (n0 c0 : Nat) (e0 : Bool) (v1x0 v1x1 : AVal) (x7 x8 : Int) (h : AHeap) (ht : L2t Q R2 a0 n0 c0 e0 v1x0 v1x1 x7 x8 h) : Den pg fn.ntmps (C [1, 0, 1, 0, 0]) [(0, .slice a0 n0 c0 e0), (1, .fn n_impl_mostSpecial_lit1 [v1x0, v1x1]), (7, .int .i64 x7), (8, .int .i64 x8)] h (K3 Q R2) :=
  den_Den (kp := kp) (@cast _ (den pg fn.ntmps kp (C [1, 0, 1, 0, 0]) [(0, .slice a0 n0 c0 e0), (1, .fn n_impl_mostSpecial_lit1 [v1x0, v1x1]), (7, .int .i64 x7), (8, .int .i64 x8)] h (K3 Q R2)) (by kernel_rfl) ht)
theorem L2ind (Q : QT) (a0 : Pt) (n0 c0 : Nat) (e0 : Bool) (v1x0 v1x1 : AVal) (x7 : Int) {G : Type} (J : G → Int → AHeap → Prop) (m : G → Nat)
 (hr : ∀ (g : G) (x8 : Int) (h : AHeap), J g x8 h → ∀ (R2 : T2), (∀ g' (x8 : Int) (h : AHeap), m g' < m g → J g' x8 h → R2 a0 n0 c0 e0 v1x0 v1x1 x7 x8 h) → L2t Q R2 a0 n0 c0 e0 v1x0 v1x1 x7 x8 h)
 (g : G) (x8 : Int) (h : AHeap) (hj : J g x8 h) : L2 Q a0 n0 c0 e0 v1x0 v1x1 x7 x8 h := by
  refine Loop.inv2 (fun g => E2 fun a0' n0' c0' e0' v1x0' v1x1' x7' x8 h => a0 = a0' ∧ n0 = n0' ∧ c0 = c0' ∧ e0 = e0' ∧ v1x0 = v1x0' ∧ v1x1 = v1x1' ∧ x7 = x7' ∧ J g x8 h) (fun g => E2 fun a0' n0' c0' e0' v1x0' v1x1' x7' x8 h => a0 = a0' ∧ n0 = n0' ∧ c0 = c0' ∧ e0 = e0' ∧ v1x0 = v1x0' ∧ v1x1 = v1x1' ∧ x7 = x7' ∧ ∃ g', m g' < m g ∧ J g' x8 h) m ?_ ?_ g ⟨rfl, rfl, rfl, rfl, rfl, rfl, rfl, hj⟩
  · intro g env h hi
    obtain ⟨a0', n0', c0', e0', v1x0', v1x1', x7', x8, rfl, rfl, rfl, rfl, rfl, rfl, rfl, rfl, hj⟩ := E2elim hi
    exact L2den Q (fun a0' n0' c0' e0' v1x0' v1x1' x7' x8 h => a0 = a0' ∧ n0 = n0' ∧ c0 = c0' ∧ e0 = e0' ∧ v1x0 = v1x0' ∧ v1x1 = v1x1' ∧ x7 = x7' ∧ ∃ g', m g' < m g ∧ J g' x8 h) a0 n0 c0 e0 v1x0 v1x1 x7 x8 h (hr g x8 h hj (fun a0' n0' c0' e0' v1x0' v1x1' x7' x8 h => a0 = a0' ∧ n0 = n0' ∧ c0 = c0' ∧ e0 = e0' ∧ v1x0 = v1x0' ∧ v1x1 = v1x1' ∧ x7 = x7' ∧ ∃ g', m g' < m g ∧ J g' x8 h) fun g' x8 h hlt hj => ⟨rfl, rfl, rfl, rfl, rfl, rfl, rfl, g', hlt, hj⟩)
  · intro g env h hi
    obtain ⟨a0', n0', c0', e0', v1x0', v1x1', x7', x8, rfl, rfl, rfl, rfl, rfl, rfl, rfl, rfl, g', hlt, hj⟩ := E2elim hi
    exact ⟨g', hlt, rfl, rfl, rfl, rfl, rfl, rfl, rfl, hj⟩
theorem A2x0i (Q : QT) (h : AHeap) (ht :
 Q (.int .i64 (-1)) h) : A2x0 Q h :=
  At.mk (@cast _ ((K1 Q) (.exit 0) [(4, .undef)] h) (by kernel_rfl) ht)
theorem call (a0 : Pt) (n0 c0 : Nat) (e0 : Bool) (v1x0 v1x1 : AVal) (h : AHeap) (Q : QT) (ht :
 L2 Q a0 n0 c0 e0 v1x0 v1x1 (((n0 : Nat) : Int)) 0 h) : SCall pg n_slices_IndexFunc_L_int_int [.slice a0 n0 c0 e0, .fn n_impl_mostSpecial_lit1 [v1x0, v1x1]] h Q :=
  SCall.of_body kp (c := cod fn) (fn := fn) Go.Proofs.Tryz.func127 (by kernel_rfl) (by kernel_rfl) (Nat.le_of_ble_eq_true (by kernel_rfl))
    (@cast _ (den pg fn.ntmps kp (cod fn) (Env.args 0 [.slice a0 n0 c0 e0, .fn n_impl_mostSpecial_lit1 [v1x0, v1x1]]) h (KR Q)) (by kernel_rfl) ht)
end F_slices_IndexFunc_L_int_int__impl_mostSpecial_lit1
/-! Function loop.example/instancesearch/impl.mostSpecial -/
namespace F_impl_mostSpecial
noncomputable abbrev fn : Func := Go.Proofs.Tryz.f52
def kp : Keeps := [(3000002, [4]), (1000002, [1, 2, 7, 8, 9])]
noncomputable def C (p : List Nat) : Code := (cod fn).sub p
def KR (Q : QT) : KT := retA pg fn.results.toList Q
abbrev T2 := Pt → Nat → Nat → Bool → Nat → Nat → Pt → Nat → Nat → Bool → Int → Int → AHeap → Prop
def E2 (R2 : T2) (env : Env) (h : AHeap) : Prop := eVal 1 env fun v env => xSl (some v) fun a1 n1 c1 e1 => eVal 2 env fun v env => xPtr (some v) fun a => xSome a fun i2 o2 => eVal 7 env fun v env => xSl (some v) fun a7 n7 c7 e7 => eVal 8 env fun v env => eInt .i64 v fun x8 => eVal 9 env fun v env => eInt .i64 v fun x9 => eNil env (R2 a1 n1 c1 e1 i2 o2 a7 n7 c7 e7 x8 x9 h)
theorem E2elim {R2 : T2} {env : Env} {h : AHeap} (hi : E2 R2 env h) : ∃ a1, ∃ n1, ∃ c1, ∃ e1, ∃ i2, ∃ o2, ∃ a7, ∃ n7, ∃ c7, ∃ e7, ∃ x8, ∃ x9, env = [(1, .slice a1 n1 c1 e1), (2, .ptr (some (i2, o2))), (7, .slice a7 n7 c7 e7), (8, .int .i64 x8), (9, .int .i64 x9)] ∧ R2 a1 n1 c1 e1 i2 o2 a7 n7 c7 e7 x8 x9 h := by
  unfold E2 at hi
  have hi0 := hi
  clear hi
  obtain ⟨v, env, rfl, hi1⟩ := eVal_elim hi0
  obtain ⟨a1, n1, c1, e1, rfl, hi2⟩ := xSl_elim hi1
  obtain ⟨v, env, rfl, hi3⟩ := eVal_elim hi2
  obtain ⟨a, rfl, hi4⟩ := xPtr_elim hi3
  obtain ⟨i2, o2, rfl, hi5⟩ := xSome_elim hi4
  obtain ⟨v, env, rfl, hi6⟩ := eVal_elim hi5
  obtain ⟨a7, n7, c7, e7, rfl, hi7⟩ := xSl_elim hi6
  obtain ⟨v, env, rfl, hi8⟩ := eVal_elim hi7
  obtain ⟨x8, rfl, hi9⟩ := eInt_elim hi8
  obtain ⟨v, env, rfl, hi10⟩ := eVal_elim hi9
  obtain ⟨x9, rfl, hi11⟩ := eInt_elim hi10
  obtain ⟨rfl, hi12⟩ := eNil_elim hi11
  have hi := hi12
  exact ⟨a1, n1, c1, e1, i2, o2, a7, n7, c7, e7, x8, x9, rfl, hi⟩
def K0 (Q : QT) : KT := andThen (fun env' h' => (match kp.find 4000007 with | some ks => Den pg fn.ntmps (C [1, 1]) (env'.keep ks) h' (KR Q) | none => den pg fn.ntmps kp (C [1, 1]) env' h' (KR Q))) (KR Q)
def K1 (Q : QT) : KT := onExit 0 (K0 Q)
def K2 (Q : QT) : KT := left kp 2 (K1 Q)
def K3 (Q : QT) (R2 : T2) : KT := rnd ((kp.find 1000002).getD []) (E2 R2) (K2 Q)
def L2 (Q : QT) (a1 : Pt) (n1 c1 : Nat) (e1 : Bool) (i2 o2 : Nat) (a7 : Pt) (n7 c7 : Nat) (e7 : Bool) (x8 x9 : Int) (h : AHeap) : Prop := Loop (Den pg fn.ntmps (C [1, 0, 1, 0, 0])) ((kp.find 1000002).getD []) (K2 Q) [(1, .slice a1 n1 c1 e1), (2, .ptr (some (i2, o2))), (7, .slice a7 n7 c7 e7), (8, .int .i64 x8), (9, .int .i64 x9)] h
def A2x0 (Q : QT) (h : AHeap) : Prop := At (K1 Q) (.exit 0) [(4, .undef)] h
def L2t (Q : QT) (R2 : T2) (a1 : Pt) (n1 c1 : Nat) (e1 : Bool) (i2 o2 : Nat) (a7 : Pt) (n7 c7 : Nat) (e7 : Bool) (x8 x9 : Int) (h : AHeap) : Prop :=
 bcase (decide ((x9 : Int) < x8)) ((0 ≤ (x9 : Int) ∧ (x9 : Int) < (n7 : Nat)) ∧ (xSome a7 fun i_1 o_2 => xInt .i64 (hCell h (.ptr (some (i_1, o_2 + (Int.toNat x9) * 1)))) fun x_3 => letH (h ++ [.cells t_int [.int .i64 0] false]) fun h_4 => xHeap (hStore h_4 (.ptr (some (List.length h, 0))) [.int .i64 x_3]) fun h_5 => SCall pg n_slices_ContainsFunc_L_int_int [.slice a1 n1 c1 e1, .fn n_impl_mostSpecial_lit1 [.ptr (some (i2, o2)), .ptr (some (List.length h, 0))]] h_5 fun v_6 h_7 =>
 xBool (some v_6) fun b_8 => bcase (!b_8) (xInt .i64 (hCell h_7 (.ptr (some (List.length h, 0)))) fun x_9 => Q (.int .i64 x_9) h_7) (R2 a1 n1 c1 e1 i2 o2 a7 n7 c7 e7 x8 (IntKind.wrap .i64 (x9 + 1)) h_7))) (A2x0 Q h)
theorem L2den (Q : QT) (R2 : T2) (a1 : Pt) (n1 c1 : Nat) (e1 : Bool) (i2 o2 : Nat) (a7 : Pt) (n7 c7 : Nat) (e7 : Bool) (x8 x9 : Int) (h : AHeap) (ht : L2t Q R2 a1 n1 c1 e1 i2 o2 a7 n7 c7 e7 x8 x9 h) : Den pg fn.ntmps (C [1, 0, 1, 0, 0]) [(1, .slice a1 n1 c1 e1), (2, .ptr (some (i2, o2))), (7, .slice a7 n7 c7 e7), (8, .int .i64 x8), (9, .int .i64 x9)] h (K3 Q R2) :=
  den_Den (kp := kp) (@cast _ (den pg fn.ntmps kp (C [1, 0, 1, 0, 0]) [(1, .slice a1 n1 c1 e1), (2, .ptr (some (i2, o2))), (7, .slice a7 n7 c7 e7), (8, .int .i64 x8), (9, .int .i64 x9)] h (K3 Q R2)) (by kernel_rfl) ht)
theorem L2ind (Q : QT) (a1 : Pt) (n1 c1 : Nat) (e1 : Bool) (i2 o2 : Nat) (a7 : Pt) (n7 c7 : Nat) (e7 : Bool) (x8 : Int) {G : Type} (J : G → Int → AHeap → Prop) (m : G → Nat)
 (hr : ∀ (g : G) (x9 : Int) (h : AHeap), J g x9 h → ∀ (R2 : T2), (∀ g' (x9 : Int) (h : AHeap), m g' < m g → J g' x9 h → R2 a1 n1 c1 e1 i2 o2 a7 n7 c7 e7 x8 x9 h) → L2t Q R2 a1 n1 c1 e1 i2 o2 a7 n7 c7 e7 x8 x9 h)
 (g : G) (x9 : Int) (h : AHeap) (hj : J g x9 h) : L2 Q a1 n1 c1 e1 i2 o2 a7 n7 c7 e7 x8 x9 h := by
  refine Loop.inv2 (fun g => E2 fun a1' n1' c1' e1' i2' o2' a7' n7' c7' e7' x8' x9 h => a1 = a1' ∧ n1 = n1' ∧ c1 = c1' ∧ e1 = e1' ∧ i2 = i2' ∧ o2 = o2' ∧ a7 = a7' ∧ n7 = n7' ∧ c7 = c7' ∧ e7 = e7' ∧ x8 = x8' ∧ J g x9 h) (fun g => E2 fun a1' n1' c1' e1' i2' o2' a7' n7' c7' e7' x8' x9 h => a1 = a1' ∧ n1 = n1' ∧ c1 = c1' ∧ e1 = e1' ∧ i2 = i2' ∧ o2 = o2' ∧ a7 = a7' ∧ n7 = n7' ∧ c7 = c7' ∧ e7 = e7' ∧ x8 = x8' ∧ ∃ g', m g' < m g ∧ J g' x9 h) m ?_ ?_ g ⟨rfl, rfl, rfl, rfl, rfl, rfl, rfl, rfl, rfl, rfl, rfl, hj⟩
  · intro g env h hi
    obtain ⟨a1', n1', c1', e1', i2', o2', a7', n7', c7', e7', x8', x9, rfl, rfl, rfl, rfl, rfl, rfl, rfl, rfl, rfl, rfl, rfl, rfl, hj⟩ := E2elim hi
    exact L2den Q (fun a1' n1' c1' e1' i2' o2' a7' n7' c7' e7' x8' x9 h => a1 = a1' ∧ n1 = n1' ∧ c1 = c1' ∧ e1 = e1' ∧ i2 = i2' ∧ o2 = o2' ∧ a7 = a7' ∧ n7 = n7' ∧ c7 = c7' ∧ e7 = e7' ∧ x8 = x8' ∧ ∃ g', m g' < m g ∧ J g' x9 h) a1 n1 c1 e1 i2 o2 a7 n7 c7 e7 x8 x9 h (hr g x9 h hj (fun a1' n1' c1' e1' i2' o2' a7' n7' c7' e7' x8' x9 h => a1 = a1' ∧ n1 = n1' ∧ c1 = c1' ∧ e1 = e1' ∧ i2 = i2' ∧ o2 = o2' ∧ a7 = a7' ∧ n7 = n7' ∧ c7 = c7' ∧ e7 = e7' ∧ x8 = x8' ∧ ∃ g', m g' < m g ∧ J g' x9 h) fun g' x9 h hlt hj => ⟨rfl, rfl, rfl, rfl, rfl, rfl, rfl, rfl, rfl, rfl, rfl, g', hlt, hj⟩)
  · intro g env h hi
    obtain ⟨a1', n1', c1', e1', i2', o2', a7', n7', c7', e7', x8', x9, rfl, rfl, rfl, rfl, rfl, rfl, rfl, rfl, rfl, rfl, rfl, rfl, g', hlt, hj⟩ := E2elim hi
    exact ⟨g', hlt, rfl, rfl, rfl, rfl, rfl, rfl, rfl, rfl, rfl, rfl, rfl, hj⟩
theorem A2x0i (Q : QT) (h : AHeap) (ht :
 Q (.int .i64 (-1)) h) : A2x0 Q h :=
  At.mk (@cast _ ((K1 Q) (.exit 0) [(4, .undef)] h) (by kernel_rfl) ht)
theorem call (a0x0 : Pt) (n0x0 c0x0 : Nat) (e0x0 : Bool) (a0x1 : Pt) (n0x1 c0x1 : Nat) (e0x1 : Bool) (a1 : Pt) (n1 c1 : Nat) (e1 : Bool) (h : AHeap) (Q : QT) (ht :
 letH (h ++ [.cells t_impl_World [.slice a0x0 n0x0 c0x0 e0x0, .slice a0x1 n0x1 c0x1 e0x1] false]) fun h_0 => L2 Q a1 n1 c1 e1 (List.length h) 0 a1 n1 c1 e1 (((n1 : Nat) : Int)) 0 h_0) : SCall pg n_impl_mostSpecial [.agg [.slice a0x0 n0x0 c0x0 e0x0, .slice a0x1 n0x1 c0x1 e0x1], .slice a1 n1 c1 e1] h Q :=
  SCall.of_body kp (c := cod fn) (fn := fn) Go.Proofs.Tryz.func52 (by kernel_rfl) (by kernel_rfl) (Nat.le_of_ble_eq_true (by kernel_rfl))
    (@cast _ (den pg fn.ntmps kp (cod fn) (Env.args 0 [.agg [.slice a0x0 n0x0 c0x0 e0x0, .slice a0x1 n0x1 c0x1 e0x1], .slice a1 n1 c1 e1]) h (KR Q)) (by kernel_rfl) ht)
end F_impl_mostSpecial
/-! Function slices.ContainsFunc[[]int,int] -/
namespace F_slices_ContainsFunc_L_int_int__impl_mostSpecial_lit1
noncomputable abbrev fn : Func := Go.Proofs.Tryz.f90
def kp : Keeps := []
noncomputable def C (p : List Nat) : Code := (cod fn).sub p
def KR (Q : QT) : KT := retA pg fn.results.toList Q
theorem call (a0 : Pt) (n0 c0 : Nat) (e0 : Bool) (v1x0 v1x1 : AVal) (h : AHeap) (Q : QT) (ht :
 SCall pg n_slices_IndexFunc_L_int_int [.slice a0 n0 c0 e0, .fn n_impl_mostSpecial_lit1 [v1x0, v1x1]] h fun v_0 h_1 =>
 xInt .i64 (some v_0) fun x_2 => Q (.bool (decide ((x_2 : Int) ≥ 0))) h_1) : SCall pg n_slices_ContainsFunc_L_int_int [.slice a0 n0 c0 e0, .fn n_impl_mostSpecial_lit1 [v1x0, v1x1]] h Q :=
  SCall.of_body kp (c := cod fn) (fn := fn) Go.Proofs.Tryz.func90 (by kernel_rfl) (by kernel_rfl) (Nat.le_of_ble_eq_true (by kernel_rfl))
    (@cast _ (den pg fn.ntmps kp (cod fn) (Env.args 0 [.slice a0 n0 c0 e0, .fn n_impl_mostSpecial_lit1 [v1x0, v1x1]]) h (KR Q)) (by kernel_rfl) ht)
end F_slices_ContainsFunc_L_int_int__impl_mostSpecial_lit1
/-! Function loop.example/instancesearch/impl.MostSpecial -/
namespace F_impl_MostSpecial
noncomputable abbrev fn : Func := Go.Proofs.Tryz.f19
def kp : Keeps := [(2000003, [4])]
noncomputable def C (p : List Nat) : Code := (cod fn).sub p
def KR (Q : QT) : KT := retA pg fn.results.toList Q
theorem call (a0x0 : Pt) (n0x0 c0x0 : Nat) (e0x0 : Bool) (a0x1 : Pt) (n0x1 c0x1 : Nat) (e0x1 : Bool) (x1x0 x1x1 : List Nat) (h : AHeap) (Q : QT) (ht :
 letH (h ++ [.cells t_impl_World [.slice a0x0 n0x0 c0x0 e0x0, .slice a0x1 n0x1 c0x1 e0x1] false]) fun h_0 => letH (h_0 ++ [.cells t_impl_Need [.str x1x0, .str x1x1] false]) fun h_1 => xRow (hRow h_1 (.ptr (some (List.length h, 0))) 2) fun cs_2 => xCons cs_2 fun c_3 r_4 => xSl (some c_3) fun a_5 n_6 c_7 e_8 => xCons r_4 fun c_9 r_10 => xSl (some c_9) fun a_11 n_12 c_13 e_14 => xNil r_10 (xRow (hRow h_1 (.ptr (some (List.length h_0, 0))) 2) fun cs_15 => xCons cs_15 fun c_16 r_17 => xStr (some c_16) fun s_18 => xCons r_17 fun c_19 r_20 => xStr (some c_19) fun s_21 => xNil r_20 (SCall pg n_impl_NeedValid [.agg [.slice a_5 n_6 c_7 e_8, .slice a_11 n_12 c_13 e_14], .agg [.str s_18, .str s_21]] h_1 fun v_22 h_23 =>
 xBool (some v_22) fun b_24 => bcase (!b_24) (Q (.int .i64 (-1)) h_23) (xRow (hRow h_23 (.ptr (some (List.length h, 0))) 2) fun cs_25 => xCons cs_25 fun c_26 r_27 => xSl (some c_26) fun a_28 n_29 c_30 e_31 => xCons r_27 fun c_32 r_33 => xSl (some c_32) fun a_34 n_35 c_36 e_37 => xNil r_33 (xRow (hRow h_23 (.ptr (some (List.length h, 0))) 2) fun cs_38 => xCons cs_38 fun c_39 r_40 => xSl (some c_39) fun a_41 n_42 c_43 e_44 => xCons r_40 fun c_45 r_46 => xSl (some c_45) fun a_47 n_48 c_49 e_50 => xNil r_46 (xRow (hRow h_23 (.ptr (some (List.length h_0, 0))) 2) fun cs_51 => xCons cs_51 fun c_52 r_53 => xStr (some c_52) fun s_54 => xCons r_53 fun c_55 r_56 => xStr (some c_55) fun s_57 => xNil r_56 ((hRow h_23 (.ptr (some (List.length h, 0))) 2 = hRow h_23 (.ptr (some (List.length h, 0))) 2) ∧ (hRow h_23 (.ptr (some (List.length h, 0))) 2 = hRow h_23 (.ptr (some (List.length h, 0))) 2) ∧ SCall pg n_impl_candidates [.agg [.slice a_41 n_42 c_43 e_44, .slice a_47 n_48 c_49 e_50], .agg [.str s_54, .str s_57]] h_23 fun v_58 h_59 =>
 xSl (some v_58) fun a_60 n_61 c_62 e_63 => (hRow h_59 (.ptr (some (List.length h, 0))) 2 = hRow h_23 (.ptr (some (List.length h, 0))) 2) ∧ SCall pg n_impl_mostSpecial [.agg [.slice a_28 n_29 c_30 e_31, .slice a_34 n_35 c_36 e_37], .slice a_60 n_61 c_62 e_63] h_59 fun v_64 h_65 =>
 xInt .i64 (some v_64) fun x_66 => (hRow h_65 (.ptr (some (List.length h, 0))) 2 = hRow h_59 (.ptr (some (List.length h, 0))) 2) ∧ Q (.int .i64 x_66) h_65))))))) : SCall pg n_impl_MostSpecial [.agg [.slice a0x0 n0x0 c0x0 e0x0, .slice a0x1 n0x1 c0x1 e0x1], .agg [.str x1x0, .str x1x1]] h Q :=
  SCall.of_body kp (c := cod fn) (fn := fn) Go.Proofs.Tryz.func19 (by kernel_rfl) (by kernel_rfl) (Nat.le_of_ble_eq_true (by kernel_rfl))
    (@cast _ (den pg fn.ntmps kp (cod fn) (Env.args 0 [.agg [.slice a0x0 n0x0 c0x0 e0x0, .slice a0x1 n0x1 c0x1 e0x1], .agg [.str x1x0, .str x1x1]]) h (KR Q)) (by kernel_rfl) ht)
end F_impl_MostSpecial
/-! Function loop.example/instancesearch/spec.MostSpecial -/
namespace F_spec_MostSpecial
noncomputable abbrev fn : Func := Go.Proofs.Tryz.f17
def kp : Keeps := [(3000003, [4]), (1000003, [2, 5, 18, 19, 20]), (3000007, [9, 8, 20, 19, 18, 5, 2]), (1000007, [2, 5, 8, 9, 18, 19, 20, 24, 25, 26]), (4000010, [26, 25, 24, 9, 2, 8, 20, 19, 18, 5])]
noncomputable def C (p : List Nat) : Code := (cod fn).sub p
def KR (Q : QT) : KT := retA pg fn.results.toList Q
abbrev T3 := Nat → Nat → Pt → Nat → Nat → Bool → Pt → Nat → Nat → Bool → Int → Int → AHeap → Prop
def E3 (R3 : T3) (env : Env) (h : AHeap) : Prop := eVal 2 env fun v env => xPtr (some v) fun a => xSome a fun i2 o2 => eVal 5 env fun v env => xSl (some v) fun a5 n5 c5 e5 => eVal 18 env fun v env => xSl (some v) fun a18 n18 c18 e18 => eVal 19 env fun v env => eInt .i64 v fun x19 => eVal 20 env fun v env => eInt .i64 v fun x20 => eNil env (R3 i2 o2 a5 n5 c5 e5 a18 n18 c18 e18 x19 x20 h)
theorem E3elim {R3 : T3} {env : Env} {h : AHeap} (hi : E3 R3 env h) : ∃ i2, ∃ o2, ∃ a5, ∃ n5, ∃ c5, ∃ e5, ∃ a18, ∃ n18, ∃ c18, ∃ e18, ∃ x19, ∃ x20, env = [(2, .ptr (some (i2, o2))), (5, .slice a5 n5 c5 e5), (18, .slice a18 n18 c18 e18), (19, .int .i64 x19), (20, .int .i64 x20)] ∧ R3 i2 o2 a5 n5 c5 e5 a18 n18 c18 e18 x19 x20 h := by
  unfold E3 at hi
  have hi0 := hi
  clear hi
  obtain ⟨v, env, rfl, hi1⟩ := eVal_elim hi0
  obtain ⟨a, rfl, hi2⟩ := xPtr_elim hi1
  obtain ⟨i2, o2, rfl, hi3⟩ := xSome_elim hi2
  obtain ⟨v, env, rfl, hi4⟩ := eVal_elim hi3
  obtain ⟨a5, n5, c5, e5, rfl, hi5⟩ := xSl_elim hi4
  obtain ⟨v, env, rfl, hi6⟩ := eVal_elim hi5
  obtain ⟨a18, n18, c18, e18, rfl, hi7⟩ := xSl_elim hi6
  obtain ⟨v, env, rfl, hi8⟩ := eVal_elim hi7
  obtain ⟨x19, rfl, hi9⟩ := eInt_elim hi8
  obtain ⟨v, env, rfl, hi10⟩ := eVal_elim hi9
  obtain ⟨x20, rfl, hi11⟩ := eInt_elim hi10
  obtain ⟨rfl, hi12⟩ := eNil_elim hi11
  have hi := hi12
  exact ⟨i2, o2, a5, n5, c5, e5, a18, n18, c18, e18, x19, x20, rfl, hi⟩
abbrev T7 := Nat → Nat → Pt → Nat → Nat → Bool → Int → Bool → Pt → Nat → Nat → Bool → Int → Int → Pt → Nat → Nat → Bool → Int → Int → AHeap → Prop
def E7 (R7 : T7) (env : Env) (h : AHeap) : Prop := eVal 2 env fun v env => xPtr (some v) fun a => xSome a fun i2 o2 => eVal 5 env fun v env => xSl (some v) fun a5 n5 c5 e5 => eVal 8 env fun v env => eInt .i64 v fun x8 => eVal 9 env fun v env => xBool (some v) fun x9 => eVal 18 env fun v env => xSl (some v) fun a18 n18 c18 e18 => eVal 19 env fun v env => eInt .i64 v fun x19 => eVal 20 env fun v env => eInt .i64 v fun x20 => eVal 24 env fun v env => xSl (some v) fun a24 n24 c24 e24 => eVal 25 env fun v env => eInt .i64 v fun x25 => eVal 26 env fun v env => eInt .i64 v fun x26 => eNil env (R7 i2 o2 a5 n5 c5 e5 x8 x9 a18 n18 c18 e18 x19 x20 a24 n24 c24 e24 x25 x26 h)
theorem E7elim {R7 : T7} {env : Env} {h : AHeap} (hi : E7 R7 env h) : ∃ i2, ∃ o2, ∃ a5, ∃ n5, ∃ c5, ∃ e5, ∃ x8, ∃ x9, ∃ a18, ∃ n18, ∃ c18, ∃ e18, ∃ x19, ∃ x20, ∃ a24, ∃ n24, ∃ c24, ∃ e24, ∃ x25, ∃ x26, env = [(2, .ptr (some (i2, o2))), (5, .slice a5 n5 c5 e5), (8, .int .i64 x8), (9, .bool x9), (18, .slice a18 n18 c18 e18), (19, .int .i64 x19), (20, .int .i64 x20), (24, .slice a24 n24 c24 e24), (25, .int .i64 x25), (26, .int .i64 x26)] ∧ R7 i2 o2 a5 n5 c5 e5 x8 x9 a18 n18 c18 e18 x19 x20 a24 n24 c24 e24 x25 x26 h := by
  unfold E7 at hi
  have hi0 := hi
  clear hi
  obtain ⟨v, env, rfl, hi1⟩ := eVal_elim hi0
  obtain ⟨a, rfl, hi2⟩ := xPtr_elim hi1
  obtain ⟨i2, o2, rfl, hi3⟩ := xSome_elim hi2
  obtain ⟨v, env, rfl, hi4⟩ := eVal_elim hi3
  obtain ⟨a5, n5, c5, e5, rfl, hi5⟩ := xSl_elim hi4
  obtain ⟨v, env, rfl, hi6⟩ := eVal_elim hi5
  obtain ⟨x8, rfl, hi7⟩ := eInt_elim hi6
  obtain ⟨v, env, rfl, hi8⟩ := eVal_elim hi7
  obtain ⟨x9, rfl, hi9⟩ := xBool_elim hi8
  obtain ⟨v, env, rfl, hi10⟩ := eVal_elim hi9
  obtain ⟨a18, n18, c18, e18, rfl, hi11⟩ := xSl_elim hi10
  obtain ⟨v, env, rfl, hi12⟩ := eVal_elim hi11
  obtain ⟨x19, rfl, hi13⟩ := eInt_elim hi12
  obtain ⟨v, env, rfl, hi14⟩ := eVal_elim hi13
  obtain ⟨x20, rfl, hi15⟩ := eInt_elim hi14
  obtain ⟨v, env, rfl, hi16⟩ := eVal_elim hi15
  obtain ⟨a24, n24, c24, e24, rfl, hi17⟩ := xSl_elim hi16
  obtain ⟨v, env, rfl, hi18⟩ := eVal_elim hi17
  obtain ⟨x25, rfl, hi19⟩ := eInt_elim hi18
  obtain ⟨v, env, rfl, hi20⟩ := eVal_elim hi19
  obtain ⟨x26, rfl, hi21⟩ := eInt_elim hi20
  obtain ⟨rfl, hi22⟩ := eNil_elim hi21
  have hi := hi22
  exact ⟨i2, o2, a5, n5, c5, e5, x8, x9, a18, n18, c18, e18, x19, x20, a24, n24, c24, e24, x25, x26, rfl, hi⟩
def K0 (Q : QT) : KT := andThen (fun env' h' => (match kp.find 4000014 with | some ks => Den pg fn.ntmps (C [1, 1, 1]) (env'.keep ks) h' (KR Q) | none => den pg fn.ntmps kp (C [1, 1, 1]) env' h' (KR Q))) (KR Q)
def K1 (Q : QT) : KT := onExit 0 (K0 Q)
def K2 (Q : QT) : KT := left kp 3 (K1 Q)
def K3 (Q : QT) (R3 : T3) : KT := rnd ((kp.find 1000003).getD []) (E3 R3) (K2 Q)
def K4 (Q : QT) (R3 : T3) : KT := andThen (fun env' h' => (match kp.find 4000013 with | some ks => Den pg fn.ntmps (C [1, 1, 0, 1, 0, 0, 1, 1, 1]) (env'.keep ks) h' (K3 Q R3) | none => den pg fn.ntmps kp (C [1, 1, 0, 1, 0, 0, 1, 1, 1]) env' h' (K3 Q R3))) (K3 Q R3)
def K5 (Q : QT) (R3 : T3) : KT := onExit 1 (K4 Q R3)
def K6 (Q : QT) (R3 : T3) : KT := andThen (fun env' h' => (match kp.find 4000011 with | some ks => Den pg fn.ntmps (C [1, 1, 0, 1, 0, 0, 1, 1, 0, 0, 1, 1, 1]) (env'.keep ks) h' (K5 Q R3) | none => den pg fn.ntmps kp (C [1, 1, 0, 1, 0, 0, 1, 1, 0, 0, 1, 1, 1]) env' h' (K5 Q R3))) (K5 Q R3)
def K7 (Q : QT) (R3 : T3) : KT := onExit 2 (K6 Q R3)
def K8 (Q : QT) (R3 : T3) : KT := left kp 7 (K7 Q R3)
def K9 (Q : QT) (R3 : T3) (R7 : T7) : KT := rnd ((kp.find 1000007).getD []) (E7 R7) (K8 Q R3)
def L3 (Q : QT) (i2 o2 : Nat) (a5 : Pt) (n5 c5 : Nat) (e5 : Bool) (a18 : Pt) (n18 c18 : Nat) (e18 : Bool) (x19 x20 : Int) (h : AHeap) : Prop := Loop (Den pg fn.ntmps (C [1, 1, 0, 1, 0, 0])) ((kp.find 1000003).getD []) (K2 Q) [(2, .ptr (some (i2, o2))), (5, .slice a5 n5 c5 e5), (18, .slice a18 n18 c18 e18), (19, .int .i64 x19), (20, .int .i64 x20)] h
def L7 (Q : QT) (R3 : T3) (i2 o2 : Nat) (a5 : Pt) (n5 c5 : Nat) (e5 : Bool) (x8 : Int) (x9 : Bool) (a18 : Pt) (n18 c18 : Nat) (e18 : Bool) (x19 x20 : Int) (a24 : Pt) (n24 c24 : Nat) (e24 : Bool) (x25 x26 : Int) (h : AHeap) : Prop := Loop (Den pg fn.ntmps (C [1, 1, 0, 1, 0, 0, 1, 1, 0, 0, 1, 1, 0, 1, 0, 0])) ((kp.find 1000007).getD []) (K8 Q R3) [(2, .ptr (some (i2, o2))), (5, .slice a5 n5 c5 e5), (8, .int .i64 x8), (9, .bool x9), (18, .slice a18 n18 c18 e18), (19, .int .i64 x19), (20, .int .i64 x20), (24, .slice a24 n24 c24 e24), (25, .int .i64 x25), (26, .int .i64 x26)] h
def A3x0 (Q : QT) (h : AHeap) : Prop := At (K1 Q) (.exit 0) [(4, .undef)] h
def J10 (Q : QT) (R3 : T3) (R7 : T7) (x26 x25 : Int) (a24 : Pt) (n24 c24 : Nat) (e24 x9 : Bool) (i2 o2 : Nat) (x8 x20 x19 : Int) (a18 : Pt) (n18 c18 : Nat) (e18 : Bool) (a5 : Pt) (n5 c5 : Nat) (e5 : Bool) (h : AHeap) : Prop := Den pg fn.ntmps (C [1, 1, 0, 1, 0, 0, 1, 1, 0, 0, 1, 1, 0, 1, 0, 0, 1, 1, 1]) [(26, .int .i64 x26), (25, .int .i64 x25), (24, .slice a24 n24 c24 e24), (9, .bool x9), (2, .ptr (some (i2, o2))), (8, .int .i64 x8), (20, .int .i64 x20), (19, .int .i64 x19), (18, .slice a18 n18 c18 e18), (5, .slice a5 n5 c5 e5)] h (K9 Q R3 R7)
def A7x2 (Q : QT) (R3 : T3) (x9 : Bool) (x8 x20 x19 : Int) (a18 : Pt) (n18 c18 : Nat) (e18 : Bool) (a5 : Pt) (n5 c5 : Nat) (e5 : Bool) (i2 o2 : Nat) (h : AHeap) : Prop := At (K7 Q R3) (.exit 2) [(9, .bool x9), (8, .int .i64 x8), (20, .int .i64 x20), (19, .int .i64 x19), (18, .slice a18 n18 c18 e18), (5, .slice a5 n5 c5 e5), (2, .ptr (some (i2, o2)))] h
def L3t (Q : QT) (R3 : T3) (i2 o2 : Nat) (a5 : Pt) (n5 c5 : Nat) (e5 : Bool) (a18 : Pt) (n18 c18 : Nat) (e18 : Bool) (x19 x20 : Int) (h : AHeap) : Prop :=
 bcase (decide ((x20 : Int) < x19)) ((0 ≤ (x20 : Int) ∧ (x20 : Int) < (n18 : Nat)) ∧ (xSome a18 fun i_34 o_35 => xInt .i64 (hCell h (.ptr (some (i_34, o_35 + (Int.toNat x20) * 1)))) fun x_36 => L7 Q R3 i2 o2 a5 n5 c5 e5 x_36 true a18 n18 c18 e18 x19 x20 a5 n5 c5 e5 (((n5 : Nat) : Int)) 0 h)) (A3x0 Q h)
theorem L3den (Q : QT) (R3 : T3) (i2 o2 : Nat) (a5 : Pt) (n5 c5 : Nat) (e5 : Bool) (a18 : Pt) (n18 c18 : Nat) (e18 : Bool) (x19 x20 : Int) (h : AHeap) (ht : L3t Q R3 i2 o2 a5 n5 c5 e5 a18 n18 c18 e18 x19 x20 h) : Den pg fn.ntmps (C [1, 1, 0, 1, 0, 0]) [(2, .ptr (some (i2, o2))), (5, .slice a5 n5 c5 e5), (18, .slice a18 n18 c18 e18), (19, .int .i64 x19), (20, .int .i64 x20)] h (K3 Q R3) :=
  den_Den (kp := kp) (@cast _ (den pg fn.ntmps kp (C [1, 1, 0, 1, 0, 0]) [(2, .ptr (some (i2, o2))), (5, .slice a5 n5 c5 e5), (18, .slice a18 n18 c18 e18), (19, .int .i64 x19), (20, .int .i64 x20)] h (K3 Q R3)) (by kernel_rfl) ht)
theorem L3ind (Q : QT) (i2 o2 : Nat) (a5 : Pt) (n5 c5 : Nat) (e5 : Bool) (a18 : Pt) (n18 c18 : Nat) (e18 : Bool) (x19 : Int) {G : Type} (J : G → Int → AHeap → Prop) (m : G → Nat)
 (hr : ∀ (g : G) (x20 : Int) (h : AHeap), J g x20 h → ∀ (R3 : T3), (∀ g' (x20 : Int) (h : AHeap), m g' < m g → J g' x20 h → R3 i2 o2 a5 n5 c5 e5 a18 n18 c18 e18 x19 x20 h) → L3t Q R3 i2 o2 a5 n5 c5 e5 a18 n18 c18 e18 x19 x20 h)
 (g : G) (x20 : Int) (h : AHeap) (hj : J g x20 h) : L3 Q i2 o2 a5 n5 c5 e5 a18 n18 c18 e18 x19 x20 h := by
  refine Loop.inv2 (fun g => E3 fun i2' o2' a5' n5' c5' e5' a18' n18' c18' e18' x19' x20 h => i2 = i2' ∧ o2 = o2' ∧ a5 = a5' ∧ n5 = n5' ∧ c5 = c5' ∧ e5 = e5' ∧ a18 = a18' ∧ n18 = n18' ∧ c18 = c18' ∧ e18 = e18' ∧ x19 = x19' ∧ J g x20 h) (fun g => E3 fun i2' o2' a5' n5' c5' e5' a18' n18' c18' e18' x19' x20 h => i2 = i2' ∧ o2 = o2' ∧ a5 = a5' ∧ n5 = n5' ∧ c5 = c5' ∧ e5 = e5' ∧ a18 = a18' ∧ n18 = n18' ∧ c18 = c18' ∧ e18 = e18' ∧ x19 = x19' ∧ ∃ g', m g' < m g ∧ J g' x20 h) m ?_ ?_ g ⟨rfl, rfl, rfl, rfl, rfl, rfl, rfl, rfl, rfl, rfl, rfl, hj⟩
  · intro g env h hi
    obtain ⟨i2', o2', a5', n5', c5', e5', a18', n18', c18', e18', x19', x20, rfl, rfl, rfl, rfl, rfl, rfl, rfl, rfl, rfl, rfl, rfl, rfl, hj⟩ := E3elim hi
    exact L3den Q (fun i2' o2' a5' n5' c5' e5' a18' n18' c18' e18' x19' x20 h => i2 = i2' ∧ o2 = o2' ∧ a5 = a5' ∧ n5 = n5' ∧ c5 = c5' ∧ e5 = e5' ∧ a18 = a18' ∧ n18 = n18' ∧ c18 = c18' ∧ e18 = e18' ∧ x19 = x19' ∧ ∃ g', m g' < m g ∧ J g' x20 h) i2 o2 a5 n5 c5 e5 a18 n18 c18 e18 x19 x20 h (hr g x20 h hj (fun i2' o2' a5' n5' c5' e5' a18' n18' c18' e18' x19' x20 h => i2 = i2' ∧ o2 = o2' ∧ a5 = a5' ∧ n5 = n5' ∧ c5 = c5' ∧ e5 = e5' ∧ a18 = a18' ∧ n18 = n18' ∧ c18 = c18' ∧ e18 = e18' ∧ x19 = x19' ∧ ∃ g', m g' < m g ∧ J g' x20 h) fun g' x20 h hlt hj => ⟨rfl, rfl, rfl, rfl, rfl, rfl, rfl, rfl, rfl, rfl, rfl, g', hlt, hj⟩)
  · intro g env h hi
    obtain ⟨i2', o2', a5', n5', c5', e5', a18', n18', c18', e18', x19', x20, rfl, rfl, rfl, rfl, rfl, rfl, rfl, rfl, rfl, rfl, rfl, rfl, g', hlt, hj⟩ := E3elim hi
    exact ⟨g', hlt, rfl, rfl, rfl, rfl, rfl, rfl, rfl, rfl, rfl, rfl, rfl, hj⟩
def L7t (Q : QT) (R3 : T3) (R7 : T7) (i2 o2 : Nat) (a5 : Pt) (n5 c5 : Nat) (e5 : Bool) (x8 : Int) (x9 : Bool) (a18 : Pt) (n18 c18 : Nat) (e18 : Bool) (x19 x20 : Int) (a24 : Pt) (n24 c24 : Nat) (e24 : Bool) (x25 x26 : Int) (h : AHeap) : Prop :=
 bcase (decide ((x26 : Int) < x25)) ((0 ≤ (x26 : Int) ∧ (x26 : Int) < (n24 : Nat)) ∧ (xSome a24 fun i_37 o_38 => xInt .i64 (hCell h (.ptr (some (i_37, o_38 + (Int.toNat x26) * 1)))) fun x_39 => bcase x9 (xRow (hRow h (.ptr (some (i2, o2))) 2) fun cs_40 => xCons cs_40 fun c_41 r_42 => xSl (some c_41) fun a_43 n_44 c_45 e_46 => xCons r_42 fun c_47 r_48 => xSl (some c_47) fun a_49 n_50 c_51 e_52 => xNil r_48 (SCall pg n_spec_IsSpecial [.agg [.slice a_43 n_44 c_45 e_46, .slice a_49 n_50 c_51 e_52], .int .i64 x8, .int .i64 x_39] h fun v_53 h_54 =>
 xBool (some v_53) fun b_55 => J10 Q R3 R7 x26 x25 a24 n24 c24 e24 b_55 i2 o2 x8 x20 x19 a18 n18 c18 e18 a5 n5 c5 e5 h_54)) (J10 Q R3 R7 x26 x25 a24 n24 c24 e24 false i2 o2 x8 x20 x19 a18 n18 c18 e18 a5 n5 c5 e5 h))) (A7x2 Q R3 x9 x8 x20 x19 a18 n18 c18 e18 a5 n5 c5 e5 i2 o2 h)
theorem L7den (Q : QT) (R3 : T3) (R7 : T7) (i2 o2 : Nat) (a5 : Pt) (n5 c5 : Nat) (e5 : Bool) (x8 : Int) (x9 : Bool) (a18 : Pt) (n18 c18 : Nat) (e18 : Bool) (x19 x20 : Int) (a24 : Pt) (n24 c24 : Nat) (e24 : Bool) (x25 x26 : Int) (h : AHeap) (ht : L7t Q R3 R7 i2 o2 a5 n5 c5 e5 x8 x9 a18 n18 c18 e18 x19 x20 a24 n24 c24 e24 x25 x26 h) : Den pg fn.ntmps (C [1, 1, 0, 1, 0, 0, 1, 1, 0, 0, 1, 1, 0, 1, 0, 0]) [(2, .ptr (some (i2, o2))), (5, .slice a5 n5 c5 e5), (8, .int .i64 x8), (9, .bool x9), (18, .slice a18 n18 c18 e18), (19, .int .i64 x19), (20, .int .i64 x20), (24, .slice a24 n24 c24 e24), (25, .int .i64 x25), (26, .int .i64 x26)] h (K9 Q R3 R7) :=
  den_Den (kp := kp) (@cast _ (den pg fn.ntmps kp (C [1, 1, 0, 1, 0, 0, 1, 1, 0, 0, 1, 1, 0, 1, 0, 0]) [(2, .ptr (some (i2, o2))), (5, .slice a5 n5 c5 e5), (8, .int .i64 x8), (9, .bool x9), (18, .slice a18 n18 c18 e18), (19, .int .i64 x19), (20, .int .i64 x20), (24, .slice a24 n24 c24 e24), (25, .int .i64 x25), (26, .int .i64 x26)] h (K9 Q R3 R7)) (by kernel_rfl) ht)
theorem L7ind (Q : QT) (R3 : T3) (i2 o2 : Nat) (a5 : Pt) (n5 c5 : Nat) (e5 : Bool) (x8 : Int) (a18 : Pt) (n18 c18 : Nat) (e18 : Bool) (x19 x20 : Int) (a24 : Pt) (n24 c24 : Nat) (e24 : Bool) (x25 : Int) {G : Type} (J : G → Bool → Int → AHeap → Prop) (m : G → Nat)
 (hr : ∀ (g : G) (x9 : Bool) (x26 : Int) (h : AHeap), J g x9 x26 h → ∀ (R7 : T7), (∀ g' (x9 : Bool) (x26 : Int) (h : AHeap), m g' < m g → J g' x9 x26 h → R7 i2 o2 a5 n5 c5 e5 x8 x9 a18 n18 c18 e18 x19 x20 a24 n24 c24 e24 x25 x26 h) → L7t Q R3 R7 i2 o2 a5 n5 c5 e5 x8 x9 a18 n18 c18 e18 x19 x20 a24 n24 c24 e24 x25 x26 h)
 (g : G) (x9 : Bool) (x26 : Int) (h : AHeap) (hj : J g x9 x26 h) : L7 Q R3 i2 o2 a5 n5 c5 e5 x8 x9 a18 n18 c18 e18 x19 x20 a24 n24 c24 e24 x25 x26 h := by
  refine Loop.inv2 (fun g => E7 fun i2' o2' a5' n5' c5' e5' x8' x9 a18' n18' c18' e18' x19' x20' a24' n24' c24' e24' x25' x26 h => i2 = i2' ∧ o2 = o2' ∧ a5 = a5' ∧ n5 = n5' ∧ c5 = c5' ∧ e5 = e5' ∧ x8 = x8' ∧ a18 = a18' ∧ n18 = n18' ∧ c18 = c18' ∧ e18 = e18' ∧ x19 = x19' ∧ x20 = x20' ∧ a24 = a24' ∧ n24 = n24' ∧ c24 = c24' ∧ e24 = e24' ∧ x25 = x25' ∧ J g x9 x26 h) (fun g => E7 fun i2' o2' a5' n5' c5' e5' x8' x9 a18' n18' c18' e18' x19' x20' a24' n24' c24' e24' x25' x26 h => i2 = i2' ∧ o2 = o2' ∧ a5 = a5' ∧ n5 = n5' ∧ c5 = c5' ∧ e5 = e5' ∧ x8 = x8' ∧ a18 = a18' ∧ n18 = n18' ∧ c18 = c18' ∧ e18 = e18' ∧ x19 = x19' ∧ x20 = x20' ∧ a24 = a24' ∧ n24 = n24' ∧ c24 = c24' ∧ e24 = e24' ∧ x25 = x25' ∧ ∃ g', m g' < m g ∧ J g' x9 x26 h) m ?_ ?_ g ⟨rfl, rfl, rfl, rfl, rfl, rfl, rfl, rfl, rfl, rfl, rfl, rfl, rfl, rfl, rfl, rfl, rfl, rfl, hj⟩
  · intro g env h hi
    obtain ⟨i2', o2', a5', n5', c5', e5', x8', x9, a18', n18', c18', e18', x19', x20', a24', n24', c24', e24', x25', x26, rfl, rfl, rfl, rfl, rfl, rfl, rfl, rfl, rfl, rfl, rfl, rfl, rfl, rfl, rfl, rfl, rfl, rfl, rfl, hj⟩ := E7elim hi
    exact L7den Q R3 (fun i2' o2' a5' n5' c5' e5' x8' x9 a18' n18' c18' e18' x19' x20' a24' n24' c24' e24' x25' x26 h => i2 = i2' ∧ o2 = o2' ∧ a5 = a5' ∧ n5 = n5' ∧ c5 = c5' ∧ e5 = e5' ∧ x8 = x8' ∧ a18 = a18' ∧ n18 = n18' ∧ c18 = c18' ∧ e18 = e18' ∧ x19 = x19' ∧ x20 = x20' ∧ a24 = a24' ∧ n24 = n24' ∧ c24 = c24' ∧ e24 = e24' ∧ x25 = x25' ∧ ∃ g', m g' < m g ∧ J g' x9 x26 h) i2 o2 a5 n5 c5 e5 x8 x9 a18 n18 c18 e18 x19 x20 a24 n24 c24 e24 x25 x26 h (hr g x9 x26 h hj (fun i2' o2' a5' n5' c5' e5' x8' x9 a18' n18' c18' e18' x19' x20' a24' n24' c24' e24' x25' x26 h => i2 = i2' ∧ o2 = o2' ∧ a5 = a5' ∧ n5 = n5' ∧ c5 = c5' ∧ e5 = e5' ∧ x8 = x8' ∧ a18 = a18' ∧ n18 = n18' ∧ c18 = c18' ∧ e18 = e18' ∧ x19 = x19' ∧ x20 = x20' ∧ a24 = a24' ∧ n24 = n24' ∧ c24 = c24' ∧ e24 = e24' ∧ x25 = x25' ∧ ∃ g', m g' < m g ∧ J g' x9 x26 h) fun g' x9 x26 h hlt hj => ⟨rfl, rfl, rfl, rfl, rfl, rfl, rfl, rfl, rfl, rfl, rfl, rfl, rfl, rfl, rfl, rfl, rfl, rfl, g', hlt, hj⟩)
  · intro g env h hi
    obtain ⟨i2', o2', a5', n5', c5', e5', x8', x9, a18', n18', c18', e18', x19', x20', a24', n24', c24', e24', x25', x26, rfl, rfl, rfl, rfl, rfl, rfl, rfl, rfl, rfl, rfl, rfl, rfl, rfl, rfl, rfl, rfl, rfl, rfl, rfl, g', hlt, hj⟩ := E7elim hi
    exact ⟨g', hlt, rfl, rfl, rfl, rfl, rfl, rfl, rfl, rfl, rfl, rfl, rfl, rfl, rfl, rfl, rfl, rfl, rfl, rfl, hj⟩
theorem A3x0i (Q : QT) (h : AHeap) (ht :
 Q (.int .i64 (-1)) h) : A3x0 Q h :=
  At.mk (@cast _ ((K1 Q) (.exit 0) [(4, .undef)] h) (by kernel_rfl) ht)
theorem J10i (Q : QT) (R3 : T3) (R7 : T7) (x26 x25 : Int) (a24 : Pt) (n24 c24 : Nat) (e24 x9 : Bool) (i2 o2 : Nat) (x8 x20 x19 : Int) (a18 : Pt) (n18 c18 : Nat) (e18 : Bool) (a5 : Pt) (n5 c5 : Nat) (e5 : Bool) (h : AHeap) (ht :
 R7 i2 o2 a5 n5 c5 e5 x8 x9 a18 n18 c18 e18 x19 x20 a24 n24 c24 e24 x25 (IntKind.wrap .i64 (x26 + 1)) h) : J10 Q R3 R7 x26 x25 a24 n24 c24 e24 x9 i2 o2 x8 x20 x19 a18 n18 c18 e18 a5 n5 c5 e5 h :=
  den_Den (kp := kp) (@cast _ (den pg fn.ntmps kp (C [1, 1, 0, 1, 0, 0, 1, 1, 0, 0, 1, 1, 0, 1, 0, 0, 1, 1, 1]) [(26, .int .i64 x26), (25, .int .i64 x25), (24, .slice a24 n24 c24 e24), (9, .bool x9), (2, .ptr (some (i2, o2))), (8, .int .i64 x8), (20, .int .i64 x20), (19, .int .i64 x19), (18, .slice a18 n18 c18 e18), (5, .slice a5 n5 c5 e5)] h (K9 Q R3 R7)) (by kernel_rfl) ht)
theorem A7x2i (Q : QT) (R3 : T3) (x9 : Bool) (x8 x20 x19 : Int) (a18 : Pt) (n18 c18 : Nat) (e18 : Bool) (a5 : Pt) (n5 c5 : Nat) (e5 : Bool) (i2 o2 : Nat) (h : AHeap) (ht :
 bcase x9 (Q (.int .i64 x8) h) (R3 i2 o2 a5 n5 c5 e5 a18 n18 c18 e18 x19 (IntKind.wrap .i64 (x20 + 1)) h)) : A7x2 Q R3 x9 x8 x20 x19 a18 n18 c18 e18 a5 n5 c5 e5 i2 o2 h :=
  At.mk (@cast _ ((K7 Q R3) (.exit 2) [(9, .bool x9), (8, .int .i64 x8), (20, .int .i64 x20), (19, .int .i64 x19), (18, .slice a18 n18 c18 e18), (5, .slice a5 n5 c5 e5), (2, .ptr (some (i2, o2)))] h) (by kernel_rfl) ht)
theorem call (a0x0 : Pt) (n0x0 c0x0 : Nat) (e0x0 : Bool) (a0x1 : Pt) (n0x1 c0x1 : Nat) (e0x1 : Bool) (x1x0 x1x1 : List Nat) (h : AHeap) (Q : QT) (ht :
 letH (h ++ [.cells t_impl_World [.slice a0x0 n0x0 c0x0 e0x0, .slice a0x1 n0x1 c0x1 e0x1] false]) fun h_0 => letH (h_0 ++ [.cells t_impl_Need [.str x1x0, .str x1x1] false]) fun h_1 => xRow (hRow h_1 (.ptr (some (List.length h, 0))) 2) fun cs_2 => xCons cs_2 fun c_3 r_4 => xSl (some c_3) fun a_5 n_6 c_7 e_8 => xCons r_4 fun c_9 r_10 => xSl (some c_9) fun a_11 n_12 c_13 e_14 => xNil r_10 (xRow (hRow h_1 (.ptr (some (List.length h_0, 0))) 2) fun cs_15 => xCons cs_15 fun c_16 r_17 => xStr (some c_16) fun s_18 => xCons r_17 fun c_19 r_20 => xStr (some c_19) fun s_21 => xNil r_20 (SCall pg n_spec_CandidatesOf [.agg [.slice a_5 n_6 c_7 e_8, .slice a_11 n_12 c_13 e_14], .agg [.str s_18, .str s_21]] h_1 fun v_22 h_23 =>
 xTup v_22 fun cs_24 => xCons cs_24 fun c_25 r_26 => xSl (some c_25) fun a_27 n_28 c_29 e_30 => xCons r_26 fun c_31 r_32 => xBool (some c_31) fun b_33 => xNil r_32 (L3 Q (List.length h) 0 a_27 n_28 c_29 e_30 a_27 n_28 c_29 e_30 (((n_28 : Nat) : Int)) 0 h_23)))) : SCall pg n_spec_MostSpecial [.agg [.slice a0x0 n0x0 c0x0 e0x0, .slice a0x1 n0x1 c0x1 e0x1], .agg [.str x1x0, .str x1x1]] h Q :=
  SCall.of_body kp (c := cod fn) (fn := fn) Go.Proofs.Tryz.func17 (by kernel_rfl) (by kernel_rfl) (Nat.le_of_ble_eq_true (by kernel_rfl))
    (@cast _ (den pg fn.ntmps kp (cod fn) (Env.args 0 [.agg [.slice a0x0 n0x0 c0x0 e0x0, .slice a0x1 n0x1 c0x1 e0x1], .agg [.str x1x0, .str x1x1]]) h (KR Q)) (by kernel_rfl) ht)
end F_spec_MostSpecial
end Go.Sim

/- Printed by wip/tool: what the functions' bodies do, in the words of 'den'. -/
set_option maxRecDepth 100000
set_option linter.unusedVariables false
namespace Go.Sim
open Go Go.RowKit
/-! Function loop.example/instancesearch/impl.NeedValid -/
namespace F_impl_NeedValid
noncomputable abbrev fn : Func := Go.Proofs.Tryz.f50
def kp : Keeps := []
noncomputable def C (p : List Nat) : Code := (cod fn).sub p
def KR (Q : QT) : KT := retA pg fn.results.toList Q
theorem call (a0x0 : Pt) (n0x0 c0x0 : Nat) (e0x0 : Bool) (a0x1 : Pt) (n0x1 c0x1 : Nat) (e0x1 : Bool) (x1x0 x1x1 : List Nat) (h : AHeap) (Q : QT) (ht :
 letH (h ++ [.cells t_impl_World [.slice a0x0 n0x0 c0x0 e0x0, .slice a0x1 n0x1 c0x1 e0x1] false]) fun h_0 => letH (h_0 ++ [.cells t_impl_Need [.str x1x0, .str x1x1] false]) fun h_1 => xRow (hRow h_1 (.ptr (some (List.length h, 0))) 2) fun cs_2 => xCons cs_2 fun c_3 r_4 => xSl (some c_3) fun a_5 n_6 c_7 e_8 => xCons r_4 fun c_9 r_10 => xSl (some c_9) fun a_11 n_12 c_13 e_14 => xNil r_10 (SCall pg n_impl_WorldValid [.agg [.slice a_5 n_6 c_7 e_8, .slice a_11 n_12 c_13 e_14]] h_1 fun v_15 h_16 =>
 xBool (some v_15) fun b_17 => bcase b_17 (xRow (hRow h_16 (.ptr (some (List.length h, 0))) 2) fun cs_18 => xCons cs_18 fun c_19 r_20 => xSl (some c_19) fun a_21 n_22 c_23 e_24 => xCons r_20 fun c_25 r_26 => xSl (some c_25) fun a_27 n_28 c_29 e_30 => xNil r_26 (xRow (hRow h_16 (.ptr (some (List.length h_0, 0))) 2) fun cs_31 => xCons cs_31 fun c_32 r_33 => xStr (some c_32) fun s_34 => xCons r_33 fun c_35 r_36 => xStr (some c_35) fun s_37 => xNil r_36 (SCall pg n_impl_needOk [.agg [.slice a_21 n_22 c_23 e_24, .slice a_27 n_28 c_29 e_30], .agg [.str s_34, .str s_37]] h_16 fun v_38 h_39 =>
 xBool (some v_38) fun b_40 => Q (.bool b_40) h_39))) (Q (.bool false) h_16))) : SCall pg n_impl_NeedValid [.agg [.slice a0x0 n0x0 c0x0 e0x0, .slice a0x1 n0x1 c0x1 e0x1], .agg [.str x1x0, .str x1x1]] h Q :=
  SCall.of_body kp (c := cod fn) (fn := fn) Go.Proofs.Tryz.func50 (by kernel_rfl) (by kernel_rfl) (Nat.le_of_ble_eq_true (by kernel_rfl))
    (@cast _ (den pg fn.ntmps kp (cod fn) (Env.args 0 [.agg [.slice a0x0 n0x0 c0x0 e0x0, .slice a0x1 n0x1 c0x1 e0x1], .agg [.str x1x0, .str x1x1]]) h (KR Q)) (by kernel_rfl) ht)
end F_impl_NeedValid
/-! Function loop.example/instancesearch/impl.candidates$1 -/
namespace F_impl_candidates_lit1
noncomputable abbrev fn : Func := Go.Proofs.Tryz.f89
def kp : Keeps := []
noncomputable def C (p : List Nat) : Code := (cod fn).sub p
def KR (Q : QT) : KT := retA pg fn.results.toList Q
theorem call (x0x0 x0x1 : List Nat) (a0x2 : Pt) (n0x2 c0x2 : Nat) (e0x2 : Bool) (v1 : AVal) (h : AHeap) (Q : QT) (ht :
 letH (h ++ [.cells t_impl_Instance [.str x0x0, .str x0x1, .slice a0x2 n0x2 c0x2 e0x2] false]) fun h_0 => xStr (hCell h_0 (.ptr (some (List.length h, 0 + 0 + 1)))) fun s_1 => fieldAddrA pg t_impl_Need v1 1 fun v_2 => xStr (hCell h_0 (v_2)) fun s_3 => SCall pg n_impl_IsInstance [.str s_1, .str s_3] h_0 fun v_4 h_5 =>
 xBool (some v_4) fun b_6 => Q (.bool b_6) h_5) : SCall pg n_impl_candidates_lit1 [.agg [.str x0x0, .str x0x1, .slice a0x2 n0x2 c0x2 e0x2], v1] h Q :=
  SCall.of_body kp (c := cod fn) (fn := fn) Go.Proofs.Tryz.func89 (by kernel_rfl) (by kernel_rfl) (Nat.le_of_ble_eq_true (by kernel_rfl))
    (@cast _ (den pg fn.ntmps kp (cod fn) (Env.args 0 [.agg [.str x0x0, .str x0x1, .slice a0x2 n0x2 c0x2 e0x2], v1]) h (KR Q)) (by kernel_rfl) ht)
end F_impl_candidates_lit1
/-! Function loop.example/instancesearch/impl.among -/
namespace F_impl_among__impl_candidates_lit1
noncomputable abbrev fn : Func := Go.Proofs.Tryz.f88
def kp : Keeps := [(3000003, [7]), (1000003, [1, 2, 7, 12, 13, 14]), (4000007, [14, 13, 12, 1, 2, 7])]
noncomputable def C (p : List Nat) : Code := (cod fn).sub p
def KR (Q : QT) : KT := retA pg fn.results.toList Q
abbrev T3 := List Nat → AVal → Pt → Nat → Nat → Bool → Pt → Nat → Nat → Bool → Int → Int → AHeap → Prop
def E3 (R3 : T3) (env : Env) (h : AHeap) : Prop := eVal 1 env fun v env => xStr (some v) fun x1 => eVal 2 env fun v env => eFn n_impl_candidates_lit1 v fun cs => xCons cs fun c cs' => xAny (some c) fun v2x0 => xNil cs' (eVal 7 env fun v env => xSl (some v) fun a7 n7 c7 e7 => eVal 12 env fun v env => xSl (some v) fun a12 n12 c12 e12 => eVal 13 env fun v env => eInt .i64 v fun x13 => eVal 14 env fun v env => eInt .i64 v fun x14 => eNil env (R3 x1 v2x0 a7 n7 c7 e7 a12 n12 c12 e12 x13 x14 h))
theorem E3elim {R3 : T3} {env : Env} {h : AHeap} (hi : E3 R3 env h) : ∃ x1, ∃ v2x0, ∃ a7, ∃ n7, ∃ c7, ∃ e7, ∃ a12, ∃ n12, ∃ c12, ∃ e12, ∃ x13, ∃ x14, env = [(1, .str x1), (2, .fn n_impl_candidates_lit1 [v2x0]), (7, .slice a7 n7 c7 e7), (12, .slice a12 n12 c12 e12), (13, .int .i64 x13), (14, .int .i64 x14)] ∧ R3 x1 v2x0 a7 n7 c7 e7 a12 n12 c12 e12 x13 x14 h := by
  unfold E3 at hi
  have hi0 := hi
  clear hi
  obtain ⟨v, env, rfl, hi1⟩ := eVal_elim hi0
  obtain ⟨x1, rfl, hi2⟩ := xStr_elim hi1
  obtain ⟨v, env, rfl, hi3⟩ := eVal_elim hi2
  obtain ⟨cs, rfl, hi4⟩ := eFn_elim hi3
  obtain ⟨c, cs', rfl, hi5⟩ := xCons_elim hi4
  obtain ⟨v2x0, hx, hi6⟩ := xAny_elim hi5
  replace hx := (Option.some.inj hx).symm
  subst hx
  obtain ⟨rfl, hi7⟩ := xNil_elim hi6
  obtain ⟨v, env, rfl, hi8⟩ := eVal_elim hi7
  obtain ⟨a7, n7, c7, e7, rfl, hi9⟩ := xSl_elim hi8
  obtain ⟨v, env, rfl, hi10⟩ := eVal_elim hi9
  obtain ⟨a12, n12, c12, e12, rfl, hi11⟩ := xSl_elim hi10
  obtain ⟨v, env, rfl, hi12⟩ := eVal_elim hi11
  obtain ⟨x13, rfl, hi13⟩ := eInt_elim hi12
  obtain ⟨v, env, rfl, hi14⟩ := eVal_elim hi13
  obtain ⟨x14, rfl, hi15⟩ := eInt_elim hi14
  obtain ⟨rfl, hi16⟩ := eNil_elim hi15
  have hi := hi16
  exact ⟨x1, v2x0, a7, n7, c7, e7, a12, n12, c12, e12, x13, x14, rfl, hi⟩
def K0 (Q : QT) : KT := andThen (fun env' h' => (match kp.find 4000008 with | some ks => Den pg fn.ntmps (C [1, 1, 1]) (env'.keep ks) h' (KR Q) | none => den pg fn.ntmps kp (C [1, 1, 1]) env' h' (KR Q))) (KR Q)
def K1 (Q : QT) : KT := onExit 0 (K0 Q)
def K2 (Q : QT) : KT := left kp 3 (K1 Q)
def K3 (Q : QT) (R3 : T3) : KT := rnd ((kp.find 1000003).getD []) (E3 R3) (K2 Q)
def L3 (Q : QT) (x1 : List Nat) (v2x0 : AVal) (a7 : Pt) (n7 c7 : Nat) (e7 : Bool) (a12 : Pt) (n12 c12 : Nat) (e12 : Bool) (x13 x14 : Int) (h : AHeap) : Prop := Loop (Den pg fn.ntmps (C [1, 1, 0, 1, 0, 0])) ((kp.find 1000003).getD []) (K2 Q) [(1, .str x1), (2, .fn n_impl_candidates_lit1 [v2x0]), (7, .slice a7 n7 c7 e7), (12, .slice a12 n12 c12 e12), (13, .int .i64 x13), (14, .int .i64 x14)] h
def J7 (Q : QT) (R3 : T3) (x14 x13 : Int) (a12 : Pt) (n12 c12 : Nat) (e12 : Bool) (x1 : List Nat) (v2x0 : AVal) (a7 : Pt) (n7 c7 : Nat) (e7 : Bool) (h : AHeap) : Prop := Den pg fn.ntmps (C [1, 1, 0, 1, 0, 0, 1, 1, 1]) [(14, .int .i64 x14), (13, .int .i64 x13), (12, .slice a12 n12 c12 e12), (1, .str x1), (2, .fn n_impl_candidates_lit1 [v2x0]), (7, .slice a7 n7 c7 e7)] h (K3 Q R3)
def A3x0 (Q : QT) (a7 : Pt) (n7 c7 : Nat) (e7 : Bool) (h : AHeap) : Prop := At (K1 Q) (.exit 0) [(7, .slice a7 n7 c7 e7)] h
def L3t (Q : QT) (R3 : T3) (x1 : List Nat) (v2x0 : AVal) (a7 : Pt) (n7 c7 : Nat) (e7 : Bool) (a12 : Pt) (n12 c12 : Nat) (e12 : Bool) (x13 x14 : Int) (h : AHeap) : Prop :=
 bcase (decide ((x14 : Int) < x13)) ((0 ≤ (x14 : Int) ∧ (x14 : Int) < (n12 : Nat)) ∧ (xSome a12 fun i_6 o_7 => xRow (hRow h (.ptr (some (i_6, o_7 + (Int.toNat x14) * 3))) 3) fun cs_8 => xCons cs_8 fun c_9 r_10 => xStr (some c_9) fun s_11 => xCons r_10 fun c_12 r_13 => xStr (some c_12) fun s_14 => xCons r_13 fun c_15 r_16 => xSl (some c_15) fun a_17 n_18 c_19 e_20 => xNil r_16 (letH (h ++ [.cells t_impl_Instance [.str [], .str [], .slice none 0 0 true] false]) fun h_21 => xHeap (hStore h_21 (.ptr (some (List.length h, 0))) [.str s_11, .str s_14, .slice a_17 n_18 c_19 e_20]) fun h_22 => xStr (hCell h_22 (.ptr (some (List.length h, 0 + 0 + 0)))) fun s_23 => bcase (decide (s_23 = x1)) (xRow (hRow h_22 (.ptr (some (List.length h, 0))) 3) fun cs_24 => xCons cs_24 fun c_25 r_26 => xStr (some c_25) fun s_27 => xCons r_26 fun c_28 r_29 => xStr (some c_28) fun s_30 => xCons r_29 fun c_31 r_32 => xSl (some c_31) fun a_33 n_34 c_35 e_36 => xNil r_32 (SCall pg n_impl_candidates_lit1 [.agg [.str s_27, .str s_30, .slice a_33 n_34 c_35 e_36], v2x0] h_22 fun v_37 h_38 =>
 xBool (some v_37) fun b_39 => bcase b_39 (letH (h_38 ++ [.cells t_int [.int .i64 x14] false]) fun h_40 => appendA pg t_L_int h_40 (.slice a7 n7 c7 e7) (.slice (some (List.length h_38, 0)) 1 1 true) fun v_41 h_42 => xSl (some v_41) fun a_43 n_44 c_45 e_46 => J7 Q R3 x14 x13 a12 n12 c12 e12 x1 v2x0 a_43 n_44 c_45 e_46 h_42) (J7 Q R3 x14 x13 a12 n12 c12 e12 x1 v2x0 a7 n7 c7 e7 h_38))) (J7 Q R3 x14 x13 a12 n12 c12 e12 x1 v2x0 a7 n7 c7 e7 h_22)))) (A3x0 Q a7 n7 c7 e7 h)
theorem L3den (Q : QT) (R3 : T3) (x1 : List Nat) (v2x0 : AVal) (a7 : Pt) (n7 c7 : Nat) (e7 : Bool) (a12 : Pt) (n12 c12 : Nat) (e12 : Bool) (x13 x14 : Int) (h : AHeap) (ht : L3t Q R3 x1 v2x0 a7 n7 c7 e7 a12 n12 c12 e12 x13 x14 h) : Den pg fn.ntmps (C [1, 1, 0, 1, 0, 0]) [(1, .str x1), (2, .fn n_impl_candidates_lit1 [v2x0]), (7, .slice a7 n7 c7 e7), (12, .slice a12 n12 c12 e12), (13, .int .i64 x13), (14, .int .i64 x14)] h (K3 Q R3) :=
  den_Den (kp := kp) (@cast _ (den pg fn.ntmps kp (C [1, 1, 0, 1, 0, 0]) [(1, .str x1), (2, .fn n_impl_candidates_lit1 [v2x0]), (7, .slice a7 n7 c7 e7), (12, .slice a12 n12 c12 e12), (13, .int .i64 x13), (14, .int .i64 x14)] h (K3 Q R3)) (by kernel_rfl) ht)
theorem L3ind (Q : QT) (x1 : List Nat) (v2x0 : AVal) (a12 : Pt) (n12 c12 : Nat) (e12 : Bool) (x13 : Int) {G : Type} (J : G → Pt → Nat → Nat → Bool → Int → AHeap → Prop) (m : G → Nat)
 (hr : ∀ (g : G) (a7 : Pt) (n7 c7 : Nat) (e7 : Bool) (x14 : Int) (h : AHeap), J g a7 n7 c7 e7 x14 h → ∀ (R3 : T3), (∀ g' (a7 : Pt) (n7 c7 : Nat) (e7 : Bool) (x14 : Int) (h : AHeap), m g' < m g → J g' a7 n7 c7 e7 x14 h → R3 x1 v2x0 a7 n7 c7 e7 a12 n12 c12 e12 x13 x14 h) → L3t Q R3 x1 v2x0 a7 n7 c7 e7 a12 n12 c12 e12 x13 x14 h)
 (g : G) (a7 : Pt) (n7 c7 : Nat) (e7 : Bool) (x14 : Int) (h : AHeap) (hj : J g a7 n7 c7 e7 x14 h) : L3 Q x1 v2x0 a7 n7 c7 e7 a12 n12 c12 e12 x13 x14 h := by
  refine Loop.inv2 (fun g => E3 fun x1' v2x0' a7 n7 c7 e7 a12' n12' c12' e12' x13' x14 h => x1 = x1' ∧ v2x0 = v2x0' ∧ a12 = a12' ∧ n12 = n12' ∧ c12 = c12' ∧ e12 = e12' ∧ x13 = x13' ∧ J g a7 n7 c7 e7 x14 h) (fun g => E3 fun x1' v2x0' a7 n7 c7 e7 a12' n12' c12' e12' x13' x14 h => x1 = x1' ∧ v2x0 = v2x0' ∧ a12 = a12' ∧ n12 = n12' ∧ c12 = c12' ∧ e12 = e12' ∧ x13 = x13' ∧ ∃ g', m g' < m g ∧ J g' a7 n7 c7 e7 x14 h) m ?_ ?_ g ⟨rfl, rfl, rfl, rfl, rfl, rfl, rfl, hj⟩
  · intro g env h hi
    obtain ⟨x1', v2x0', a7, n7, c7, e7, a12', n12', c12', e12', x13', x14, rfl, rfl, rfl, rfl, rfl, rfl, rfl, rfl, hj⟩ := E3elim hi
    exact L3den Q (fun x1' v2x0' a7 n7 c7 e7 a12' n12' c12' e12' x13' x14 h => x1 = x1' ∧ v2x0 = v2x0' ∧ a12 = a12' ∧ n12 = n12' ∧ c12 = c12' ∧ e12 = e12' ∧ x13 = x13' ∧ ∃ g', m g' < m g ∧ J g' a7 n7 c7 e7 x14 h) x1 v2x0 a7 n7 c7 e7 a12 n12 c12 e12 x13 x14 h (hr g a7 n7 c7 e7 x14 h hj (fun x1' v2x0' a7 n7 c7 e7 a12' n12' c12' e12' x13' x14 h => x1 = x1' ∧ v2x0 = v2x0' ∧ a12 = a12' ∧ n12 = n12' ∧ c12 = c12' ∧ e12 = e12' ∧ x13 = x13' ∧ ∃ g', m g' < m g ∧ J g' a7 n7 c7 e7 x14 h) fun g' a7 n7 c7 e7 x14 h hlt hj => ⟨rfl, rfl, rfl, rfl, rfl, rfl, rfl, g', hlt, hj⟩)
  · intro g env h hi
    obtain ⟨x1', v2x0', a7, n7, c7, e7, a12', n12', c12', e12', x13', x14, rfl, rfl, rfl, rfl, rfl, rfl, rfl, rfl, g', hlt, hj⟩ := E3elim hi
    exact ⟨g', hlt, rfl, rfl, rfl, rfl, rfl, rfl, rfl, hj⟩
theorem J7i (Q : QT) (R3 : T3) (x14 x13 : Int) (a12 : Pt) (n12 c12 : Nat) (e12 : Bool) (x1 : List Nat) (v2x0 : AVal) (a7 : Pt) (n7 c7 : Nat) (e7 : Bool) (h : AHeap) (ht :
 R3 x1 v2x0 a7 n7 c7 e7 a12 n12 c12 e12 x13 (IntKind.wrap .i64 (x14 + 1)) h) : J7 Q R3 x14 x13 a12 n12 c12 e12 x1 v2x0 a7 n7 c7 e7 h :=
  den_Den (kp := kp) (@cast _ (den pg fn.ntmps kp (C [1, 1, 0, 1, 0, 0, 1, 1, 1]) [(14, .int .i64 x14), (13, .int .i64 x13), (12, .slice a12 n12 c12 e12), (1, .str x1), (2, .fn n_impl_candidates_lit1 [v2x0]), (7, .slice a7 n7 c7 e7)] h (K3 Q R3)) (by kernel_rfl) ht)
theorem A3x0i (Q : QT) (a7 : Pt) (n7 c7 : Nat) (e7 : Bool) (h : AHeap) (ht :
 Q (.slice a7 n7 c7 e7) h) : A3x0 Q a7 n7 c7 e7 h :=
  At.mk (@cast _ ((K1 Q) (.exit 0) [(7, .slice a7 n7 c7 e7)] h) (by kernel_rfl) ht)
theorem call (a0x0 : Pt) (n0x0 c0x0 : Nat) (e0x0 : Bool) (a0x1 : Pt) (n0x1 c0x1 : Nat) (e0x1 : Bool) (x1 : List Nat) (v2x0 : AVal) (h : AHeap) (Q : QT) (ht :
 letH (h ++ [.cells t_impl_World [.slice a0x0 n0x0 c0x0 e0x0, .slice a0x1 n0x1 c0x1 e0x1] false]) fun h_0 => letH (h_0 ++ [.cells t_int [] false]) fun h_1 => xSl (hCell h_1 (.ptr (some (List.length h, 0 + 1)))) fun a_2 n_3 c_4 e_5 => L3 Q x1 v2x0 (some (List.length h_0, 0)) 0 0 true a_2 n_3 c_4 e_5 (((n_3 : Nat) : Int)) 0 h_1) : SCall pg n_impl_among [.agg [.slice a0x0 n0x0 c0x0 e0x0, .slice a0x1 n0x1 c0x1 e0x1], .str x1, .fn n_impl_candidates_lit1 [v2x0]] h Q :=
  SCall.of_body kp (c := cod fn) (fn := fn) Go.Proofs.Tryz.func88 (by kernel_rfl) (by kernel_rfl) (Nat.le_of_ble_eq_true (by kernel_rfl))
    (@cast _ (den pg fn.ntmps kp (cod fn) (Env.args 0 [.agg [.slice a0x0 n0x0 c0x0 e0x0, .slice a0x1 n0x1 c0x1 e0x1], .str x1, .fn n_impl_candidates_lit1 [v2x0]]) h (KR Q)) (by kernel_rfl) ht)
end F_impl_among__impl_candidates_lit1
/-! Function loop.example/instancesearch/impl.candidates -/
namespace F_impl_candidates
noncomputable abbrev fn : Func := Go.Proofs.Tryz.f51
def kp : Keeps := []
noncomputable def C (p : List Nat) : Code := (cod fn).sub p
def KR (Q : QT) : KT := retA pg fn.results.toList Q
theorem call (a0x0 : Pt) (n0x0 c0x0 : Nat) (e0x0 : Bool) (a0x1 : Pt) (n0x1 c0x1 : Nat) (e0x1 : Bool) (x1x0 x1x1 : List Nat) (h : AHeap) (Q : QT) (ht :
 letH (h ++ [.cells t_impl_World [.slice a0x0 n0x0 c0x0 e0x0, .slice a0x1 n0x1 c0x1 e0x1] false]) fun h_0 => letH (h_0 ++ [.cells t_impl_Need [.str x1x0, .str x1x1] false]) fun h_1 => xRow (hRow h_1 (.ptr (some (List.length h, 0))) 2) fun cs_2 => xCons cs_2 fun c_3 r_4 => xSl (some c_3) fun a_5 n_6 c_7 e_8 => xCons r_4 fun c_9 r_10 => xSl (some c_9) fun a_11 n_12 c_13 e_14 => xNil r_10 (xStr (hCell h_1 (.ptr (some (List.length h_0, 0 + 0)))) fun s_15 => SCall pg n_impl_among [.agg [.slice a_5 n_6 c_7 e_8, .slice a_11 n_12 c_13 e_14], .str s_15, .fn n_impl_candidates_lit1 [.ptr (some (List.length h_0, 0))]] h_1 fun v_16 h_17 =>
 xSl (some v_16) fun a_18 n_19 c_20 e_21 => Q (.slice a_18 n_19 c_20 e_21) h_17)) : SCall pg n_impl_candidates [.agg [.slice a0x0 n0x0 c0x0 e0x0, .slice a0x1 n0x1 c0x1 e0x1], .agg [.str x1x0, .str x1x1]] h Q :=
  SCall.of_body kp (c := cod fn) (fn := fn) Go.Proofs.Tryz.func51 (by kernel_rfl) (by kernel_rfl) (Nat.le_of_ble_eq_true (by kernel_rfl))
    (@cast _ (den pg fn.ntmps kp (cod fn) (Env.args 0 [.agg [.slice a0x0 n0x0 c0x0 e0x0, .slice a0x1 n0x1 c0x1 e0x1], .agg [.str x1x0, .str x1x1]]) h (KR Q)) (by kernel_rfl) ht)
end F_impl_candidates
/-! Function loop.example/instancesearch/impl.CandidatesOf -/
namespace F_impl_CandidatesOf
noncomputable abbrev fn : Func := Go.Proofs.Tryz.f15
def kp : Keeps := []
noncomputable def C (p : List Nat) : Code := (cod fn).sub p
def KR (Q : QT) : KT := retA pg fn.results.toList Q
theorem call (a0x0 : Pt) (n0x0 c0x0 : Nat) (e0x0 : Bool) (a0x1 : Pt) (n0x1 c0x1 : Nat) (e0x1 : Bool) (x1x0 x1x1 : List Nat) (h : AHeap) (Q : QT) (ht :
 letH (h ++ [.cells t_impl_World [.slice a0x0 n0x0 c0x0 e0x0, .slice a0x1 n0x1 c0x1 e0x1] false]) fun h_0 => letH (h_0 ++ [.cells t_impl_Need [.str x1x0, .str x1x1] false]) fun h_1 => xRow (hRow h_1 (.ptr (some (List.length h, 0))) 2) fun cs_2 => xCons cs_2 fun c_3 r_4 => xSl (some c_3) fun a_5 n_6 c_7 e_8 => xCons r_4 fun c_9 r_10 => xSl (some c_9) fun a_11 n_12 c_13 e_14 => xNil r_10 (xRow (hRow h_1 (.ptr (some (List.length h_0, 0))) 2) fun cs_15 => xCons cs_15 fun c_16 r_17 => xStr (some c_16) fun s_18 => xCons r_17 fun c_19 r_20 => xStr (some c_19) fun s_21 => xNil r_20 (SCall pg n_impl_NeedValid [.agg [.slice a_5 n_6 c_7 e_8, .slice a_11 n_12 c_13 e_14], .agg [.str s_18, .str s_21]] h_1 fun v_22 h_23 =>
 xBool (some v_22) fun b_24 => bcase (!b_24) (Q (.tup [.slice none 0 0 true, .bool false]) h_23) (xRow (hRow h_23 (.ptr (some (List.length h, 0))) 2) fun cs_25 => xCons cs_25 fun c_26 r_27 => xSl (some c_26) fun a_28 n_29 c_30 e_31 => xCons r_27 fun c_32 r_33 => xSl (some c_32) fun a_34 n_35 c_36 e_37 => xNil r_33 (xRow (hRow h_23 (.ptr (some (List.length h_0, 0))) 2) fun cs_38 => xCons cs_38 fun c_39 r_40 => xStr (some c_39) fun s_41 => xCons r_40 fun c_42 r_43 => xStr (some c_42) fun s_44 => xNil r_43 (SCall pg n_impl_candidates [.agg [.slice a_28 n_29 c_30 e_31, .slice a_34 n_35 c_36 e_37], .agg [.str s_41, .str s_44]] h_23 fun v_45 h_46 =>
 xSl (some v_45) fun a_47 n_48 c_49 e_50 => Q (.tup [.slice a_47 n_48 c_49 e_50, .bool true]) h_46)))))) : SCall pg n_impl_CandidatesOf [.agg [.slice a0x0 n0x0 c0x0 e0x0, .slice a0x1 n0x1 c0x1 e0x1], .agg [.str x1x0, .str x1x1]] h Q :=
  SCall.of_body kp (c := cod fn) (fn := fn) Go.Proofs.Tryz.func15 (by kernel_rfl) (by kernel_rfl) (Nat.le_of_ble_eq_true (by kernel_rfl))
    (@cast _ (den pg fn.ntmps kp (cod fn) (Env.args 0 [.agg [.slice a0x0 n0x0 c0x0 e0x0, .slice a0x1 n0x1 c0x1 e0x1], .agg [.str x1x0, .str x1x1]]) h (KR Q)) (by kernel_rfl) ht)
end F_impl_CandidatesOf
/-! Function loop.example/instancesearch/spec.l4Candidates -/
namespace F_spec_l4Candidates
noncomputable abbrev fn : Func := Go.Proofs.Tryz.f54
def kp : Keeps := [(3000003, [5]), (1000003, [3, 5, 10, 11, 12]), (4000007, [12, 11, 10, 3, 5])]
noncomputable def C (p : List Nat) : Code := (cod fn).sub p
def KR (Q : QT) : KT := retA pg fn.results.toList Q
abbrev T3 := Nat → Nat → Pt → Nat → Nat → Bool → Pt → Nat → Nat → Bool → Int → Int → AHeap → Prop
def E3 (R3 : T3) (env : Env) (h : AHeap) : Prop := eVal 3 env fun v env => xPtr (some v) fun a => xSome a fun i3 o3 => eVal 5 env fun v env => xSl (some v) fun a5 n5 c5 e5 => eVal 10 env fun v env => xSl (some v) fun a10 n10 c10 e10 => eVal 11 env fun v env => eInt .i64 v fun x11 => eVal 12 env fun v env => eInt .i64 v fun x12 => eNil env (R3 i3 o3 a5 n5 c5 e5 a10 n10 c10 e10 x11 x12 h)
theorem E3elim {R3 : T3} {env : Env} {h : AHeap} (hi : E3 R3 env h) : ∃ i3, ∃ o3, ∃ a5, ∃ n5, ∃ c5, ∃ e5, ∃ a10, ∃ n10, ∃ c10, ∃ e10, ∃ x11, ∃ x12, env = [(3, .ptr (some (i3, o3))), (5, .slice a5 n5 c5 e5), (10, .slice a10 n10 c10 e10), (11, .int .i64 x11), (12, .int .i64 x12)] ∧ R3 i3 o3 a5 n5 c5 e5 a10 n10 c10 e10 x11 x12 h := by
  unfold E3 at hi
  have hi0 := hi
  clear hi
  obtain ⟨v, env, rfl, hi1⟩ := eVal_elim hi0
  obtain ⟨a, rfl, hi2⟩ := xPtr_elim hi1
  obtain ⟨i3, o3, rfl, hi3⟩ := xSome_elim hi2
  obtain ⟨v, env, rfl, hi4⟩ := eVal_elim hi3
  obtain ⟨a5, n5, c5, e5, rfl, hi5⟩ := xSl_elim hi4
  obtain ⟨v, env, rfl, hi6⟩ := eVal_elim hi5
  obtain ⟨a10, n10, c10, e10, rfl, hi7⟩ := xSl_elim hi6
  obtain ⟨v, env, rfl, hi8⟩ := eVal_elim hi7
  obtain ⟨x11, rfl, hi9⟩ := eInt_elim hi8
  obtain ⟨v, env, rfl, hi10⟩ := eVal_elim hi9
  obtain ⟨x12, rfl, hi11⟩ := eInt_elim hi10
  obtain ⟨rfl, hi12⟩ := eNil_elim hi11
  have hi := hi12
  exact ⟨i3, o3, a5, n5, c5, e5, a10, n10, c10, e10, x11, x12, rfl, hi⟩
def K0 (Q : QT) : KT := andThen (fun env' h' => (match kp.find 4000008 with | some ks => Den pg fn.ntmps (C [1, 1, 1]) (env'.keep ks) h' (KR Q) | none => den pg fn.ntmps kp (C [1, 1, 1]) env' h' (KR Q))) (KR Q)
def K1 (Q : QT) : KT := onExit 0 (K0 Q)
def K2 (Q : QT) : KT := left kp 3 (K1 Q)
def K3 (Q : QT) (R3 : T3) : KT := rnd ((kp.find 1000003).getD []) (E3 R3) (K2 Q)
def L3 (Q : QT) (i3 o3 : Nat) (a5 : Pt) (n5 c5 : Nat) (e5 : Bool) (a10 : Pt) (n10 c10 : Nat) (e10 : Bool) (x11 x12 : Int) (h : AHeap) : Prop := Loop (Den pg fn.ntmps (C [1, 1, 0, 1, 0, 0])) ((kp.find 1000003).getD []) (K2 Q) [(3, .ptr (some (i3, o3))), (5, .slice a5 n5 c5 e5), (10, .slice a10 n10 c10 e10), (11, .int .i64 x11), (12, .int .i64 x12)] h
def J7 (Q : QT) (R3 : T3) (x12 x11 : Int) (a10 : Pt) (n10 c10 : Nat) (e10 : Bool) (i3 o3 : Nat) (a5 : Pt) (n5 c5 : Nat) (e5 : Bool) (h : AHeap) : Prop := Den pg fn.ntmps (C [1, 1, 0, 1, 0, 0, 1, 1, 1]) [(12, .int .i64 x12), (11, .int .i64 x11), (10, .slice a10 n10 c10 e10), (3, .ptr (some (i3, o3))), (5, .slice a5 n5 c5 e5)] h (K3 Q R3)
def A3x0 (Q : QT) (a5 : Pt) (n5 c5 : Nat) (e5 : Bool) (h : AHeap) : Prop := At (K1 Q) (.exit 0) [(5, .slice a5 n5 c5 e5)] h
def L3t (Q : QT) (R3 : T3) (i3 o3 : Nat) (a5 : Pt) (n5 c5 : Nat) (e5 : Bool) (a10 : Pt) (n10 c10 : Nat) (e10 : Bool) (x11 x12 : Int) (h : AHeap) : Prop :=
 bcase (decide ((x12 : Int) < x11)) ((0 ≤ (x12 : Int) ∧ (x12 : Int) < (n10 : Nat)) ∧ (xSome a10 fun i_7 o_8 => xRow (hRow h (.ptr (some (i_7, o_8 + (Int.toNat x12) * 3))) 3) fun cs_9 => xCons cs_9 fun c_10 r_11 => xStr (some c_10) fun s_12 => xCons r_11 fun c_13 r_14 => xStr (some c_13) fun s_15 => xCons r_14 fun c_16 r_17 => xSl (some c_16) fun a_18 n_19 c_20 e_21 => xNil r_17 (letH (h ++ [.cells t_impl_Instance [.str [], .str [], .slice none 0 0 true] false]) fun h_22 => xHeap (hStore h_22 (.ptr (some (List.length h, 0))) [.str s_12, .str s_15, .slice a_18 n_19 c_20 e_21]) fun h_23 => xStr (hCell h_23 (.ptr (some (List.length h, 0 + 0 + 0)))) fun s_24 => xStr (hCell h_23 (.ptr (some (i3, o3 + 0)))) fun s_25 => bcase (decide (s_24 = s_25)) (xStr (hCell h_23 (.ptr (some (List.length h, 0 + 0 + 1)))) fun s_26 => xStr (hCell h_23 (.ptr (some (i3, o3 + 1)))) fun s_27 => SCall pg n_spec_IsInstance [.str s_26, .str s_27] h_23 fun v_28 h_29 =>
 xBool (some v_28) fun b_30 => bcase b_30 (letH (h_29 ++ [.cells t_int [.int .i64 x12] false]) fun h_31 => appendA pg t_L_int h_31 (.slice a5 n5 c5 e5) (.slice (some (List.length h_29, 0)) 1 1 true) fun v_32 h_33 => xSl (some v_32) fun a_34 n_35 c_36 e_37 => J7 Q R3 x12 x11 a10 n10 c10 e10 i3 o3 a_34 n_35 c_36 e_37 h_33) (J7 Q R3 x12 x11 a10 n10 c10 e10 i3 o3 a5 n5 c5 e5 h_29)) (J7 Q R3 x12 x11 a10 n10 c10 e10 i3 o3 a5 n5 c5 e5 h_23)))) (A3x0 Q a5 n5 c5 e5 h)
theorem L3den (Q : QT) (R3 : T3) (i3 o3 : Nat) (a5 : Pt) (n5 c5 : Nat) (e5 : Bool) (a10 : Pt) (n10 c10 : Nat) (e10 : Bool) (x11 x12 : Int) (h : AHeap) (ht : L3t Q R3 i3 o3 a5 n5 c5 e5 a10 n10 c10 e10 x11 x12 h) : Den pg fn.ntmps (C [1, 1, 0, 1, 0, 0]) [(3, .ptr (some (i3, o3))), (5, .slice a5 n5 c5 e5), (10, .slice a10 n10 c10 e10), (11, .int .i64 x11), (12, .int .i64 x12)] h (K3 Q R3) :=
  den_Den (kp := kp) (@cast _ (den pg fn.ntmps kp (C [1, 1, 0, 1, 0, 0]) [(3, .ptr (some (i3, o3))), (5, .slice a5 n5 c5 e5), (10, .slice a10 n10 c10 e10), (11, .int .i64 x11), (12, .int .i64 x12)] h (K3 Q R3)) (by kernel_rfl) ht)
theorem L3ind (Q : QT) (i3 o3 : Nat) (a10 : Pt) (n10 c10 : Nat) (e10 : Bool) (x11 : Int) {G : Type} (J : G → Pt → Nat → Nat → Bool → Int → AHeap → Prop) (m : G → Nat)
 (hr : ∀ (g : G) (a5 : Pt) (n5 c5 : Nat) (e5 : Bool) (x12 : Int) (h : AHeap), J g a5 n5 c5 e5 x12 h → ∀ (R3 : T3), (∀ g' (a5 : Pt) (n5 c5 : Nat) (e5 : Bool) (x12 : Int) (h : AHeap), m g' < m g → J g' a5 n5 c5 e5 x12 h → R3 i3 o3 a5 n5 c5 e5 a10 n10 c10 e10 x11 x12 h) → L3t Q R3 i3 o3 a5 n5 c5 e5 a10 n10 c10 e10 x11 x12 h)
 (g : G) (a5 : Pt) (n5 c5 : Nat) (e5 : Bool) (x12 : Int) (h : AHeap) (hj : J g a5 n5 c5 e5 x12 h) : L3 Q i3 o3 a5 n5 c5 e5 a10 n10 c10 e10 x11 x12 h := by
  refine Loop.inv2 (fun g => E3 fun i3' o3' a5 n5 c5 e5 a10' n10' c10' e10' x11' x12 h => i3 = i3' ∧ o3 = o3' ∧ a10 = a10' ∧ n10 = n10' ∧ c10 = c10' ∧ e10 = e10' ∧ x11 = x11' ∧ J g a5 n5 c5 e5 x12 h) (fun g => E3 fun i3' o3' a5 n5 c5 e5 a10' n10' c10' e10' x11' x12 h => i3 = i3' ∧ o3 = o3' ∧ a10 = a10' ∧ n10 = n10' ∧ c10 = c10' ∧ e10 = e10' ∧ x11 = x11' ∧ ∃ g', m g' < m g ∧ J g' a5 n5 c5 e5 x12 h) m ?_ ?_ g ⟨rfl, rfl, rfl, rfl, rfl, rfl, rfl, hj⟩
  · intro g env h hi
    obtain ⟨i3', o3', a5, n5, c5, e5, a10', n10', c10', e10', x11', x12, rfl, rfl, rfl, rfl, rfl, rfl, rfl, rfl, hj⟩ := E3elim hi
    exact L3den Q (fun i3' o3' a5 n5 c5 e5 a10' n10' c10' e10' x11' x12 h => i3 = i3' ∧ o3 = o3' ∧ a10 = a10' ∧ n10 = n10' ∧ c10 = c10' ∧ e10 = e10' ∧ x11 = x11' ∧ ∃ g', m g' < m g ∧ J g' a5 n5 c5 e5 x12 h) i3 o3 a5 n5 c5 e5 a10 n10 c10 e10 x11 x12 h (hr g a5 n5 c5 e5 x12 h hj (fun i3' o3' a5 n5 c5 e5 a10' n10' c10' e10' x11' x12 h => i3 = i3' ∧ o3 = o3' ∧ a10 = a10' ∧ n10 = n10' ∧ c10 = c10' ∧ e10 = e10' ∧ x11 = x11' ∧ ∃ g', m g' < m g ∧ J g' a5 n5 c5 e5 x12 h) fun g' a5 n5 c5 e5 x12 h hlt hj => ⟨rfl, rfl, rfl, rfl, rfl, rfl, rfl, g', hlt, hj⟩)
  · intro g env h hi
    obtain ⟨i3', o3', a5, n5, c5, e5, a10', n10', c10', e10', x11', x12, rfl, rfl, rfl, rfl, rfl, rfl, rfl, rfl, g', hlt, hj⟩ := E3elim hi
    exact ⟨g', hlt, rfl, rfl, rfl, rfl, rfl, rfl, rfl, hj⟩
theorem J7i (Q : QT) (R3 : T3) (x12 x11 : Int) (a10 : Pt) (n10 c10 : Nat) (e10 : Bool) (i3 o3 : Nat) (a5 : Pt) (n5 c5 : Nat) (e5 : Bool) (h : AHeap) (ht :
 R3 i3 o3 a5 n5 c5 e5 a10 n10 c10 e10 x11 (IntKind.wrap .i64 (x12 + 1)) h) : J7 Q R3 x12 x11 a10 n10 c10 e10 i3 o3 a5 n5 c5 e5 h :=
  den_Den (kp := kp) (@cast _ (den pg fn.ntmps kp (C [1, 1, 0, 1, 0, 0, 1, 1, 1]) [(12, .int .i64 x12), (11, .int .i64 x11), (10, .slice a10 n10 c10 e10), (3, .ptr (some (i3, o3))), (5, .slice a5 n5 c5 e5)] h (K3 Q R3)) (by kernel_rfl) ht)
theorem A3x0i (Q : QT) (a5 : Pt) (n5 c5 : Nat) (e5 : Bool) (h : AHeap) (ht :
 Q (.slice a5 n5 c5 e5) h) : A3x0 Q a5 n5 c5 e5 h :=
  At.mk (@cast _ ((K1 Q) (.exit 0) [(5, .slice a5 n5 c5 e5)] h) (by kernel_rfl) ht)
theorem call (a0x0 : Pt) (n0x0 c0x0 : Nat) (e0x0 : Bool) (a0x1 : Pt) (n0x1 c0x1 : Nat) (e0x1 : Bool) (x1x0 x1x1 : List Nat) (h : AHeap) (Q : QT) (ht :
 letH (h ++ [.cells t_impl_World [.slice a0x0 n0x0 c0x0 e0x0, .slice a0x1 n0x1 c0x1 e0x1] false]) fun h_0 => letH (h_0 ++ [.cells t_impl_Need [.str x1x0, .str x1x1] false]) fun h_1 => letH (h_1 ++ [.cells t_int [] false]) fun h_2 => xSl (hCell h_2 (.ptr (some (List.length h, 0 + 1)))) fun a_3 n_4 c_5 e_6 => L3 Q (List.length h_0) 0 (some (List.length h_1, 0)) 0 0 true a_3 n_4 c_5 e_6 (((n_4 : Nat) : Int)) 0 h_2) : SCall pg n_spec_l4Candidates [.agg [.slice a0x0 n0x0 c0x0 e0x0, .slice a0x1 n0x1 c0x1 e0x1], .agg [.str x1x0, .str x1x1]] h Q :=
  SCall.of_body kp (c := cod fn) (fn := fn) Go.Proofs.Tryz.func54 (by kernel_rfl) (by kernel_rfl) (Nat.le_of_ble_eq_true (by kernel_rfl))
    (@cast _ (den pg fn.ntmps kp (cod fn) (Env.args 0 [.agg [.slice a0x0 n0x0 c0x0 e0x0, .slice a0x1 n0x1 c0x1 e0x1], .agg [.str x1x0, .str x1x1]]) h (KR Q)) (by kernel_rfl) ht)
end F_spec_l4Candidates
/-! Function loop.example/instancesearch/spec.CandidatesOf -/
namespace F_spec_CandidatesOf
noncomputable abbrev fn : Func := Go.Proofs.Tryz.f20
def kp : Keeps := []
noncomputable def C (p : List Nat) : Code := (cod fn).sub p
def KR (Q : QT) : KT := retA pg fn.results.toList Q
theorem call (a0x0 : Pt) (n0x0 c0x0 : Nat) (e0x0 : Bool) (a0x1 : Pt) (n0x1 c0x1 : Nat) (e0x1 : Bool) (x1x0 x1x1 : List Nat) (h : AHeap) (Q : QT) (ht :
 letH (h ++ [.cells t_impl_World [.slice a0x0 n0x0 c0x0 e0x0, .slice a0x1 n0x1 c0x1 e0x1] false]) fun h_0 => letH (h_0 ++ [.cells t_impl_Need [.str x1x0, .str x1x1] false]) fun h_1 => xRow (hRow h_1 (.ptr (some (List.length h, 0))) 2) fun cs_2 => xCons cs_2 fun c_3 r_4 => xSl (some c_3) fun a_5 n_6 c_7 e_8 => xCons r_4 fun c_9 r_10 => xSl (some c_9) fun a_11 n_12 c_13 e_14 => xNil r_10 (xRow (hRow h_1 (.ptr (some (List.length h_0, 0))) 2) fun cs_15 => xCons cs_15 fun c_16 r_17 => xStr (some c_16) fun s_18 => xCons r_17 fun c_19 r_20 => xStr (some c_19) fun s_21 => xNil r_20 (SCall pg n_spec_NeedValid [.agg [.slice a_5 n_6 c_7 e_8, .slice a_11 n_12 c_13 e_14], .agg [.str s_18, .str s_21]] h_1 fun v_22 h_23 =>
 xBool (some v_22) fun b_24 => bcase (!b_24) (letH (h_23 ++ [.cells t_int [] false]) fun h_25 => Q (.tup [.slice (some (List.length h_23, 0)) 0 0 true, .bool false]) h_25) (xRow (hRow h_23 (.ptr (some (List.length h, 0))) 2) fun cs_26 => xCons cs_26 fun c_27 r_28 => xSl (some c_27) fun a_29 n_30 c_31 e_32 => xCons r_28 fun c_33 r_34 => xSl (some c_33) fun a_35 n_36 c_37 e_38 => xNil r_34 (xRow (hRow h_23 (.ptr (some (List.length h_0, 0))) 2) fun cs_39 => xCons cs_39 fun c_40 r_41 => xStr (some c_40) fun s_42 => xCons r_41 fun c_43 r_44 => xStr (some c_43) fun s_45 => xNil r_44 (SCall pg n_spec_l4Candidates [.agg [.slice a_29 n_30 c_31 e_32, .slice a_35 n_36 c_37 e_38], .agg [.str s_42, .str s_45]] h_23 fun v_46 h_47 =>
 xSl (some v_46) fun a_48 n_49 c_50 e_51 => Q (.tup [.slice a_48 n_49 c_50 e_51, .bool true]) h_47)))))) : SCall pg n_spec_CandidatesOf [.agg [.slice a0x0 n0x0 c0x0 e0x0, .slice a0x1 n0x1 c0x1 e0x1], .agg [.str x1x0, .str x1x1]] h Q :=
  SCall.of_body kp (c := cod fn) (fn := fn) Go.Proofs.Tryz.func20 (by kernel_rfl) (by kernel_rfl) (Nat.le_of_ble_eq_true (by kernel_rfl))
    (@cast _ (den pg fn.ntmps kp (cod fn) (Env.args 0 [.agg [.slice a0x0 n0x0 c0x0 e0x0, .slice a0x1 n0x1 c0x1 e0x1], .agg [.str x1x0, .str x1x1]]) h (KR Q)) (by kernel_rfl) ht)
end F_spec_CandidatesOf
end Go.Sim
