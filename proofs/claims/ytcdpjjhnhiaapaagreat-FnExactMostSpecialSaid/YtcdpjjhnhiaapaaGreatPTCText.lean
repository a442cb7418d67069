/- A part of the proof of a statement of this seat: see the text that holds the theorem. No condition. -/
import Derived.Test.YtcdpjjhnhiaapaaGreatNm
set_option linter.unusedVariables false
set_option linter.unusedSimpArgs false
set_option linter.all false
/- Printed by wip/tool: what the functions' bodies do, in the words of 'den'. -/
set_option maxRecDepth 100000
set_option linter.unusedVariables false
namespace Go.Sim
open Go Go.RowKit
/-! Function loop.example/instancesearch/impl.special -/
namespace F_impl_special
noncomputable abbrev fn : Func := Go.Proofs.Tryz.f40
def kp : Keeps := []
noncomputable def C (p : List Nat) : Code := (cod fn).sub p
def KR (Q : QT) : KT := retA pg fn.results.toList Q
theorem call (x0x0 x0x1 : List Nat) (a0x2 : Pt) (n0x2 c0x2 : Nat) (e0x2 : Bool) (x1x0 x1x1 : List Nat) (a1x2 : Pt) (n1x2 c1x2 : Nat) (e1x2 : Bool) (h : AHeap) (Q : QT) (ht :
 letH (h ++ [.cells t_impl_Instance [.str x0x0, .str x0x1, .slice a0x2 n0x2 c0x2 e0x2] false]) fun h_0 => letH (h_0 ++ [.cells t_impl_Instance [.str x1x0, .str x1x1, .slice a1x2 n1x2 c1x2 e1x2] false]) fun h_1 => xStr (hCell h_1 (.ptr (some (List.length h, 0 + 0 + 0)))) fun s_2 => xStr (hCell h_1 (.ptr (some (List.length h_0, 0 + 0 + 0)))) fun s_3 => bcase (decide (s_2 = s_3)) (xStr (hCell h_1 (.ptr (some (List.length h_0, 0 + 0 + 1)))) fun s_4 => xStr (hCell h_1 (.ptr (some (List.length h, 0 + 0 + 1)))) fun s_5 => SCall pg n_impl_IsInstance [.str s_4, .str s_5] h_1 fun v_6 h_7 =>
 xBool (some v_6) fun b_8 => Q (.bool b_8) h_7) (Q (.bool false) h_1)) : SCall pg n_impl_special [.agg [.str x0x0, .str x0x1, .slice a0x2 n0x2 c0x2 e0x2], .agg [.str x1x0, .str x1x1, .slice a1x2 n1x2 c1x2 e1x2]] h Q :=
  SCall.of_body kp (c := cod fn) (fn := fn) Go.Proofs.Tryz.func40 (by kernel_rfl) (by kernel_rfl) (Nat.le_of_ble_eq_true (by kernel_rfl))
    (@cast _ (den pg fn.ntmps kp (cod fn) (Env.args 0 [.agg [.str x0x0, .str x0x1, .slice a0x2 n0x2 c0x2 e0x2], .agg [.str x1x0, .str x1x1, .slice a1x2 n1x2 c1x2 e1x2]]) h (KR Q)) (by kernel_rfl) ht)
end F_impl_special
/-! Function loop.example/instancesearch/impl.IsSpecial -/
namespace F_impl_IsSpecial
noncomputable abbrev fn : Func := Go.Proofs.Tryz.f11
def kp : Keeps := [(2000002, [6])]
noncomputable def C (p : List Nat) : Code := (cod fn).sub p
def KR (Q : QT) : KT := retA pg fn.results.toList Q
theorem call (a0x0 : Pt) (n0x0 c0x0 : Nat) (e0x0 : Bool) (a0x1 : Pt) (n0x1 c0x1 : Nat) (e0x1 : Bool) (x1 x2 : Int) (h : AHeap) (Q : QT) (ht :
 letH (h ++ [.cells t_impl_World [.slice a0x0 n0x0 c0x0 e0x0, .slice a0x1 n0x1 c0x1 e0x1] false]) fun h_0 => xSl (hCell h_0 (.ptr (some (List.length h, 0 + 1)))) fun a_1 n_2 c_3 e_4 => xRow (hRow h_0 (.ptr (some (List.length h, 0))) 2) fun cs_5 => xCons cs_5 fun c_6 r_7 => xSl (some c_6) fun a_8 n_9 c_10 e_11 => xCons r_7 fun c_12 r_13 => xSl (some c_12) fun a_14 n_15 c_16 e_17 => xNil r_13 (SCall pg n_impl_WorldValid [.agg [.slice a_8 n_9 c_10 e_11, .slice a_14 n_15 c_16 e_17]] h_0 fun v_18 h_19 =>
 xBool (some v_18) fun b_20 => bcase b_20 (bcase (decide ((x1 : Int) ≥ 0)) (bcase (decide ((x1 : Int) < (((n_2 : Nat) : Int)))) (bcase (decide ((x2 : Int) ≥ 0)) (bcase (decide ((x2 : Int) < (((n_2 : Nat) : Int)))) (xSl (hCell h_19 (.ptr (some (List.length h, 0 + 1)))) fun a_21 n_22 c_23 e_24 => (0 ≤ (x1 : Int) ∧ (x1 : Int) < (n_22 : Nat)) ∧ (xSome a_21 fun i_25 o_26 => xRow (hRow h_19 (.ptr (some (i_25, o_26 + (Int.toNat x1) * 3))) 3) fun cs_27 => xCons cs_27 fun c_28 r_29 => xStr (some c_28) fun s_30 => xCons r_29 fun c_31 r_32 => xStr (some c_31) fun s_33 => xCons r_32 fun c_34 r_35 => xSl (some c_34) fun a_36 n_37 c_38 e_39 => xNil r_35 (xSl (hCell h_19 (.ptr (some (List.length h, 0 + 1)))) fun a_40 n_41 c_42 e_43 => (hRow h_19 (.ptr (some (i_25, o_26 + (Int.toNat x1) * 3))) 3 = hRow h_19 (.ptr (some (i_25, o_26 + (Int.toNat x1) * 3))) 3) ∧ (hCell h_19 (.ptr (some (List.length h, 0 + 1))) = hCell h_19 (.ptr (some (List.length h, 0 + 1)))) ∧ (0 ≤ (x2 : Int) ∧ (x2 : Int) < (n_41 : Nat)) ∧ (xSome a_40 fun i_44 o_45 => xRow (hRow h_19 (.ptr (some (i_44, o_45 + (Int.toNat x2) * 3))) 3) fun cs_46 => xCons cs_46 fun c_47 r_48 => xStr (some c_47) fun s_49 => xCons r_48 fun c_50 r_51 => xStr (some c_50) fun s_52 => xCons r_51 fun c_53 r_54 => xSl (some c_53) fun a_55 n_56 c_57 e_58 => xNil r_54 ((hRow h_19 (.ptr (some (i_25, o_26 + (Int.toNat x1) * 3))) 3 = hRow h_19 (.ptr (some (i_25, o_26 + (Int.toNat x1) * 3))) 3) ∧ (hCell h_19 (.ptr (some (List.length h, 0 + 1))) = hCell h_19 (.ptr (some (List.length h, 0 + 1)))) ∧ SCall pg n_impl_special [.agg [.str s_30, .str s_33, .slice a_36 n_37 c_38 e_39], .agg [.str s_49, .str s_52, .slice a_55 n_56 c_57 e_58]] h_19 fun v_59 h_60 =>
 xBool (some v_59) fun b_61 => (hCell h_60 (.ptr (some (List.length h, 0 + 1))) = hCell h_19 (.ptr (some (List.length h, 0 + 1)))) ∧ Q (.bool b_61) h_60))))) ((hRow h_19 (.tup []) 3 = hRow h_19 (.tup []) 3) ∧ (hCell h_19 (.tup []) = hCell h_19 (.tup [])) ∧ (hRow h_19 (.tup []) 3 = hRow h_19 (.tup []) 3) ∧ (hCell h_19 (.tup []) = hCell h_19 (.tup [])) ∧ (hCell h_19 (.tup []) = hCell h_19 (.tup [])) ∧ Q (.bool false) h_19)) ((hRow h_19 (.tup []) 3 = hRow h_19 (.tup []) 3) ∧ (hCell h_19 (.tup []) = hCell h_19 (.tup [])) ∧ (hRow h_19 (.tup []) 3 = hRow h_19 (.tup []) 3) ∧ (hCell h_19 (.tup []) = hCell h_19 (.tup [])) ∧ (hCell h_19 (.tup []) = hCell h_19 (.tup [])) ∧ Q (.bool false) h_19)) ((hRow h_19 (.tup []) 3 = hRow h_19 (.tup []) 3) ∧ (hCell h_19 (.tup []) = hCell h_19 (.tup [])) ∧ (hRow h_19 (.tup []) 3 = hRow h_19 (.tup []) 3) ∧ (hCell h_19 (.tup []) = hCell h_19 (.tup [])) ∧ (hCell h_19 (.tup []) = hCell h_19 (.tup [])) ∧ Q (.bool false) h_19)) ((hRow h_19 (.tup []) 3 = hRow h_19 (.tup []) 3) ∧ (hCell h_19 (.tup []) = hCell h_19 (.tup [])) ∧ (hRow h_19 (.tup []) 3 = hRow h_19 (.tup []) 3) ∧ (hCell h_19 (.tup []) = hCell h_19 (.tup [])) ∧ (hCell h_19 (.tup []) = hCell h_19 (.tup [])) ∧ Q (.bool false) h_19)) ((hRow h_19 (.tup []) 3 = hRow h_19 (.tup []) 3) ∧ (hCell h_19 (.tup []) = hCell h_19 (.tup [])) ∧ (hRow h_19 (.tup []) 3 = hRow h_19 (.tup []) 3) ∧ (hCell h_19 (.tup []) = hCell h_19 (.tup [])) ∧ (hCell h_19 (.tup []) = hCell h_19 (.tup [])) ∧ Q (.bool false) h_19))) : SCall pg n_impl_IsSpecial [.agg [.slice a0x0 n0x0 c0x0 e0x0, .slice a0x1 n0x1 c0x1 e0x1], .int .i64 x1, .int .i64 x2] h Q :=
  SCall.of_body kp (c := cod fn) (fn := fn) Go.Proofs.Tryz.func11 (by kernel_rfl) (by kernel_rfl) (Nat.le_of_ble_eq_true (by kernel_rfl))
    (@cast _ (den pg fn.ntmps kp (cod fn) (Env.args 0 [.agg [.slice a0x0 n0x0 c0x0 e0x0, .slice a0x1 n0x1 c0x1 e0x1], .int .i64 x1, .int .i64 x2]) h (KR Q)) (by kernel_rfl) ht)
end F_impl_IsSpecial
/-! Function loop.example/instancesearch/spec.IsSpecial -/
namespace F_spec_IsSpecial
noncomputable abbrev fn : Func := Go.Proofs.Tryz.f9
def kp : Keeps := [(4000003, [3, 1, 2]), (2000003, [6])]
noncomputable def C (p : List Nat) : Code := (cod fn).sub p
def KR (Q : QT) : KT := retA pg fn.results.toList Q
def J3 (Q : QT) (i3 o3 : Nat) (x1 x2 : Int) (h : AHeap) : Prop := Den pg fn.ntmps (C [1, 1]) [(3, .ptr (some (i3, o3))), (1, .int .i64 x1), (2, .int .i64 x2)] h (KR Q)
theorem J3i (Q : QT) (i3 o3 : Nat) (x1 x2 : Int) (h : AHeap) (ht :
 xSl (hCell h (.ptr (some (i3, o3 + 1)))) fun a_31 n_32 c_33 e_34 => (0 ≤ (x1 : Int) ∧ (x1 : Int) < (n_32 : Nat)) ∧ (xSome a_31 fun i_35 o_36 => xStr (hCell h (.ptr (some (i_35, o_36 + (Int.toNat x1) * 3 + 0 + 0)))) fun s_37 => xSl (hCell h (.ptr (some (i3, o3 + 1)))) fun a_38 n_39 c_40 e_41 => (hCell h (.ptr (some (i_35, o_36 + (Int.toNat x1) * 3 + 0 + 0))) = hCell h (.ptr (some (i_35, o_36 + (Int.toNat x1) * 3 + 0 + 0)))) ∧ (hCell h (.ptr (some (i3, o3 + 1))) = hCell h (.ptr (some (i3, o3 + 1)))) ∧ (0 ≤ (x2 : Int) ∧ (x2 : Int) < (n_39 : Nat)) ∧ (xSome a_38 fun i_42 o_43 => xStr (hCell h (.ptr (some (i_42, o_43 + (Int.toNat x2) * 3 + 0 + 0)))) fun s_44 => (hCell h (.ptr (some (i_35, o_36 + (Int.toNat x1) * 3 + 0 + 0))) = hCell h (.ptr (some (i_35, o_36 + (Int.toNat x1) * 3 + 0 + 0)))) ∧ (hCell h (.ptr (some (i3, o3 + 1))) = hCell h (.ptr (some (i3, o3 + 1)))) ∧ bcase (decide (s_37 = s_44)) (xSl (hCell h (.ptr (some (i3, o3 + 1)))) fun a_45 n_46 c_47 e_48 => (0 ≤ (x2 : Int) ∧ (x2 : Int) < (n_46 : Nat)) ∧ (xSome a_45 fun i_49 o_50 => xStr (hCell h (.ptr (some (i_49, o_50 + (Int.toNat x2) * 3 + 0 + 1)))) fun s_51 => xSl (hCell h (.ptr (some (i3, o3 + 1)))) fun a_52 n_53 c_54 e_55 => (hCell h (.ptr (some (i_49, o_50 + (Int.toNat x2) * 3 + 0 + 1))) = hCell h (.ptr (some (i_49, o_50 + (Int.toNat x2) * 3 + 0 + 1)))) ∧ (hCell h (.ptr (some (i3, o3 + 1))) = hCell h (.ptr (some (i3, o3 + 1)))) ∧ (hCell h (.ptr (some (i_35, o_36 + (Int.toNat x1) * 3 + 0 + 0))) = hCell h (.ptr (some (i_35, o_36 + (Int.toNat x1) * 3 + 0 + 0)))) ∧ (hCell h (.ptr (some (i3, o3 + 1))) = hCell h (.ptr (some (i3, o3 + 1)))) ∧ (0 ≤ (x1 : Int) ∧ (x1 : Int) < (n_53 : Nat)) ∧ (xSome a_52 fun i_56 o_57 => xStr (hCell h (.ptr (some (i_56, o_57 + (Int.toNat x1) * 3 + 0 + 1)))) fun s_58 => (hCell h (.ptr (some (i_49, o_50 + (Int.toNat x2) * 3 + 0 + 1))) = hCell h (.ptr (some (i_49, o_50 + (Int.toNat x2) * 3 + 0 + 1)))) ∧ (hCell h (.ptr (some (i3, o3 + 1))) = hCell h (.ptr (some (i3, o3 + 1)))) ∧ (hCell h (.ptr (some (i_35, o_36 + (Int.toNat x1) * 3 + 0 + 0))) = hCell h (.ptr (some (i_35, o_36 + (Int.toNat x1) * 3 + 0 + 0)))) ∧ (hCell h (.ptr (some (i3, o3 + 1))) = hCell h (.ptr (some (i3, o3 + 1)))) ∧ SCall pg n_spec_IsInstance [.str s_51, .str s_58] h fun v_59 h_60 =>
 xBool (some v_59) fun b_61 => (hCell h_60 (.ptr (some (i3, o3 + 1))) = hCell h (.ptr (some (i3, o3 + 1)))) ∧ (hCell h_60 (.ptr (some (i_35, o_36 + (Int.toNat x1) * 3 + 0 + 0))) = hCell h (.ptr (some (i_35, o_36 + (Int.toNat x1) * 3 + 0 + 0)))) ∧ (hCell h_60 (.ptr (some (i3, o3 + 1))) = hCell h (.ptr (some (i3, o3 + 1)))) ∧ Q (.bool b_61) h_60))) ((hCell h (.tup []) = hCell h (.tup [])) ∧ (hCell h (.tup []) = hCell h (.tup [])) ∧ (hCell h (.ptr (some (i_35, o_36 + (Int.toNat x1) * 3 + 0 + 0))) = hCell h (.ptr (some (i_35, o_36 + (Int.toNat x1) * 3 + 0 + 0)))) ∧ (hCell h (.ptr (some (i3, o3 + 1))) = hCell h (.ptr (some (i3, o3 + 1)))) ∧ (hCell h (.tup []) = hCell h (.tup [])) ∧ (hCell h (.tup []) = hCell h (.tup [])) ∧ (hCell h (.ptr (some (i_35, o_36 + (Int.toNat x1) * 3 + 0 + 0))) = hCell h (.ptr (some (i_35, o_36 + (Int.toNat x1) * 3 + 0 + 0)))) ∧ (hCell h (.ptr (some (i3, o3 + 1))) = hCell h (.ptr (some (i3, o3 + 1)))) ∧ (hCell h (.tup []) = hCell h (.tup [])) ∧ (hCell h (.ptr (some (i_35, o_36 + (Int.toNat x1) * 3 + 0 + 0))) = hCell h (.ptr (some (i_35, o_36 + (Int.toNat x1) * 3 + 0 + 0)))) ∧ (hCell h (.ptr (some (i3, o3 + 1))) = hCell h (.ptr (some (i3, o3 + 1)))) ∧ Q (.bool false) h)))) : J3 Q i3 o3 x1 x2 h :=
  den_Den (kp := kp) (@cast _ (den pg fn.ntmps kp (C [1, 1]) [(3, .ptr (some (i3, o3))), (1, .int .i64 x1), (2, .int .i64 x2)] h (KR Q)) (by kernel_rfl) ht)
theorem call (a0x0 : Pt) (n0x0 c0x0 : Nat) (e0x0 : Bool) (a0x1 : Pt) (n0x1 c0x1 : Nat) (e0x1 : Bool) (x1 x2 : Int) (h : AHeap) (Q : QT) (ht :
 letH (h ++ [.cells t_impl_World [.slice a0x0 n0x0 c0x0 e0x0, .slice a0x1 n0x1 c0x1 e0x1] false]) fun h_0 => xRow (hRow h_0 (.ptr (some (List.length h, 0))) 2) fun cs_1 => xCons cs_1 fun c_2 r_3 => xSl (some c_2) fun a_4 n_5 c_6 e_7 => xCons r_3 fun c_8 r_9 => xSl (some c_8) fun a_10 n_11 c_12 e_13 => xNil r_9 (SCall pg n_spec_WorldValid [.agg [.slice a_4 n_5 c_6 e_7, .slice a_10 n_11 c_12 e_13]] h_0 fun v_14 h_15 =>
 xBool (some v_14) fun b_16 => bcase (!b_16) (Q (.bool false) h_15) (xSl (hCell h_15 (.ptr (some (List.length h, 0 + 1)))) fun a_17 n_18 c_19 e_20 => SCall pg n_spec_l1In [.int .i64 x1, .int .i64 0, .int .i64 (IntKind.wrap .i64 ((((n_18 : Nat) : Int)) - 1))] h_15 fun v_21 h_22 =>
 xBool (some v_21) fun b_23 => bcase (!b_23) (Q (.bool false) h_22) (xSl (hCell h_22 (.ptr (some (List.length h, 0 + 1)))) fun a_24 n_25 c_26 e_27 => SCall pg n_spec_l1In [.int .i64 x2, .int .i64 0, .int .i64 (IntKind.wrap .i64 ((((n_25 : Nat) : Int)) - 1))] h_22 fun v_28 h_29 =>
 xBool (some v_28) fun b_30 => bcase (!b_30) (Q (.bool false) h_29) (J3 Q (List.length h) 0 x1 x2 h_29))))) : SCall pg n_spec_IsSpecial [.agg [.slice a0x0 n0x0 c0x0 e0x0, .slice a0x1 n0x1 c0x1 e0x1], .int .i64 x1, .int .i64 x2] h Q :=
  SCall.of_body kp (c := cod fn) (fn := fn) Go.Proofs.Tryz.func9 (by kernel_rfl) (by kernel_rfl) (Nat.le_of_ble_eq_true (by kernel_rfl))
    (@cast _ (den pg fn.ntmps kp (cod fn) (Env.args 0 [.agg [.slice a0x0 n0x0 c0x0 e0x0, .slice a0x1 n0x1 c0x1 e0x1], .int .i64 x1, .int .i64 x2]) h (KR Q)) (by kernel_rfl) ht)
end F_spec_IsSpecial
end Go.Sim

/- Printed by wip/tool: what the functions' bodies do, in the words of 'den'. -/
set_option maxRecDepth 100000
set_option linter.unusedVariables false
namespace Go.Sim
open Go Go.RowKit
/-! Function loop.example/instancesearch/spec.l2Length -/
namespace F_spec_l2Length
noncomputable abbrev fn : Func := Go.Proofs.Tryz.f98
def kp : Keeps := [(3000003, [1, 3]), (1000003, [1, 3, 7, 8, 9]), (4000009, [3])]
noncomputable def C (p : List Nat) : Code := (cod fn).sub p
def KR (Q : QT) : KT := retA pg fn.results.toList Q
abbrev T3 := Nat → Nat → Int → Pt → Nat → Nat → Bool → Int → Int → AHeap → Prop
def E3 (R3 : T3) (env : Env) (h : AHeap) : Prop := eVal 1 env fun v env => xPtr (some v) fun a => xSome a fun i1 o1 => eVal 3 env fun v env => eInt .i64 v fun x3 => eVal 7 env fun v env => xSl (some v) fun a7 n7 c7 e7 => eVal 8 env fun v env => eInt .i64 v fun x8 => eVal 9 env fun v env => eInt .i64 v fun x9 => eNil env (R3 i1 o1 x3 a7 n7 c7 e7 x8 x9 h)
theorem E3elim {R3 : T3} {env : Env} {h : AHeap} (hi : E3 R3 env h) : ∃ i1, ∃ o1, ∃ x3, ∃ a7, ∃ n7, ∃ c7, ∃ e7, ∃ x8, ∃ x9, env = [(1, .ptr (some (i1, o1))), (3, .int .i64 x3), (7, .slice a7 n7 c7 e7), (8, .int .i64 x8), (9, .int .i64 x9)] ∧ R3 i1 o1 x3 a7 n7 c7 e7 x8 x9 h := by
  unfold E3 at hi
  have hi0 := hi
  clear hi
  obtain ⟨v, env, rfl, hi1⟩ := eVal_elim hi0
  obtain ⟨a, rfl, hi2⟩ := xPtr_elim hi1
  obtain ⟨i1, o1, rfl, hi3⟩ := xSome_elim hi2
  obtain ⟨v, env, rfl, hi4⟩ := eVal_elim hi3
  obtain ⟨x3, rfl, hi5⟩ := eInt_elim hi4
  obtain ⟨v, env, rfl, hi6⟩ := eVal_elim hi5
  obtain ⟨a7, n7, c7, e7, rfl, hi7⟩ := xSl_elim hi6
  obtain ⟨v, env, rfl, hi8⟩ := eVal_elim hi7
  obtain ⟨x8, rfl, hi9⟩ := eInt_elim hi8
  obtain ⟨v, env, rfl, hi10⟩ := eVal_elim hi9
  obtain ⟨x9, rfl, hi11⟩ := eInt_elim hi10
  obtain ⟨rfl, hi12⟩ := eNil_elim hi11
  have hi := hi12
  exact ⟨i1, o1, x3, a7, n7, c7, e7, x8, x9, rfl, hi⟩
def K0 (Q : QT) : KT := andThen (fun env' h' => (match kp.find 4000007 with | some ks => Den pg fn.ntmps (C [1, 1, 1]) (env'.keep ks) h' (KR Q) | none => den pg fn.ntmps kp (C [1, 1, 1]) env' h' (KR Q))) (KR Q)
def K1 (Q : QT) : KT := onExit 0 (K0 Q)
def K2 (Q : QT) : KT := left kp 3 (K1 Q)
def K3 (Q : QT) (R3 : T3) : KT := rnd ((kp.find 1000003).getD []) (E3 R3) (K2 Q)
def L3 (Q : QT) (i1 o1 : Nat) (x3 : Int) (a7 : Pt) (n7 c7 : Nat) (e7 : Bool) (x8 x9 : Int) (h : AHeap) : Prop := Loop (Den pg fn.ntmps (C [1, 1, 0, 1, 0, 0])) ((kp.find 1000003).getD []) (K2 Q) [(1, .ptr (some (i1, o1))), (3, .int .i64 x3), (7, .slice a7 n7 c7 e7), (8, .int .i64 x8), (9, .int .i64 x9)] h
def A3x0 (Q : QT) (i1 o1 : Nat) (x3 : Int) (h : AHeap) : Prop := At (K1 Q) (.exit 0) [(1, .ptr (some (i1, o1))), (3, .int .i64 x3)] h
def J9 (Q : QT) (x3 : Int) (h : AHeap) : Prop := Den pg fn.ntmps (C [1, 1, 1, 1]) [(3, .int .i64 x3)] h (KR Q)
def L3t (Q : QT) (R3 : T3) (i1 o1 : Nat) (x3 : Int) (a7 : Pt) (n7 c7 : Nat) (e7 : Bool) (x8 x9 : Int) (h : AHeap) : Prop :=
 bcase (decide ((x9 : Int) < x8)) ((0 ≤ (x9 : Int) ∧ (x9 : Int) < (n7 : Nat)) ∧ (xSome a7 fun i_5 o_6 => xRow (hRow h (.ptr (some (i_5, o_6 + (Int.toNat x9) * 2))) 2) fun cs_7 => xCons cs_7 fun c_8 r_9 => xInt .u8 (some c_8) fun x_10 => xCons r_9 fun c_11 r_12 => xSl (some c_11) fun a_13 n_14 c_15 e_16 => xNil r_12 (letH (h ++ [.cells t_spec_l1Node [.int .u8 0, .slice none 0 0 true] false]) fun h_17 => xHeap (hStore h_17 (.ptr (some (List.length h, 0))) [.int .u8 x_10, .slice a_13 n_14 c_15 e_16]) fun h_18 => xRow (hRow h_18 (.ptr (some (List.length h, 0))) 2) fun cs_19 => xCons cs_19 fun c_20 r_21 => xInt .u8 (some c_20) fun x_22 => xCons r_21 fun c_23 r_24 => xSl (some c_23) fun a_25 n_26 c_27 e_28 => xNil r_24 (SCall pg n_spec_l2Length [.agg [.int .u8 x_22, .slice a_25 n_26 c_27 e_28]] h_18 fun v_29 h_30 =>
 xInt .i64 (some v_29) fun x_31 => R3 i1 o1 (IntKind.wrap .i64 ((IntKind.wrap .i64 (x3 + 1)) + x_31)) a7 n7 c7 e7 x8 (IntKind.wrap .i64 (x9 + 1)) h_30)))) (A3x0 Q i1 o1 x3 h)
theorem L3den (Q : QT) (R3 : T3) (i1 o1 : Nat) (x3 : Int) (a7 : Pt) (n7 c7 : Nat) (e7 : Bool) (x8 x9 : Int) (h : AHeap) (ht : L3t Q R3 i1 o1 x3 a7 n7 c7 e7 x8 x9 h) : Den pg fn.ntmps (C [1, 1, 0, 1, 0, 0]) [(1, .ptr (some (i1, o1))), (3, .int .i64 x3), (7, .slice a7 n7 c7 e7), (8, .int .i64 x8), (9, .int .i64 x9)] h (K3 Q R3) :=
  den_Den (kp := kp) (@cast _ (den pg fn.ntmps kp (C [1, 1, 0, 1, 0, 0]) [(1, .ptr (some (i1, o1))), (3, .int .i64 x3), (7, .slice a7 n7 c7 e7), (8, .int .i64 x8), (9, .int .i64 x9)] h (K3 Q R3)) (by kernel_rfl) ht)
theorem L3ind (Q : QT) (i1 o1 : Nat) (a7 : Pt) (n7 c7 : Nat) (e7 : Bool) (x8 : Int) {G : Type} (J : G → Int → Int → AHeap → Prop) (m : G → Nat)
 (hr : ∀ (g : G) (x3 x9 : Int) (h : AHeap), J g x3 x9 h → ∀ (R3 : T3), (∀ g' (x3 x9 : Int) (h : AHeap), m g' < m g → J g' x3 x9 h → R3 i1 o1 x3 a7 n7 c7 e7 x8 x9 h) → L3t Q R3 i1 o1 x3 a7 n7 c7 e7 x8 x9 h)
 (g : G) (x3 x9 : Int) (h : AHeap) (hj : J g x3 x9 h) : L3 Q i1 o1 x3 a7 n7 c7 e7 x8 x9 h := by
  refine Loop.inv2 (fun g => E3 fun i1' o1' x3 a7' n7' c7' e7' x8' x9 h => i1 = i1' ∧ o1 = o1' ∧ a7 = a7' ∧ n7 = n7' ∧ c7 = c7' ∧ e7 = e7' ∧ x8 = x8' ∧ J g x3 x9 h) (fun g => E3 fun i1' o1' x3 a7' n7' c7' e7' x8' x9 h => i1 = i1' ∧ o1 = o1' ∧ a7 = a7' ∧ n7 = n7' ∧ c7 = c7' ∧ e7 = e7' ∧ x8 = x8' ∧ ∃ g', m g' < m g ∧ J g' x3 x9 h) m ?_ ?_ g ⟨rfl, rfl, rfl, rfl, rfl, rfl, rfl, hj⟩
  · intro g env h hi
    obtain ⟨i1', o1', x3, a7', n7', c7', e7', x8', x9, rfl, rfl, rfl, rfl, rfl, rfl, rfl, rfl, hj⟩ := E3elim hi
    exact L3den Q (fun i1' o1' x3 a7' n7' c7' e7' x8' x9 h => i1 = i1' ∧ o1 = o1' ∧ a7 = a7' ∧ n7 = n7' ∧ c7 = c7' ∧ e7 = e7' ∧ x8 = x8' ∧ ∃ g', m g' < m g ∧ J g' x3 x9 h) i1 o1 x3 a7 n7 c7 e7 x8 x9 h (hr g x3 x9 h hj (fun i1' o1' x3 a7' n7' c7' e7' x8' x9 h => i1 = i1' ∧ o1 = o1' ∧ a7 = a7' ∧ n7 = n7' ∧ c7 = c7' ∧ e7 = e7' ∧ x8 = x8' ∧ ∃ g', m g' < m g ∧ J g' x3 x9 h) fun g' x3 x9 h hlt hj => ⟨rfl, rfl, rfl, rfl, rfl, rfl, rfl, g', hlt, hj⟩)
  · intro g env h hi
    obtain ⟨i1', o1', x3, a7', n7', c7', e7', x8', x9, rfl, rfl, rfl, rfl, rfl, rfl, rfl, rfl, g', hlt, hj⟩ := E3elim hi
    exact ⟨g', hlt, rfl, rfl, rfl, rfl, rfl, rfl, rfl, hj⟩
theorem A3x0i (Q : QT) (i1 o1 : Nat) (x3 : Int) (h : AHeap) (ht :
 xSl (hCell h (.ptr (some (i1, o1 + 1)))) fun a_32 n_33 c_34 e_35 => bcase (decide (((((n_33 : Nat) : Int)) : Int) > 0)) (J9 Q (IntKind.wrap .i64 (x3 + 1)) h) (J9 Q x3 h)) : A3x0 Q i1 o1 x3 h :=
  At.mk (@cast _ ((K1 Q) (.exit 0) [(1, .ptr (some (i1, o1))), (3, .int .i64 x3)] h) (by kernel_rfl) ht)
theorem J9i (Q : QT) (x3 : Int) (h : AHeap) (ht :
 Q (.int .i64 x3) h) : J9 Q x3 h :=
  den_Den (kp := kp) (@cast _ (den pg fn.ntmps kp (C [1, 1, 1, 1]) [(3, .int .i64 x3)] h (KR Q)) (by kernel_rfl) ht)
theorem call (x0x0 : Int) (a0x1 : Pt) (n0x1 c0x1 : Nat) (e0x1 : Bool) (h : AHeap) (Q : QT) (ht :
 letH (h ++ [.cells t_spec_l1Node [.int .u8 x0x0, .slice a0x1 n0x1 c0x1 e0x1] false]) fun h_0 => xSl (hCell h_0 (.ptr (some (List.length h, 0 + 1)))) fun a_1 n_2 c_3 e_4 => L3 Q (List.length h) 0 1 a_1 n_2 c_3 e_4 (((n_2 : Nat) : Int)) 0 h_0) : SCall pg n_spec_l2Length [.agg [.int .u8 x0x0, .slice a0x1 n0x1 c0x1 e0x1]] h Q :=
  SCall.of_body kp (c := cod fn) (fn := fn) Go.Proofs.Tryz.func98 (by kernel_rfl) (by kernel_rfl) (Nat.le_of_ble_eq_true (by kernel_rfl))
    (@cast _ (den pg fn.ntmps kp (cod fn) (Env.args 0 [.agg [.int .u8 x0x0, .slice a0x1 n0x1 c0x1 e0x1]]) h (KR Q)) (by kernel_rfl) ht)
end F_spec_l2Length
/-! Function loop.example/instancesearch/spec.l2Told -/
namespace F_spec_l2Told
noncomputable abbrev fn : Func := Go.Proofs.Tryz.f117
def kp : Keeps := [(3000003, [4, 2, 3]), (1000003, [4, 8, 10]), (2000004, [6, 5, 10, 8, 4]), (4000006, [6, 4, 5, 10, 8]), (2000008, [10, 8, 4]), (4000009, [10, 8, 4])]
noncomputable def C (p : List Nat) : Code := (cod fn).sub p
def KR (Q : QT) : KT := retA pg fn.results.toList Q
abbrev T3 := Pt → Nat → Nat → Bool → Pt → Int → AHeap → Prop
def E3 (R3 : T3) (env : Env) (h : AHeap) : Prop := eVal 4 env fun v env => xSl (some v) fun a4 n4 c4 e4 => eVal 8 env fun v env => xPtr (some v) fun a8 => eVal 10 env fun v env => eInt .i64 v fun x10 => eNil env (R3 a4 n4 c4 e4 a8 x10 h)
theorem E3elim {R3 : T3} {env : Env} {h : AHeap} (hi : E3 R3 env h) : ∃ a4, ∃ n4, ∃ c4, ∃ e4, ∃ a8, ∃ x10, env = [(4, .slice a4 n4 c4 e4), (8, .ptr a8), (10, .int .i64 x10)] ∧ R3 a4 n4 c4 e4 a8 x10 h := by
  unfold E3 at hi
  have hi0 := hi
  clear hi
  obtain ⟨v, env, rfl, hi1⟩ := eVal_elim hi0
  obtain ⟨a4, n4, c4, e4, rfl, hi2⟩ := xSl_elim hi1
  obtain ⟨v, env, rfl, hi3⟩ := eVal_elim hi2
  obtain ⟨a8, rfl, hi4⟩ := xPtr_elim hi3
  obtain ⟨v, env, rfl, hi5⟩ := eVal_elim hi4
  obtain ⟨x10, rfl, hi6⟩ := eInt_elim hi5
  obtain ⟨rfl, hi7⟩ := eNil_elim hi6
  have hi := hi7
  exact ⟨a4, n4, c4, e4, a8, x10, rfl, hi⟩
def K0 (Q : QT) : KT := andThen (fun env' h' => (match kp.find 4000010 with | some ks => Den pg fn.ntmps (C [1, 1, 1]) (env'.keep ks) h' (KR Q) | none => den pg fn.ntmps kp (C [1, 1, 1]) env' h' (KR Q))) (KR Q)
def K1 (Q : QT) : KT := onExit 0 (K0 Q)
def K2 (Q : QT) : KT := left kp 3 (K1 Q)
def K3 (Q : QT) (R3 : T3) : KT := rnd ((kp.find 1000003).getD []) (E3 R3) (K2 Q)
def K4 (Q : QT) (R3 : T3) : KT := andThen (fun env' h' => (match kp.find 4000009 with | some ks => Den pg fn.ntmps (C [1, 1, 0, 1, 0, 0, 1, 1, 1]) (env'.keep ks) h' (K3 Q R3) | none => den pg fn.ntmps kp (C [1, 1, 0, 1, 0, 0, 1, 1, 1]) env' h' (K3 Q R3))) (K3 Q R3)
def K5 (Q : QT) (R3 : T3) : KT := onExit 1 (K4 Q R3)
def L3 (Q : QT) (a4 : Pt) (n4 c4 : Nat) (e4 : Bool) (a8 : Pt) (x10 : Int) (h : AHeap) : Prop := Loop (Den pg fn.ntmps (C [1, 1, 0, 1, 0, 0])) ((kp.find 1000003).getD []) (K2 Q) [(4, .slice a4 n4 c4 e4), (8, .ptr a8), (10, .int .i64 x10)] h
def J9 (Q : QT) (R3 : T3) (x10 : Int) (a8 a4 : Pt) (n4 c4 : Nat) (e4 : Bool) (h : AHeap) : Prop := Den pg fn.ntmps (C [1, 1, 0, 1, 0, 0, 1, 1, 1]) [(10, .int .i64 x10), (8, .ptr a8), (4, .slice a4 n4 c4 e4)] h (K3 Q R3)
def J6 (Q : QT) (R3 : T3) (i6 o6 : Nat) (a4 : Pt) (n4 c4 : Nat) (e4 : Bool) (x5 x10 : Int) (a8 : Pt) (h : AHeap) : Prop := Den pg fn.ntmps (C [1, 1, 0, 1, 0, 0, 1, 1, 0, 0, 1, 1]) [(6, .ptr (some (i6, o6))), (4, .slice a4 n4 c4 e4), (5, .int .i64 x5), (10, .int .i64 x10), (8, .ptr a8)] h (K5 Q R3)
def A3x0 (Q : QT) (a4 : Pt) (n4 c4 : Nat) (e4 : Bool) (h : AHeap) : Prop := At (K1 Q) (.exit 0) [(4, .slice a4 n4 c4 e4), (2, .undef), (3, .undef)] h
def L3t (Q : QT) (R3 : T3) (a4 : Pt) (n4 c4 : Nat) (e4 : Bool) (a8 : Pt) (x10 : Int) (h : AHeap) : Prop :=
 bcase (decide ((x10 : Int) < 12)) (xSome a8 fun i_3 o_4 => (0 ≤ (x10 : Int) ∧ (x10 : Int) < (12 : Nat)) ∧ (xRow (hRow h (.ptr (some (i_3, o_4 + (Int.toNat x10) * 2))) 2) fun cs_5 => xCons cs_5 fun c_6 r_7 => xInt .u8 (some c_6) fun x_8 => xCons r_7 fun c_9 r_10 => xSl (some c_9) fun a_11 n_12 c_13 e_14 => xNil r_10 (letH (h ++ [.cells t_spec_l1Node [.int .u8 0, .slice none 0 0 true] false]) fun h_15 => (hRow h_15 (.ptr (some (i_3, o_4 + (Int.toNat x10) * 2))) 2 = hRow h (.ptr (some (i_3, o_4 + (Int.toNat x10) * 2))) 2) ∧ xHeap (hStore h_15 (.ptr (some (List.length h, 0))) [.int .u8 x_8, .slice a_11 n_12 c_13 e_14]) fun h_16 => xInt .u8 (hCell h_16 (.ptr (some (List.length h, 0 + 0)))) fun x_17 => bcase ((x_17 : Int) == 0) (J9 Q R3 x10 a8 a4 n4 c4 e4 h_16) (bcase (decide ((x10 : Int) ≥ 6)) (J9 Q R3 x10 a8 a4 n4 c4 e4 h_16) (J6 Q R3 (List.length h) 0 a4 n4 c4 e4 x10 x10 a8 h_16))))) (A3x0 Q a4 n4 c4 e4 h)
theorem L3den (Q : QT) (R3 : T3) (a4 : Pt) (n4 c4 : Nat) (e4 : Bool) (a8 : Pt) (x10 : Int) (h : AHeap) (ht : L3t Q R3 a4 n4 c4 e4 a8 x10 h) : Den pg fn.ntmps (C [1, 1, 0, 1, 0, 0]) [(4, .slice a4 n4 c4 e4), (8, .ptr a8), (10, .int .i64 x10)] h (K3 Q R3) :=
  den_Den (kp := kp) (@cast _ (den pg fn.ntmps kp (C [1, 1, 0, 1, 0, 0]) [(4, .slice a4 n4 c4 e4), (8, .ptr a8), (10, .int .i64 x10)] h (K3 Q R3)) (by kernel_rfl) ht)
theorem L3ind (Q : QT) (a8 : Pt) {G : Type} (J : G → Pt → Nat → Nat → Bool → Int → AHeap → Prop) (m : G → Nat)
 (hr : ∀ (g : G) (a4 : Pt) (n4 c4 : Nat) (e4 : Bool) (x10 : Int) (h : AHeap), J g a4 n4 c4 e4 x10 h → ∀ (R3 : T3), (∀ g' (a4 : Pt) (n4 c4 : Nat) (e4 : Bool) (x10 : Int) (h : AHeap), m g' < m g → J g' a4 n4 c4 e4 x10 h → R3 a4 n4 c4 e4 a8 x10 h) → L3t Q R3 a4 n4 c4 e4 a8 x10 h)
 (g : G) (a4 : Pt) (n4 c4 : Nat) (e4 : Bool) (x10 : Int) (h : AHeap) (hj : J g a4 n4 c4 e4 x10 h) : L3 Q a4 n4 c4 e4 a8 x10 h := by
  refine Loop.inv2 (fun g => E3 fun a4 n4 c4 e4 a8' x10 h => a8 = a8' ∧ J g a4 n4 c4 e4 x10 h) (fun g => E3 fun a4 n4 c4 e4 a8' x10 h => a8 = a8' ∧ ∃ g', m g' < m g ∧ J g' a4 n4 c4 e4 x10 h) m ?_ ?_ g ⟨rfl, hj⟩
  · intro g env h hi
    obtain ⟨a4, n4, c4, e4, a8', x10, rfl, rfl, hj⟩ := E3elim hi
    exact L3den Q (fun a4 n4 c4 e4 a8' x10 h => a8 = a8' ∧ ∃ g', m g' < m g ∧ J g' a4 n4 c4 e4 x10 h) a4 n4 c4 e4 a8 x10 h (hr g a4 n4 c4 e4 x10 h hj (fun a4 n4 c4 e4 a8' x10 h => a8 = a8' ∧ ∃ g', m g' < m g ∧ J g' a4 n4 c4 e4 x10 h) fun g' a4 n4 c4 e4 x10 h hlt hj => ⟨rfl, g', hlt, hj⟩)
  · intro g env h hi
    obtain ⟨a4, n4, c4, e4, a8', x10, rfl, rfl, g', hlt, hj⟩ := E3elim hi
    exact ⟨g', hlt, rfl, hj⟩
theorem J9i (Q : QT) (R3 : T3) (x10 : Int) (a8 a4 : Pt) (n4 c4 : Nat) (e4 : Bool) (h : AHeap) (ht :
 R3 a4 n4 c4 e4 a8 (IntKind.wrap .i64 (x10 + 1)) h) : J9 Q R3 x10 a8 a4 n4 c4 e4 h :=
  den_Den (kp := kp) (@cast _ (den pg fn.ntmps kp (C [1, 1, 0, 1, 0, 0, 1, 1, 1]) [(10, .int .i64 x10), (8, .ptr a8), (4, .slice a4 n4 c4 e4)] h (K3 Q R3)) (by kernel_rfl) ht)
theorem J6i (Q : QT) (R3 : T3) (i6 o6 : Nat) (a4 : Pt) (n4 c4 : Nat) (e4 : Bool) (x5 x10 : Int) (a8 : Pt) (h : AHeap) (ht :
 xRow (hRow h (.ptr (some (i6, o6))) 2) fun cs_18 => xCons cs_18 fun c_19 r_20 => xInt .u8 (some c_19) fun x_21 => xCons r_20 fun c_22 r_23 => xSl (some c_22) fun a_24 n_25 c_26 e_27 => xNil r_23 (SCall pg n_spec_l2Length [.agg [.int .u8 x_21, .slice a_24 n_25 c_26 e_27]] h fun v_28 h_29 =>
 xInt .i64 (some v_28) fun x_30 => bcase (decide ((x_30 : Int) > 60)) (letH (h_29 ++ [.cells t_impl_Binding [] false]) fun h_31 => Q (.tup [.slice (some (List.length h_29, 0)) 0 0 true, .bool false]) h_31) ((0 ≤ (x5 : Int) ∧ (x5 : Int) ≤ IntKind.wrap .i64 (x5 + 1) ∧ (IntKind.wrap .i64 (x5 + 1) : Int) ≤ (List.length ([88, 89, 90, 120, 121, 122, 49, 50, 51, 52, 53, 54]) : Nat)) ∧ (xRow (hRow h_29 (.ptr (some (i6, o6))) 2) fun cs_32 => xCons cs_32 fun c_33 r_34 => xInt .u8 (some c_33) fun x_35 => xCons r_34 fun c_36 r_37 => xSl (some c_36) fun a_38 n_39 c_40 e_41 => xNil r_37 (SCall pg n_spec_l1Text [.agg [.int .u8 x_35, .slice a_38 n_39 c_40 e_41]] h_29 fun v_42 h_43 =>
 xStr (some v_42) fun s_44 => letH (h_43 ++ [.cells t_impl_Binding [.str (sub ([88, 89, 90, 120, 121, 122, 49, 50, 51, 52, 53, 54]) x5 (IntKind.wrap .i64 (x5 + 1))), .str s_44] false]) fun h_45 => appendA pg t_L_impl_Binding h_45 (.slice a4 n4 c4 e4) (.slice (some (List.length h_43, 0)) 1 1 true) fun v_46 h_47 => xSl (some v_46) fun a_48 n_49 c_50 e_51 => J9 Q R3 x10 a8 a_48 n_49 c_50 e_51 h_47))))) : J6 Q R3 i6 o6 a4 n4 c4 e4 x5 x10 a8 h :=
  den_Den (kp := kp) (@cast _ (den pg fn.ntmps kp (C [1, 1, 0, 1, 0, 0, 1, 1, 0, 0, 1, 1]) [(6, .ptr (some (i6, o6))), (4, .slice a4 n4 c4 e4), (5, .int .i64 x5), (10, .int .i64 x10), (8, .ptr a8)] h (K5 Q R3)) (by kernel_rfl) ht)
theorem A3x0i (Q : QT) (a4 : Pt) (n4 c4 : Nat) (e4 : Bool) (h : AHeap) (ht :
 Q (.tup [.slice a4 n4 c4 e4, .bool true]) h) : A3x0 Q a4 n4 c4 e4 h :=
  At.mk (@cast _ ((K1 Q) (.exit 0) [(4, .slice a4 n4 c4 e4), (2, .undef), (3, .undef)] h) (by kernel_rfl) ht)
theorem call (a0 : Pt) (h : AHeap) (Q : QT) (ht :
 letH (h ++ [.cells t_impl_Binding [] false]) fun h_0 => xSome a0 fun i_1 o_2 => L3 Q (some (List.length h, 0)) 0 0 true a0 0 h_0) : SCall pg n_spec_l2Told [.ptr a0] h Q :=
  SCall.of_body kp (c := cod fn) (fn := fn) Go.Proofs.Tryz.func117 (by kernel_rfl) (by kernel_rfl) (Nat.le_of_ble_eq_true (by kernel_rfl))
    (@cast _ (den pg fn.ntmps kp (cod fn) (Env.args 0 [.ptr a0]) h (KR Q)) (by kernel_rfl) ht)
end F_spec_l2Told
/-! Function loop.example/instancesearch/spec.MatchType -/
namespace F_spec_MatchType
noncomputable abbrev fn : Func := Go.Proofs.Tryz.f73
def kp : Keeps := [(4000006, [10])]
noncomputable def C (p : List Nat) : Code := (cod fn).sub p
def KR (Q : QT) : KT := retA pg fn.results.toList Q
def J6 (Q : QT) (i10 o10 : Nat) (h : AHeap) : Prop := Den pg fn.ntmps (C [1, 1, 1, 1, 1]) [(10, .ptr (some (i10, o10)))] h (KR Q)
theorem J6i (Q : QT) (i10 o10 : Nat) (h : AHeap) (ht :
 SCall pg n_spec_l2Told [.ptr (some (i10, o10))] h fun v_67 h_68 =>
 xTup v_67 fun cs_69 => xCons cs_69 fun c_70 r_71 => xSl (some c_70) fun a_72 n_73 c_74 e_75 => xCons r_71 fun c_76 r_77 => xBool (some c_76) fun b_78 => xNil r_77 (Q (.tup [.slice a_72 n_73 c_74 e_75, .bool b_78]) h_68)) : J6 Q i10 o10 h :=
  den_Den (kp := kp) (@cast _ (den pg fn.ntmps kp (C [1, 1, 1, 1, 1]) [(10, .ptr (some (i10, o10)))] h (KR Q)) (by kernel_rfl) ht)
theorem call (x0 x1 : List Nat) (h : AHeap) (Q : QT) (ht :
 SCall pg n_spec_l1Read [.str x0] h fun v_0 h_1 =>
 xTup v_0 fun cs_2 => xCons cs_2 fun c_3 r_4 => xAgg c_3 fun cs_5 => xCons cs_5 fun c_6 r_7 => xInt .u8 (some c_6) fun x_8 => xCons r_7 fun c_9 r_10 => xSl (some c_9) fun a_11 n_12 c_13 e_14 => xNil r_10 (xCons r_4 fun c_15 r_16 => xBool (some c_15) fun b_17 => xNil r_16 (letH (h_1 ++ [.cells t_spec_l1Node [.int .u8 0, .slice none 0 0 true] false]) fun h_18 => xHeap (hStore h_18 (.ptr (some (List.length h_1, 0))) [.int .u8 x_8, .slice a_11 n_12 c_13 e_14]) fun h_19 => SCall pg n_spec_l1Read [.str x1] h_19 fun v_20 h_21 =>
 xTup v_20 fun cs_22 => xCons cs_22 fun c_23 r_24 => xAgg c_23 fun cs_25 => xCons cs_25 fun c_26 r_27 => xInt .u8 (some c_26) fun x_28 => xCons r_27 fun c_29 r_30 => xSl (some c_29) fun a_31 n_32 c_33 e_34 => xNil r_30 (xCons r_24 fun c_35 r_36 => xBool (some c_35) fun b_37 => xNil r_36 (letH (h_21 ++ [.cells t_spec_l1Node [.int .u8 0, .slice none 0 0 true] false]) fun h_38 => xHeap (hStore h_38 (.ptr (some (List.length h_21, 0))) [.int .u8 x_28, .slice a_31 n_32 c_33 e_34]) fun h_39 => letH (h_39 ++ [.cells t_spec_l2Map [.int .u8 0, .slice none 0 0 true, .int .u8 0, .slice none 0 0 true, .int .u8 0, .slice none 0 0 true, .int .u8 0, .slice none 0 0 true, .int .u8 0, .slice none 0 0 true, .int .u8 0, .slice none 0 0 true, .int .u8 0, .slice none 0 0 true, .int .u8 0, .slice none 0 0 true, .int .u8 0, .slice none 0 0 true, .int .u8 0, .slice none 0 0 true, .int .u8 0, .slice none 0 0 true, .int .u8 0, .slice none 0 0 true] false]) fun h_40 => bcase (!b_17) (letH (h_40 ++ [.cells t_impl_Binding [] false]) fun h_41 => Q (.tup [.slice (some (List.length h_40, 0)) 0 0 true, .bool false]) h_41) (bcase (!b_37) (letH (h_40 ++ [.cells t_impl_Binding [] false]) fun h_42 => Q (.tup [.slice (some (List.length h_40, 0)) 0 0 true, .bool false]) h_42) (xRow (hRow h_40 (.ptr (some (List.length h_1, 0))) 2) fun cs_43 => xCons cs_43 fun c_44 r_45 => xInt .u8 (some c_44) fun x_46 => xCons r_45 fun c_47 r_48 => xSl (some c_47) fun a_49 n_50 c_51 e_52 => xNil r_48 (xRow (hRow h_40 (.ptr (some (List.length h_21, 0))) 2) fun cs_53 => xCons cs_53 fun c_54 r_55 => xInt .u8 (some c_54) fun x_56 => xCons r_55 fun c_57 r_58 => xSl (some c_57) fun a_59 n_60 c_61 e_62 => xNil r_58 (SCall pg n_spec_l2Match [.ptr (some (List.length h_39, 0)), .agg [.int .u8 x_46, .slice a_49 n_50 c_51 e_52], .agg [.int .u8 x_56, .slice a_59 n_60 c_61 e_62]] h_40 fun v_63 h_64 =>
 xBool (some v_63) fun b_65 => bcase (!b_65) (letH (h_64 ++ [.cells t_impl_Binding [] false]) fun h_66 => Q (.tup [.slice (some (List.length h_64, 0)) 0 0 true, .bool false]) h_66) (J6 Q (List.length h_39) 0 h_64)))))))))) : SCall pg n_spec_MatchType [.str x0, .str x1] h Q :=
  SCall.of_body kp (c := cod fn) (fn := fn) Go.Proofs.Tryz.func73 (by kernel_rfl) (by kernel_rfl) (Nat.le_of_ble_eq_true (by kernel_rfl))
    (@cast _ (den pg fn.ntmps kp (cod fn) (Env.args 0 [.str x0, .str x1]) h (KR Q)) (by kernel_rfl) ht)
end F_spec_MatchType
/-! Function loop.example/instancesearch/spec.IsInstance -/
namespace F_spec_IsInstance
noncomputable abbrev fn : Func := Go.Proofs.Tryz.f37
def kp : Keeps := []
noncomputable def C (p : List Nat) : Code := (cod fn).sub p
def KR (Q : QT) : KT := retA pg fn.results.toList Q
theorem call (x0 x1 : List Nat) (h : AHeap) (Q : QT) (ht :
 SCall pg n_spec_MatchType [.str x0, .str x1] h fun v_0 h_1 =>
 xTup v_0 fun cs_2 => xCons cs_2 fun c_3 r_4 => xSl (some c_3) fun a_5 n_6 c_7 e_8 => xCons r_4 fun c_9 r_10 => xBool (some c_9) fun b_11 => xNil r_10 (Q (.bool b_11) h_1)) : SCall pg n_spec_IsInstance [.str x0, .str x1] h Q :=
  SCall.of_body kp (c := cod fn) (fn := fn) Go.Proofs.Tryz.func37 (by kernel_rfl) (by kernel_rfl) (Nat.le_of_ble_eq_true (by kernel_rfl))
    (@cast _ (den pg fn.ntmps kp (cod fn) (Env.args 0 [.str x0, .str x1]) h (KR Q)) (by kernel_rfl) ht)
end F_spec_IsInstance
end Go.Sim

/- Printed by wip/tool: what the functions' bodies do, in the words of 'den'. -/
set_option maxRecDepth 100000
set_option linter.unusedVariables false
namespace Go.Sim
open Go Go.RowKit
/-! Function loop.example/instancesearch/spec.l2Index -/
namespace F_spec_l2Index
noncomputable abbrev fn : Func := Go.Proofs.Tryz.f129
def kp : Keeps := []
noncomputable def C (p : List Nat) : Code := (cod fn).sub p
def KR (Q : QT) : KT := retA pg fn.results.toList Q
theorem call (x0 : Int) (h : AHeap) (Q : QT) (ht :
 SCall pg n_spec_l13Find [.str ([88, 89, 90, 120, 121, 122, 49, 50, 51, 52, 53, 54]), .int .u8 x0] h fun v_0 h_1 =>
 xInt .i64 (some v_0) fun x_2 => Q (.int .i64 x_2) h_1) : SCall pg n_spec_l2Index [.int .u8 x0] h Q :=
  SCall.of_body kp (c := cod fn) (fn := fn) Go.Proofs.Tryz.func129 (by kernel_rfl) (by kernel_rfl) (Nat.le_of_ble_eq_true (by kernel_rfl))
    (@cast _ (den pg fn.ntmps kp (cod fn) (Env.args 0 [.int .u8 x0]) h (KR Q)) (by kernel_rfl) ht)
end F_spec_l2Index
/-! Function loop.example/instancesearch/spec.l2Match -/
namespace F_spec_l2Match
noncomputable abbrev fn : Func := Go.Proofs.Tryz.f116
def kp : Keeps := [(2000004, []), (2000006, [6]), (3000010, [6]), (1000010, [0, 4, 5, 42, 43]), (2000012, [58, 43, 42, 0, 4, 5])]
noncomputable def C (p : List Nat) : Code := (cod fn).sub p
def KR (Q : QT) : KT := retA pg fn.results.toList Q
abbrev T10 := Pt → Nat → Nat → Nat → Nat → Int → Int → AHeap → Prop
def E10 (R10 : T10) (env : Env) (h : AHeap) : Prop := eVal 0 env fun v env => xPtr (some v) fun a0 => eVal 4 env fun v env => xPtr (some v) fun a => xSome a fun i4 o4 => eVal 5 env fun v env => xPtr (some v) fun a => xSome a fun i5 o5 => eVal 42 env fun v env => eInt .i64 v fun x42 => eVal 43 env fun v env => eInt .i64 v fun x43 => eNil env (R10 a0 i4 o4 i5 o5 x42 x43 h)
theorem E10elim {R10 : T10} {env : Env} {h : AHeap} (hi : E10 R10 env h) : ∃ a0, ∃ i4, ∃ o4, ∃ i5, ∃ o5, ∃ x42, ∃ x43, env = [(0, .ptr a0), (4, .ptr (some (i4, o4))), (5, .ptr (some (i5, o5))), (42, .int .i64 x42), (43, .int .i64 x43)] ∧ R10 a0 i4 o4 i5 o5 x42 x43 h := by
  unfold E10 at hi
  have hi0 := hi
  clear hi
  obtain ⟨v, env, rfl, hi1⟩ := eVal_elim hi0
  obtain ⟨a0, rfl, hi2⟩ := xPtr_elim hi1
  obtain ⟨v, env, rfl, hi3⟩ := eVal_elim hi2
  obtain ⟨a, rfl, hi4⟩ := xPtr_elim hi3
  obtain ⟨i4, o4, rfl, hi5⟩ := xSome_elim hi4
  obtain ⟨v, env, rfl, hi6⟩ := eVal_elim hi5
  obtain ⟨a, rfl, hi7⟩ := xPtr_elim hi6
  obtain ⟨i5, o5, rfl, hi8⟩ := xSome_elim hi7
  obtain ⟨v, env, rfl, hi9⟩ := eVal_elim hi8
  obtain ⟨x42, rfl, hi10⟩ := eInt_elim hi9
  obtain ⟨v, env, rfl, hi11⟩ := eVal_elim hi10
  obtain ⟨x43, rfl, hi12⟩ := eInt_elim hi11
  obtain ⟨rfl, hi13⟩ := eNil_elim hi12
  have hi := hi13
  exact ⟨a0, i4, o4, i5, o5, x42, x43, rfl, hi⟩
def K0 (Q : QT) : KT := andThen (fun env' h' => (match kp.find 4000015 with | some ks => Den pg fn.ntmps (C [1, 1, 1, 1]) (env'.keep ks) h' (KR Q) | none => den pg fn.ntmps kp (C [1, 1, 1, 1]) env' h' (KR Q))) (KR Q)
def K1 (Q : QT) : KT := onExit 0 (K0 Q)
def K2 (Q : QT) : KT := left kp 10 (K1 Q)
def K3 (Q : QT) (R10 : T10) : KT := rnd ((kp.find 1000010).getD []) (E10 R10) (K2 Q)
def L10 (Q : QT) (a0 : Pt) (i4 o4 i5 o5 : Nat) (x42 x43 : Int) (h : AHeap) : Prop := Loop (Den pg fn.ntmps (C [1, 1, 1, 0, 1, 0, 0])) ((kp.find 1000010).getD []) (K2 Q) [(0, .ptr a0), (4, .ptr (some (i4, o4))), (5, .ptr (some (i5, o5))), (42, .int .i64 x42), (43, .int .i64 x43)] h
def A10x0 (Q : QT) (h : AHeap) : Prop := At (K1 Q) (.exit 0) [(6, .undef)] h
def L10t (Q : QT) (R10 : T10) (a0 : Pt) (i4 o4 i5 o5 : Nat) (x42 x43 : Int) (h : AHeap) : Prop :=
 bcase (decide ((x43 : Int) < x42)) (xSl (hCell h (.ptr (some (i4, o4 + 1)))) fun a_56 n_57 c_58 e_59 => (0 ≤ (x43 : Int) ∧ (x43 : Int) < (n_57 : Nat)) ∧ (xSome a_56 fun i_60 o_61 => xRow (hRow h (.ptr (some (i_60, o_61 + (Int.toNat x43) * 2))) 2) fun cs_62 => xCons cs_62 fun c_63 r_64 => xInt .u8 (some c_63) fun x_65 => xCons r_64 fun c_66 r_67 => xSl (some c_66) fun a_68 n_69 c_70 e_71 => xNil r_67 (xSl (hCell h (.ptr (some (i5, o5 + 1)))) fun a_72 n_73 c_74 e_75 => (hRow h (.ptr (some (i_60, o_61 + (Int.toNat x43) * 2))) 2 = hRow h (.ptr (some (i_60, o_61 + (Int.toNat x43) * 2))) 2) ∧ (hCell h (.ptr (some (i4, o4 + 1))) = hCell h (.ptr (some (i4, o4 + 1)))) ∧ (0 ≤ (x43 : Int) ∧ (x43 : Int) < (n_73 : Nat)) ∧ (xSome a_72 fun i_76 o_77 => xRow (hRow h (.ptr (some (i_76, o_77 + (Int.toNat x43) * 2))) 2) fun cs_78 => xCons cs_78 fun c_79 r_80 => xInt .u8 (some c_79) fun x_81 => xCons r_80 fun c_82 r_83 => xSl (some c_82) fun a_84 n_85 c_86 e_87 => xNil r_83 ((hRow h (.ptr (some (i_60, o_61 + (Int.toNat x43) * 2))) 2 = hRow h (.ptr (some (i_60, o_61 + (Int.toNat x43) * 2))) 2) ∧ (hCell h (.ptr (some (i4, o4 + 1))) = hCell h (.ptr (some (i4, o4 + 1)))) ∧ SCall pg n_spec_l2Match [.ptr a0, .agg [.int .u8 x_65, .slice a_68 n_69 c_70 e_71], .agg [.int .u8 x_81, .slice a_84 n_85 c_86 e_87]] h fun v_88 h_89 =>
 xBool (some v_88) fun b_90 => (hCell h_89 (.ptr (some (i4, o4 + 1))) = hCell h (.ptr (some (i4, o4 + 1)))) ∧ bcase (!b_90) (Q (.bool false) h_89) (R10 a0 i4 o4 i5 o5 x42 (IntKind.wrap .i64 (x43 + 1)) h_89)))))) (A10x0 Q h)
theorem L10den (Q : QT) (R10 : T10) (a0 : Pt) (i4 o4 i5 o5 : Nat) (x42 x43 : Int) (h : AHeap) (ht : L10t Q R10 a0 i4 o4 i5 o5 x42 x43 h) : Den pg fn.ntmps (C [1, 1, 1, 0, 1, 0, 0]) [(0, .ptr a0), (4, .ptr (some (i4, o4))), (5, .ptr (some (i5, o5))), (42, .int .i64 x42), (43, .int .i64 x43)] h (K3 Q R10) :=
  den_Den (kp := kp) (@cast _ (den pg fn.ntmps kp (C [1, 1, 1, 0, 1, 0, 0]) [(0, .ptr a0), (4, .ptr (some (i4, o4))), (5, .ptr (some (i5, o5))), (42, .int .i64 x42), (43, .int .i64 x43)] h (K3 Q R10)) (by kernel_rfl) ht)
theorem L10ind (Q : QT) (a0 : Pt) (i4 o4 i5 o5 : Nat) (x42 : Int) {G : Type} (J : G → Int → AHeap → Prop) (m : G → Nat)
 (hr : ∀ (g : G) (x43 : Int) (h : AHeap), J g x43 h → ∀ (R10 : T10), (∀ g' (x43 : Int) (h : AHeap), m g' < m g → J g' x43 h → R10 a0 i4 o4 i5 o5 x42 x43 h) → L10t Q R10 a0 i4 o4 i5 o5 x42 x43 h)
 (g : G) (x43 : Int) (h : AHeap) (hj : J g x43 h) : L10 Q a0 i4 o4 i5 o5 x42 x43 h := by
  refine Loop.inv2 (fun g => E10 fun a0' i4' o4' i5' o5' x42' x43 h => a0 = a0' ∧ i4 = i4' ∧ o4 = o4' ∧ i5 = i5' ∧ o5 = o5' ∧ x42 = x42' ∧ J g x43 h) (fun g => E10 fun a0' i4' o4' i5' o5' x42' x43 h => a0 = a0' ∧ i4 = i4' ∧ o4 = o4' ∧ i5 = i5' ∧ o5 = o5' ∧ x42 = x42' ∧ ∃ g', m g' < m g ∧ J g' x43 h) m ?_ ?_ g ⟨rfl, rfl, rfl, rfl, rfl, rfl, hj⟩
  · intro g env h hi
    obtain ⟨a0', i4', o4', i5', o5', x42', x43, rfl, rfl, rfl, rfl, rfl, rfl, rfl, hj⟩ := E10elim hi
    exact L10den Q (fun a0' i4' o4' i5' o5' x42' x43 h => a0 = a0' ∧ i4 = i4' ∧ o4 = o4' ∧ i5 = i5' ∧ o5 = o5' ∧ x42 = x42' ∧ ∃ g', m g' < m g ∧ J g' x43 h) a0 i4 o4 i5 o5 x42 x43 h (hr g x43 h hj (fun a0' i4' o4' i5' o5' x42' x43 h => a0 = a0' ∧ i4 = i4' ∧ o4 = o4' ∧ i5 = i5' ∧ o5 = o5' ∧ x42 = x42' ∧ ∃ g', m g' < m g ∧ J g' x43 h) fun g' x43 h hlt hj => ⟨rfl, rfl, rfl, rfl, rfl, rfl, g', hlt, hj⟩)
  · intro g env h hi
    obtain ⟨a0', i4', o4', i5', o5', x42', x43, rfl, rfl, rfl, rfl, rfl, rfl, rfl, g', hlt, hj⟩ := E10elim hi
    exact ⟨g', hlt, rfl, rfl, rfl, rfl, rfl, rfl, hj⟩
theorem A10x0i (Q : QT) (h : AHeap) (ht :
 Q (.bool true) h) : A10x0 Q h :=
  At.mk (@cast _ ((K1 Q) (.exit 0) [(6, .undef)] h) (by kernel_rfl) ht)
theorem call (a0 : Pt) (x1x0 : Int) (a1x1 : Pt) (n1x1 c1x1 : Nat) (e1x1 : Bool) (x2x0 : Int) (a2x1 : Pt) (n2x1 c2x1 : Nat) (e2x1 : Bool) (h : AHeap) (Q : QT) (ht :
 letH (h ++ [.cells t_spec_l1Node [.int .u8 x1x0, .slice a1x1 n1x1 c1x1 e1x1] false]) fun h_0 => letH (h_0 ++ [.cells t_spec_l1Node [.int .u8 x2x0, .slice a2x1 n2x1 c2x1 e2x1] false]) fun h_1 => xInt .u8 (hCell h_1 (.ptr (some (List.length h, 0 + 0)))) fun x_2 => SCall pg n_spec_l2Index [.int .u8 x_2] h_1 fun v_3 h_4 =>
 xInt .i64 (some v_3) fun x_5 => bcase (decide ((x_5 : Int) ≥ 0)) (xSome a0 fun i_6 o_7 => (0 ≤ (x_5 : Int) ∧ (x_5 : Int) < (12 : Nat)) ∧ (xInt .u8 (hCell h_4 (.ptr (some (i_6, o_7 + (Int.toNat x_5) * 2 + 0)))) fun x_8 => bcase ((x_8 : Int) == 0) (xSome a0 fun i_9 o_10 => xRow (hRow h_4 (.ptr (some (List.length h_0, 0))) 2) fun cs_11 => xCons cs_11 fun c_12 r_13 => xInt .u8 (some c_12) fun x_14 => xCons r_13 fun c_15 r_16 => xSl (some c_15) fun a_17 n_18 c_19 e_20 => xNil r_16 ((0 ≤ (x_5 : Int) ∧ (x_5 : Int) < (12 : Nat)) ∧ (xHeap (hStore h_4 (.ptr (some (i_9, o_10 + (Int.toNat x_5) * 2))) [.int .u8 x_14, .slice a_17 n_18 c_19 e_20]) fun h_21 => Q (.bool true) h_21))) (xSome a0 fun i_22 o_23 => (0 ≤ (x_5 : Int) ∧ (x_5 : Int) < (12 : Nat)) ∧ (xRow (hRow h_4 (.ptr (some (i_22, o_23 + (Int.toNat x_5) * 2))) 2) fun cs_24 => xCons cs_24 fun c_25 r_26 => xInt .u8 (some c_25) fun x_27 => xCons r_26 fun c_28 r_29 => xSl (some c_28) fun a_30 n_31 c_32 e_33 => xNil r_29 (xRow (hRow h_4 (.ptr (some (List.length h_0, 0))) 2) fun cs_34 => xCons cs_34 fun c_35 r_36 => xInt .u8 (some c_35) fun x_37 => xCons r_36 fun c_38 r_39 => xSl (some c_38) fun a_40 n_41 c_42 e_43 => xNil r_39 (SCall pg n_spec_l1Text [.agg [.int .u8 x_27, .slice a_30 n_31 c_32 e_33]] h_4 fun v_44 h_45 =>
 xStr (some v_44) fun s_46 => (hRow h_45 (.ptr (some (List.length h_0, 0))) 2 = hRow h_4 (.ptr (some (List.length h_0, 0))) 2) ∧ SCall pg n_spec_l1Text [.agg [.int .u8 x_37, .slice a_40 n_41 c_42 e_43]] h_45 fun v_47 h_48 =>
 xStr (some v_47) fun s_49 => (hRow h_48 (.ptr (some (i_22, o_23 + (Int.toNat x_5) * 2))) 2 = hRow h_45 (.ptr (some (i_22, o_23 + (Int.toNat x_5) * 2))) 2) ∧ Q (.bool (decide (s_46 = s_49))) h_48)))))) (xInt .u8 (hCell h_4 (.ptr (some (List.length h, 0 + 0)))) fun x_50 => xInt .u8 (hCell h_4 (.ptr (some (List.length h_0, 0 + 0)))) fun x_51 => bcase (!((x_50 : Int) == x_51)) (Q (.bool false) h_4) (xSl (hCell h_4 (.ptr (some (List.length h, 0 + 1)))) fun a_52 n_53 c_54 e_55 => L10 Q a0 (List.length h) 0 (List.length h_0) 0 (((n_53 : Nat) : Int)) 0 h_4))) : SCall pg n_spec_l2Match [.ptr a0, .agg [.int .u8 x1x0, .slice a1x1 n1x1 c1x1 e1x1], .agg [.int .u8 x2x0, .slice a2x1 n2x1 c2x1 e2x1]] h Q :=
  SCall.of_body kp (c := cod fn) (fn := fn) Go.Proofs.Tryz.func116 (by kernel_rfl) (by kernel_rfl) (Nat.le_of_ble_eq_true (by kernel_rfl))
    (@cast _ (den pg fn.ntmps kp (cod fn) (Env.args 0 [.ptr a0, .agg [.int .u8 x1x0, .slice a1x1 n1x1 c1x1 e1x1], .agg [.int .u8 x2x0, .slice a2x1 n2x1 c2x1 e2x1]]) h (KR Q)) (by kernel_rfl) ht)
end F_spec_l2Match
end Go.Sim

/- Printed by wip/tool: what the functions' bodies do, in the words of 'den'. -/
set_option maxRecDepth 100000
set_option linter.unusedVariables false
namespace Go.Sim
open Go Go.RowKit
/-! Function loop.example/instancesearch/impl.bindings -/
namespace F_impl_bindings
noncomputable abbrev fn : Func := Go.Proofs.Tryz.f64
def kp : Keeps := [(3000003, [3]), (1000003, [0, 3, 9, 10, 11])]
noncomputable def C (p : List Nat) : Code := (cod fn).sub p
def KR (Q : QT) : KT := retA pg fn.results.toList Q
abbrev T3 := Option Nat → Pt → Nat → Nat → Bool → Pt → Nat → Nat → Bool → Int → Int → AHeap → Prop
def E3 (R3 : T3) (env : Env) (h : AHeap) : Prop := eVal 0 env fun v env => xMap (some v) fun m0 => eVal 3 env fun v env => xSl (some v) fun a3 n3 c3 e3 => eVal 9 env fun v env => xSl (some v) fun a9 n9 c9 e9 => eVal 10 env fun v env => eInt .i64 v fun x10 => eVal 11 env fun v env => eInt .i64 v fun x11 => eNil env (R3 m0 a3 n3 c3 e3 a9 n9 c9 e9 x10 x11 h)
theorem E3elim {R3 : T3} {env : Env} {h : AHeap} (hi : E3 R3 env h) : ∃ m0, ∃ a3, ∃ n3, ∃ c3, ∃ e3, ∃ a9, ∃ n9, ∃ c9, ∃ e9, ∃ x10, ∃ x11, env = [(0, .map m0), (3, .slice a3 n3 c3 e3), (9, .slice a9 n9 c9 e9), (10, .int .i64 x10), (11, .int .i64 x11)] ∧ R3 m0 a3 n3 c3 e3 a9 n9 c9 e9 x10 x11 h := by
  unfold E3 at hi
  have hi0 := hi
  clear hi
  obtain ⟨v, env, rfl, hi1⟩ := eVal_elim hi0
  obtain ⟨m0, rfl, hi2⟩ := xMap_elim hi1
  obtain ⟨v, env, rfl, hi3⟩ := eVal_elim hi2
  obtain ⟨a3, n3, c3, e3, rfl, hi4⟩ := xSl_elim hi3
  obtain ⟨v, env, rfl, hi5⟩ := eVal_elim hi4
  obtain ⟨a9, n9, c9, e9, rfl, hi6⟩ := xSl_elim hi5
  obtain ⟨v, env, rfl, hi7⟩ := eVal_elim hi6
  obtain ⟨x10, rfl, hi8⟩ := eInt_elim hi7
  obtain ⟨v, env, rfl, hi9⟩ := eVal_elim hi8
  obtain ⟨x11, rfl, hi10⟩ := eInt_elim hi9
  obtain ⟨rfl, hi11⟩ := eNil_elim hi10
  have hi := hi11
  exact ⟨m0, a3, n3, c3, e3, a9, n9, c9, e9, x10, x11, rfl, hi⟩
def K0 (Q : QT) : KT := andThen (fun env' h' => (match kp.find 4000007 with | some ks => Den pg fn.ntmps (C [1, 1, 1]) (env'.keep ks) h' (KR Q) | none => den pg fn.ntmps kp (C [1, 1, 1]) env' h' (KR Q))) (KR Q)
def K1 (Q : QT) : KT := onExit 0 (K0 Q)
def K2 (Q : QT) : KT := left kp 3 (K1 Q)
def K3 (Q : QT) (R3 : T3) : KT := rnd ((kp.find 1000003).getD []) (E3 R3) (K2 Q)
def L3 (Q : QT) (m0 : Option Nat) (a3 : Pt) (n3 c3 : Nat) (e3 : Bool) (a9 : Pt) (n9 c9 : Nat) (e9 : Bool) (x10 x11 : Int) (h : AHeap) : Prop := Loop (Den pg fn.ntmps (C [1, 1, 0, 1, 0, 0])) ((kp.find 1000003).getD []) (K2 Q) [(0, .map m0), (3, .slice a3 n3 c3 e3), (9, .slice a9 n9 c9 e9), (10, .int .i64 x10), (11, .int .i64 x11)] h
def A3x0 (Q : QT) (a3 : Pt) (n3 c3 : Nat) (e3 : Bool) (h : AHeap) : Prop := At (K1 Q) (.exit 0) [(3, .slice a3 n3 c3 e3)] h
def L3t (Q : QT) (R3 : T3) (m0 : Option Nat) (a3 : Pt) (n3 c3 : Nat) (e3 : Bool) (a9 : Pt) (n9 c9 : Nat) (e9 : Bool) (x10 x11 : Int) (h : AHeap) : Prop :=
 bcase (decide ((x11 : Int) < x10)) ((0 ≤ (x11 : Int) ∧ (x11 : Int) < (n9 : Nat)) ∧ (xSome a9 fun i_10 o_11 => xStr (hCell h (.ptr (some (i_10, o_11 + (Int.toNat x11) * 1)))) fun s_12 => xMapObj h m0 fun es_13 k_14 => lookS es_13 s_12 fun r_15 => xStr (some (Option.getD r_15 (.str []))) fun s_16 => letH (h ++ [.cells t_impl_Binding [.str s_12, .str s_16] false]) fun h_17 => appendA pg t_L_impl_Binding h_17 (.slice a3 n3 c3 e3) (.slice (some (List.length h, 0)) 1 1 true) fun v_18 h_19 => xSl (some v_18) fun a_20 n_21 c_22 e_23 => R3 m0 a_20 n_21 c_22 e_23 a9 n9 c9 e9 x10 (IntKind.wrap .i64 (x11 + 1)) h_19)) (A3x0 Q a3 n3 c3 e3 h)
theorem L3den (Q : QT) (R3 : T3) (m0 : Option Nat) (a3 : Pt) (n3 c3 : Nat) (e3 : Bool) (a9 : Pt) (n9 c9 : Nat) (e9 : Bool) (x10 x11 : Int) (h : AHeap) (ht : L3t Q R3 m0 a3 n3 c3 e3 a9 n9 c9 e9 x10 x11 h) : Den pg fn.ntmps (C [1, 1, 0, 1, 0, 0]) [(0, .map m0), (3, .slice a3 n3 c3 e3), (9, .slice a9 n9 c9 e9), (10, .int .i64 x10), (11, .int .i64 x11)] h (K3 Q R3) :=
  den_Den (kp := kp) (@cast _ (den pg fn.ntmps kp (C [1, 1, 0, 1, 0, 0]) [(0, .map m0), (3, .slice a3 n3 c3 e3), (9, .slice a9 n9 c9 e9), (10, .int .i64 x10), (11, .int .i64 x11)] h (K3 Q R3)) (by kernel_rfl) ht)
theorem L3ind (Q : QT) (m0 : Option Nat) (a9 : Pt) (n9 c9 : Nat) (e9 : Bool) (x10 : Int) {G : Type} (J : G → Pt → Nat → Nat → Bool → Int → AHeap → Prop) (m : G → Nat)
 (hr : ∀ (g : G) (a3 : Pt) (n3 c3 : Nat) (e3 : Bool) (x11 : Int) (h : AHeap), J g a3 n3 c3 e3 x11 h → ∀ (R3 : T3), (∀ g' (a3 : Pt) (n3 c3 : Nat) (e3 : Bool) (x11 : Int) (h : AHeap), m g' < m g → J g' a3 n3 c3 e3 x11 h → R3 m0 a3 n3 c3 e3 a9 n9 c9 e9 x10 x11 h) → L3t Q R3 m0 a3 n3 c3 e3 a9 n9 c9 e9 x10 x11 h)
 (g : G) (a3 : Pt) (n3 c3 : Nat) (e3 : Bool) (x11 : Int) (h : AHeap) (hj : J g a3 n3 c3 e3 x11 h) : L3 Q m0 a3 n3 c3 e3 a9 n9 c9 e9 x10 x11 h := by
  refine Loop.inv2 (fun g => E3 fun m0' a3 n3 c3 e3 a9' n9' c9' e9' x10' x11 h => m0 = m0' ∧ a9 = a9' ∧ n9 = n9' ∧ c9 = c9' ∧ e9 = e9' ∧ x10 = x10' ∧ J g a3 n3 c3 e3 x11 h) (fun g => E3 fun m0' a3 n3 c3 e3 a9' n9' c9' e9' x10' x11 h => m0 = m0' ∧ a9 = a9' ∧ n9 = n9' ∧ c9 = c9' ∧ e9 = e9' ∧ x10 = x10' ∧ ∃ g', m g' < m g ∧ J g' a3 n3 c3 e3 x11 h) m ?_ ?_ g ⟨rfl, rfl, rfl, rfl, rfl, rfl, hj⟩
  · intro g env h hi
    obtain ⟨m0', a3, n3, c3, e3, a9', n9', c9', e9', x10', x11, rfl, rfl, rfl, rfl, rfl, rfl, rfl, hj⟩ := E3elim hi
    exact L3den Q (fun m0' a3 n3 c3 e3 a9' n9' c9' e9' x10' x11 h => m0 = m0' ∧ a9 = a9' ∧ n9 = n9' ∧ c9 = c9' ∧ e9 = e9' ∧ x10 = x10' ∧ ∃ g', m g' < m g ∧ J g' a3 n3 c3 e3 x11 h) m0 a3 n3 c3 e3 a9 n9 c9 e9 x10 x11 h (hr g a3 n3 c3 e3 x11 h hj (fun m0' a3 n3 c3 e3 a9' n9' c9' e9' x10' x11 h => m0 = m0' ∧ a9 = a9' ∧ n9 = n9' ∧ c9 = c9' ∧ e9 = e9' ∧ x10 = x10' ∧ ∃ g', m g' < m g ∧ J g' a3 n3 c3 e3 x11 h) fun g' a3 n3 c3 e3 x11 h hlt hj => ⟨rfl, rfl, rfl, rfl, rfl, rfl, g', hlt, hj⟩)
  · intro g env h hi
    obtain ⟨m0', a3, n3, c3, e3, a9', n9', c9', e9', x10', x11, rfl, rfl, rfl, rfl, rfl, rfl, rfl, g', hlt, hj⟩ := E3elim hi
    exact ⟨g', hlt, rfl, rfl, rfl, rfl, rfl, rfl, hj⟩
theorem A3x0i (Q : QT) (a3 : Pt) (n3 c3 : Nat) (e3 : Bool) (h : AHeap) (ht :
 Q (.slice a3 n3 c3 e3) h) : A3x0 Q a3 n3 c3 e3 h :=
  At.mk (@cast _ ((K1 Q) (.exit 0) [(3, .slice a3 n3 c3 e3)] h) (by kernel_rfl) ht)
theorem call (m0 : Option Nat) (h : AHeap) (Q : QT) (ht :
 letH (h ++ [.cells t_impl_Binding [] false]) fun h_0 => SCall pg n_maps_Keys_map_string_string_string_string [.map m0] h_0 fun v_1 h_2 =>
 xAny (some v_1) fun v_3 => SCall pg n_slices_Sorted_string [v_3] h_2 fun v_4 h_5 =>
 xSl (some v_4) fun a_6 n_7 c_8 e_9 => L3 Q m0 (some (List.length h, 0)) 0 0 true a_6 n_7 c_8 e_9 (((n_7 : Nat) : Int)) 0 h_5) : SCall pg n_impl_bindings [.map m0] h Q :=
  SCall.of_body kp (c := cod fn) (fn := fn) Go.Proofs.Tryz.func64 (by kernel_rfl) (by kernel_rfl) (Nat.le_of_ble_eq_true (by kernel_rfl))
    (@cast _ (den pg fn.ntmps kp (cod fn) (Env.args 0 [.map m0]) h (KR Q)) (by kernel_rfl) ht)
end F_impl_bindings
/-! Function loop.example/instancesearch/impl.MatchType -/
namespace F_impl_MatchType
noncomputable abbrev fn : Func := Go.Proofs.Tryz.f29
def kp : Keeps := [(4000004, [8])]
noncomputable def C (p : List Nat) : Code := (cod fn).sub p
def KR (Q : QT) : KT := retA pg fn.results.toList Q
def J4 (Q : QT) (m8 : Option Nat) (h : AHeap) : Prop := Den pg fn.ntmps (C [1, 1, 1]) [(8, .map m8)] h (KR Q)
theorem J4i (Q : QT) (m8 : Option Nat) (h : AHeap) (ht :
 SCall pg n_impl_bindings [.map m8] h fun v_10 h_11 =>
 xSl (some v_10) fun a_12 n_13 c_14 e_15 => Q (.tup [.slice a_12 n_13 c_14 e_15, .bool true]) h_11) : J4 Q m8 h :=
  den_Den (kp := kp) (@cast _ (den pg fn.ntmps kp (C [1, 1, 1]) [(8, .map m8)] h (KR Q)) (by kernel_rfl) ht)
theorem call (x0 x1 : List Nat) (h : AHeap) (Q : QT) (ht :
 SCall pg n_impl_typeOf [.str x0] h fun v_0 h_1 =>
 xPtr (some v_0) fun a_2 => SCall pg n_impl_typeOf [.str x1] h_1 fun v_3 h_4 =>
 xPtr (some v_3) fun a_5 => letH (h_4 ++ [.map [] 0]) fun h_6 => bcase (Option.isNone a_2) (Q (.tup [.slice none 0 0 true, .bool false]) h_6) (bcase (Option.isNone a_5) (Q (.tup [.slice none 0 0 true, .bool false]) h_6) (SCall pg n_impl_node_match [.ptr a_2, .ptr a_5, .map ((some (List.length h_4)))] h_6 fun v_7 h_8 =>
 xBool (some v_7) fun b_9 => bcase (!b_9) (Q (.tup [.slice none 0 0 true, .bool false]) h_8) (J4 Q ((some (List.length h_4))) h_8)))) : SCall pg n_impl_MatchType [.str x0, .str x1] h Q :=
  SCall.of_body kp (c := cod fn) (fn := fn) Go.Proofs.Tryz.func29 (by kernel_rfl) (by kernel_rfl) (Nat.le_of_ble_eq_true (by kernel_rfl))
    (@cast _ (den pg fn.ntmps kp (cod fn) (Env.args 0 [.str x0, .str x1]) h (KR Q)) (by kernel_rfl) ht)
end F_impl_MatchType
/-! Function loop.example/instancesearch/impl.IsInstance -/
namespace F_impl_IsInstance
noncomputable abbrev fn : Func := Go.Proofs.Tryz.f76
def kp : Keeps := []
noncomputable def C (p : List Nat) : Code := (cod fn).sub p
def KR (Q : QT) : KT := retA pg fn.results.toList Q
theorem call (x0 x1 : List Nat) (h : AHeap) (Q : QT) (ht :
 SCall pg n_impl_MatchType [.str x0, .str x1] h fun v_0 h_1 =>
 xTup v_0 fun cs_2 => xCons cs_2 fun c_3 r_4 => xSl (some c_3) fun a_5 n_6 c_7 e_8 => xCons r_4 fun c_9 r_10 => xBool (some c_9) fun b_11 => xNil r_10 (Q (.bool b_11) h_1)) : SCall pg n_impl_IsInstance [.str x0, .str x1] h Q :=
  SCall.of_body kp (c := cod fn) (fn := fn) Go.Proofs.Tryz.func76 (by kernel_rfl) (by kernel_rfl) (Nat.le_of_ble_eq_true (by kernel_rfl))
    (@cast _ (den pg fn.ntmps kp (cod fn) (Env.args 0 [.str x0, .str x1]) h (KR Q)) (by kernel_rfl) ht)
end F_impl_IsInstance
end Go.Sim

/- Printed by wip/tool: what the functions' bodies do, in the words of 'den'. -/
set_option maxRecDepth 100000
set_option linter.unusedVariables false
namespace Go.Sim
open Go Go.RowKit
/-! Function (*loop.example/instancesearch/impl.node).match -/
namespace F_impl_node_match
noncomputable abbrev fn : Func := Go.Proofs.Tryz.f63
def kp : Keeps := [(4000006, [2, 0, 7]), (2000008, [48, 0, 1, 2]), (3000011, [6]), (1000011, [1, 2, 52, 53, 54])]
noncomputable def C (p : List Nat) : Code := (cod fn).sub p
def KR (Q : QT) : KT := retA pg fn.results.toList Q
abbrev T11 := Pt → Option Nat → Pt → Nat → Nat → Bool → Int → Int → AHeap → Prop
def E11 (R11 : T11) (env : Env) (h : AHeap) : Prop := eVal 1 env fun v env => xPtr (some v) fun a1 => eVal 2 env fun v env => xMap (some v) fun m2 => eVal 52 env fun v env => xSl (some v) fun a52 n52 c52 e52 => eVal 53 env fun v env => eInt .i64 v fun x53 => eVal 54 env fun v env => eInt .i64 v fun x54 => eNil env (R11 a1 m2 a52 n52 c52 e52 x53 x54 h)
theorem E11elim {R11 : T11} {env : Env} {h : AHeap} (hi : E11 R11 env h) : ∃ a1, ∃ m2, ∃ a52, ∃ n52, ∃ c52, ∃ e52, ∃ x53, ∃ x54, env = [(1, .ptr a1), (2, .map m2), (52, .slice a52 n52 c52 e52), (53, .int .i64 x53), (54, .int .i64 x54)] ∧ R11 a1 m2 a52 n52 c52 e52 x53 x54 h := by
  unfold E11 at hi
  have hi0 := hi
  clear hi
  obtain ⟨v, env, rfl, hi1⟩ := eVal_elim hi0
  obtain ⟨a1, rfl, hi2⟩ := xPtr_elim hi1
  obtain ⟨v, env, rfl, hi3⟩ := eVal_elim hi2
  obtain ⟨m2, rfl, hi4⟩ := xMap_elim hi3
  obtain ⟨v, env, rfl, hi5⟩ := eVal_elim hi4
  obtain ⟨a52, n52, c52, e52, rfl, hi6⟩ := xSl_elim hi5
  obtain ⟨v, env, rfl, hi7⟩ := eVal_elim hi6
  obtain ⟨x53, rfl, hi8⟩ := eInt_elim hi7
  obtain ⟨v, env, rfl, hi9⟩ := eVal_elim hi8
  obtain ⟨x54, rfl, hi10⟩ := eInt_elim hi9
  obtain ⟨rfl, hi11⟩ := eNil_elim hi10
  have hi := hi11
  exact ⟨a1, m2, a52, n52, c52, e52, x53, x54, rfl, hi⟩
def K0 (Q : QT) : KT := andThen (fun env' h' => (match kp.find 4000008 with | some ks => Den pg fn.ntmps (C [1, 1]) (env'.keep ks) h' (KR Q) | none => den pg fn.ntmps kp (C [1, 1]) env' h' (KR Q))) (KR Q)
def K1 (Q : QT) : KT := andThen (fun env' h' => (match kp.find 4000016 with | some ks => Den pg fn.ntmps (C [1, 1, 1, 1]) (env'.keep ks) h' (KR Q) | none => den pg fn.ntmps kp (C [1, 1, 1, 1]) env' h' (KR Q))) (KR Q)
def K2 (Q : QT) : KT := onExit 0 (K1 Q)
def K3 (Q : QT) : KT := left kp 11 (K2 Q)
def K4 (Q : QT) (R11 : T11) : KT := rnd ((kp.find 1000011).getD []) (E11 R11) (K3 Q)
def J6 (Q : QT) (m2 : Option Nat) (a0 : Pt) (x7 : List Nat) (h : AHeap) : Prop := Den pg fn.ntmps (C [1, 0, 1, 0, 1, 1]) [(2, .map m2), (0, .ptr a0), (7, .str x7)] h (K0 Q)
def L11 (Q : QT) (a1 : Pt) (m2 : Option Nat) (a52 : Pt) (n52 c52 : Nat) (e52 : Bool) (x53 x54 : Int) (h : AHeap) : Prop := Loop (Den pg fn.ntmps (C [1, 1, 1, 0, 1, 0, 0])) ((kp.find 1000011).getD []) (K3 Q) [(1, .ptr a1), (2, .map m2), (52, .slice a52 n52 c52 e52), (53, .int .i64 x53), (54, .int .i64 x54)] h
def A11x0 (Q : QT) (h : AHeap) : Prop := At (K2 Q) (.exit 0) [(6, .undef)] h
theorem J6i (Q : QT) (m2 : Option Nat) (a0 : Pt) (x7 : List Nat) (h : AHeap) (ht :
 xSome a0 fun i_28 o_29 => xStr (hCell h (.ptr (some (i_28, o_29 + 0)))) fun s_30 => xMp m2 fun i_31 => xMapObj h (some i_31) fun es_32 k_33 => putS es_32 k_33 s_30 (.str x7) fun es_34 k_35 => letH (List.set h i_31 (.map es_34 k_35)) fun h_36 => Q (.bool true) h_36) : J6 Q m2 a0 x7 h :=
  den_Den (kp := kp) (@cast _ (den pg fn.ntmps kp (C [1, 0, 1, 0, 1, 1]) [(2, .map m2), (0, .ptr a0), (7, .str x7)] h (K0 Q)) (by kernel_rfl) ht)
def L11t (Q : QT) (R11 : T11) (a1 : Pt) (m2 : Option Nat) (a52 : Pt) (n52 c52 : Nat) (e52 : Bool) (x53 x54 : Int) (h : AHeap) : Prop :=
 bcase (decide ((x54 : Int) < x53)) ((0 ≤ (x54 : Int) ∧ (x54 : Int) < (n52 : Nat)) ∧ (xSome a52 fun i_37 o_38 => xPtr (hCell h (.ptr (some (i_37, o_38 + (Int.toNat x54) * 1)))) fun a_39 => xSome a1 fun i_40 o_41 => xSl (hCell h (.ptr (some (i_40, o_41 + 1)))) fun a_42 n_43 c_44 e_45 => (0 ≤ (x54 : Int) ∧ (x54 : Int) < (n_43 : Nat)) ∧ (xSome a_42 fun i_46 o_47 => xPtr (hCell h (.ptr (some (i_46, o_47 + (Int.toNat x54) * 1)))) fun a_48 => SCall pg n_impl_node_match [.ptr a_39, .ptr a_48, .map m2] h fun v_49 h_50 =>
 xBool (some v_49) fun b_51 => bcase (!b_51) (Q (.bool false) h_50) (R11 a1 m2 a52 n52 c52 e52 x53 (IntKind.wrap .i64 (x54 + 1)) h_50)))) (A11x0 Q h)
theorem L11den (Q : QT) (R11 : T11) (a1 : Pt) (m2 : Option Nat) (a52 : Pt) (n52 c52 : Nat) (e52 : Bool) (x53 x54 : Int) (h : AHeap) (ht : L11t Q R11 a1 m2 a52 n52 c52 e52 x53 x54 h) : Den pg fn.ntmps (C [1, 1, 1, 0, 1, 0, 0]) [(1, .ptr a1), (2, .map m2), (52, .slice a52 n52 c52 e52), (53, .int .i64 x53), (54, .int .i64 x54)] h (K4 Q R11) :=
  den_Den (kp := kp) (@cast _ (den pg fn.ntmps kp (C [1, 1, 1, 0, 1, 0, 0]) [(1, .ptr a1), (2, .map m2), (52, .slice a52 n52 c52 e52), (53, .int .i64 x53), (54, .int .i64 x54)] h (K4 Q R11)) (by kernel_rfl) ht)
theorem L11ind (Q : QT) (a1 : Pt) (m2 : Option Nat) (a52 : Pt) (n52 c52 : Nat) (e52 : Bool) (x53 : Int) {G : Type} (J : G → Int → AHeap → Prop) (m : G → Nat)
 (hr : ∀ (g : G) (x54 : Int) (h : AHeap), J g x54 h → ∀ (R11 : T11), (∀ g' (x54 : Int) (h : AHeap), m g' < m g → J g' x54 h → R11 a1 m2 a52 n52 c52 e52 x53 x54 h) → L11t Q R11 a1 m2 a52 n52 c52 e52 x53 x54 h)
 (g : G) (x54 : Int) (h : AHeap) (hj : J g x54 h) : L11 Q a1 m2 a52 n52 c52 e52 x53 x54 h := by
  refine Loop.inv2 (fun g => E11 fun a1' m2' a52' n52' c52' e52' x53' x54 h => a1 = a1' ∧ m2 = m2' ∧ a52 = a52' ∧ n52 = n52' ∧ c52 = c52' ∧ e52 = e52' ∧ x53 = x53' ∧ J g x54 h) (fun g => E11 fun a1' m2' a52' n52' c52' e52' x53' x54 h => a1 = a1' ∧ m2 = m2' ∧ a52 = a52' ∧ n52 = n52' ∧ c52 = c52' ∧ e52 = e52' ∧ x53 = x53' ∧ ∃ g', m g' < m g ∧ J g' x54 h) m ?_ ?_ g ⟨rfl, rfl, rfl, rfl, rfl, rfl, rfl, hj⟩
  · intro g env h hi
    obtain ⟨a1', m2', a52', n52', c52', e52', x53', x54, rfl, rfl, rfl, rfl, rfl, rfl, rfl, rfl, hj⟩ := E11elim hi
    exact L11den Q (fun a1' m2' a52' n52' c52' e52' x53' x54 h => a1 = a1' ∧ m2 = m2' ∧ a52 = a52' ∧ n52 = n52' ∧ c52 = c52' ∧ e52 = e52' ∧ x53 = x53' ∧ ∃ g', m g' < m g ∧ J g' x54 h) a1 m2 a52 n52 c52 e52 x53 x54 h (hr g x54 h hj (fun a1' m2' a52' n52' c52' e52' x53' x54 h => a1 = a1' ∧ m2 = m2' ∧ a52 = a52' ∧ n52 = n52' ∧ c52 = c52' ∧ e52 = e52' ∧ x53 = x53' ∧ ∃ g', m g' < m g ∧ J g' x54 h) fun g' x54 h hlt hj => ⟨rfl, rfl, rfl, rfl, rfl, rfl, rfl, g', hlt, hj⟩)
  · intro g env h hi
    obtain ⟨a1', m2', a52', n52', c52', e52', x53', x54, rfl, rfl, rfl, rfl, rfl, rfl, rfl, rfl, g', hlt, hj⟩ := E11elim hi
    exact ⟨g', hlt, rfl, rfl, rfl, rfl, rfl, rfl, rfl, hj⟩
theorem A11x0i (Q : QT) (h : AHeap) (ht :
 Q (.bool true) h) : A11x0 Q h :=
  At.mk (@cast _ ((K2 Q) (.exit 0) [(6, .undef)] h) (by kernel_rfl) ht)
theorem call (a0 a1 : Pt) (m2 : Option Nat) (h : AHeap) (Q : QT) (ht :
 xSome a0 fun i_0 o_1 => xStr (hCell h (.ptr (some (i_0, o_1 + 0)))) fun s_2 => SCall pg n_impl_isVar [.str s_2] h fun v_3 h_4 =>
 xBool (some v_3) fun b_5 => bcase b_5 (SCall pg n_impl_node_text [.ptr a1] h_4 fun v_6 h_7 =>
 xStr (some v_6) fun s_8 => xSome a0 fun i_9 o_10 => xStr (hCell h_7 (.ptr (some (i_9, o_10 + 0)))) fun s_11 => xMapObj h_7 m2 fun es_12 k_13 => lookS es_12 s_11 fun r_14 => xStr (some (Option.getD r_14 (.str []))) fun s_15 => bcase (Option.isSome r_14) (bcase (!(decide (s_15 = s_8))) (Q (.bool false) h_7) (J6 Q m2 a0 s_8 h_7)) (J6 Q m2 a0 s_8 h_7)) (xSome a0 fun i_16 o_17 => xSome a1 fun i_18 o_19 => xStr (hCell h_4 (.ptr (some (i_16, o_17 + 0)))) fun s_20 => xStr (hCell h_4 (.ptr (some (i_18, o_19 + 0)))) fun s_21 => (hCell h_4 (.ptr (some (i_16, o_17 + 0))) = hCell h_4 (.ptr (some (i_16, o_17 + 0)))) ∧ bcase (!(decide (s_20 = s_21))) (Q (.bool false) h_4) (xSome a0 fun i_22 o_23 => xSl (hCell h_4 (.ptr (some (i_22, o_23 + 1)))) fun a_24 n_25 c_26 e_27 => L11 Q a1 m2 a_24 n_25 c_26 e_27 (((n_25 : Nat) : Int)) 0 h_4))) : SCall pg n_impl_node_match [.ptr a0, .ptr a1, .map m2] h Q :=
  SCall.of_body kp (c := cod fn) (fn := fn) Go.Proofs.Tryz.func63 (by kernel_rfl) (by kernel_rfl) (Nat.le_of_ble_eq_true (by kernel_rfl))
    (@cast _ (den pg fn.ntmps kp (cod fn) (Env.args 0 [.ptr a0, .ptr a1, .map m2]) h (KR Q)) (by kernel_rfl) ht)
end F_impl_node_match
end Go.Sim

/- Printed by wip/tool: what the functions' bodies do, in the words of 'den'. -/
set_option maxRecDepth 100000
set_option linter.unusedVariables false
namespace Go.Sim
open Go Go.RowKit
/-! Function (*loop.example/instancesearch/impl.node).text -/
namespace F_impl_node_text
noncomputable abbrev fn : Func := Go.Proofs.Tryz.f103
def kp : Keeps := [(3000005, [0, 3]), (1000005, [0, 3, 20, 21, 22]), (2000009, [2])]
noncomputable def C (p : List Nat) : Code := (cod fn).sub p
def KR (Q : QT) : KT := retA pg fn.results.toList Q
abbrev T5 := Pt → Pt → Nat → Nat → Bool → Pt → Nat → Nat → Bool → Int → Int → AHeap → Prop
def E5 (R5 : T5) (env : Env) (h : AHeap) : Prop := eVal 0 env fun v env => xPtr (some v) fun a0 => eVal 3 env fun v env => xSl (some v) fun a3 n3 c3 e3 => eVal 20 env fun v env => xSl (some v) fun a20 n20 c20 e20 => eVal 21 env fun v env => eInt .i64 v fun x21 => eVal 22 env fun v env => eInt .i64 v fun x22 => eNil env (R5 a0 a3 n3 c3 e3 a20 n20 c20 e20 x21 x22 h)
theorem E5elim {R5 : T5} {env : Env} {h : AHeap} (hi : E5 R5 env h) : ∃ a0, ∃ a3, ∃ n3, ∃ c3, ∃ e3, ∃ a20, ∃ n20, ∃ c20, ∃ e20, ∃ x21, ∃ x22, env = [(0, .ptr a0), (3, .slice a3 n3 c3 e3), (20, .slice a20 n20 c20 e20), (21, .int .i64 x21), (22, .int .i64 x22)] ∧ R5 a0 a3 n3 c3 e3 a20 n20 c20 e20 x21 x22 h := by
  unfold E5 at hi
  have hi0 := hi
  clear hi
  obtain ⟨v, env, rfl, hi1⟩ := eVal_elim hi0
  obtain ⟨a0, rfl, hi2⟩ := xPtr_elim hi1
  obtain ⟨v, env, rfl, hi3⟩ := eVal_elim hi2
  obtain ⟨a3, n3, c3, e3, rfl, hi4⟩ := xSl_elim hi3
  obtain ⟨v, env, rfl, hi5⟩ := eVal_elim hi4
  obtain ⟨a20, n20, c20, e20, rfl, hi6⟩ := xSl_elim hi5
  obtain ⟨v, env, rfl, hi7⟩ := eVal_elim hi6
  obtain ⟨x21, rfl, hi8⟩ := eInt_elim hi7
  obtain ⟨v, env, rfl, hi9⟩ := eVal_elim hi8
  obtain ⟨x22, rfl, hi10⟩ := eInt_elim hi9
  obtain ⟨rfl, hi11⟩ := eNil_elim hi10
  have hi := hi11
  exact ⟨a0, a3, n3, c3, e3, a20, n20, c20, e20, x21, x22, rfl, hi⟩
def K0 (Q : QT) : KT := andThen (fun env' h' => (match kp.find 4000009 with | some ks => Den pg fn.ntmps (C [1, 1, 1, 1]) (env'.keep ks) h' (KR Q) | none => den pg fn.ntmps kp (C [1, 1, 1, 1]) env' h' (KR Q))) (KR Q)
def K1 (Q : QT) : KT := onExit 0 (K0 Q)
def K2 (Q : QT) : KT := left kp 5 (K1 Q)
def K3 (Q : QT) (R5 : T5) : KT := rnd ((kp.find 1000005).getD []) (E5 R5) (K2 Q)
def L5 (Q : QT) (a0 a3 : Pt) (n3 c3 : Nat) (e3 : Bool) (a20 : Pt) (n20 c20 : Nat) (e20 : Bool) (x21 x22 : Int) (h : AHeap) : Prop := Loop (Den pg fn.ntmps (C [1, 1, 1, 0, 1, 0, 0])) ((kp.find 1000005).getD []) (K2 Q) [(0, .ptr a0), (3, .slice a3 n3 c3 e3), (20, .slice a20 n20 c20 e20), (21, .int .i64 x21), (22, .int .i64 x22)] h
def A5x0 (Q : QT) (a0 a3 : Pt) (n3 c3 : Nat) (e3 : Bool) (h : AHeap) : Prop := At (K1 Q) (.exit 0) [(0, .ptr a0), (3, .slice a3 n3 c3 e3)] h
def L5t (Q : QT) (R5 : T5) (a0 a3 : Pt) (n3 c3 : Nat) (e3 : Bool) (a20 : Pt) (n20 c20 : Nat) (e20 : Bool) (x21 x22 : Int) (h : AHeap) : Prop :=
 bcase (decide ((x22 : Int) < x21)) ((0 ≤ (x22 : Int) ∧ (x22 : Int) < (n20 : Nat)) ∧ (xSome a20 fun i_16 o_17 => xPtr (hCell h (.ptr (some (i_16, o_17 + (Int.toNat x22) * 1)))) fun a_18 => SCall pg n_impl_node_text [.ptr a_18] h fun v_19 h_20 =>
 xStr (some v_19) fun s_21 => letH (h_20 ++ [.cells t_string [.str s_21] false]) fun h_22 => appendA pg t_L_string h_22 (.slice a3 n3 c3 e3) (.slice (some (List.length h_20, 0)) 1 1 true) fun v_23 h_24 => xSl (some v_23) fun a_25 n_26 c_27 e_28 => R5 a0 a_25 n_26 c_27 e_28 a20 n20 c20 e20 x21 (IntKind.wrap .i64 (x22 + 1)) h_24)) (A5x0 Q a0 a3 n3 c3 e3 h)
theorem L5den (Q : QT) (R5 : T5) (a0 a3 : Pt) (n3 c3 : Nat) (e3 : Bool) (a20 : Pt) (n20 c20 : Nat) (e20 : Bool) (x21 x22 : Int) (h : AHeap) (ht : L5t Q R5 a0 a3 n3 c3 e3 a20 n20 c20 e20 x21 x22 h) : Den pg fn.ntmps (C [1, 1, 1, 0, 1, 0, 0]) [(0, .ptr a0), (3, .slice a3 n3 c3 e3), (20, .slice a20 n20 c20 e20), (21, .int .i64 x21), (22, .int .i64 x22)] h (K3 Q R5) :=
  den_Den (kp := kp) (@cast _ (den pg fn.ntmps kp (C [1, 1, 1, 0, 1, 0, 0]) [(0, .ptr a0), (3, .slice a3 n3 c3 e3), (20, .slice a20 n20 c20 e20), (21, .int .i64 x21), (22, .int .i64 x22)] h (K3 Q R5)) (by kernel_rfl) ht)
theorem L5ind (Q : QT) (a0 a20 : Pt) (n20 c20 : Nat) (e20 : Bool) (x21 : Int) {G : Type} (J : G → Pt → Nat → Nat → Bool → Int → AHeap → Prop) (m : G → Nat)
 (hr : ∀ (g : G) (a3 : Pt) (n3 c3 : Nat) (e3 : Bool) (x22 : Int) (h : AHeap), J g a3 n3 c3 e3 x22 h → ∀ (R5 : T5), (∀ g' (a3 : Pt) (n3 c3 : Nat) (e3 : Bool) (x22 : Int) (h : AHeap), m g' < m g → J g' a3 n3 c3 e3 x22 h → R5 a0 a3 n3 c3 e3 a20 n20 c20 e20 x21 x22 h) → L5t Q R5 a0 a3 n3 c3 e3 a20 n20 c20 e20 x21 x22 h)
 (g : G) (a3 : Pt) (n3 c3 : Nat) (e3 : Bool) (x22 : Int) (h : AHeap) (hj : J g a3 n3 c3 e3 x22 h) : L5 Q a0 a3 n3 c3 e3 a20 n20 c20 e20 x21 x22 h := by
  refine Loop.inv2 (fun g => E5 fun a0' a3 n3 c3 e3 a20' n20' c20' e20' x21' x22 h => a0 = a0' ∧ a20 = a20' ∧ n20 = n20' ∧ c20 = c20' ∧ e20 = e20' ∧ x21 = x21' ∧ J g a3 n3 c3 e3 x22 h) (fun g => E5 fun a0' a3 n3 c3 e3 a20' n20' c20' e20' x21' x22 h => a0 = a0' ∧ a20 = a20' ∧ n20 = n20' ∧ c20 = c20' ∧ e20 = e20' ∧ x21 = x21' ∧ ∃ g', m g' < m g ∧ J g' a3 n3 c3 e3 x22 h) m ?_ ?_ g ⟨rfl, rfl, rfl, rfl, rfl, rfl, hj⟩
  · intro g env h hi
    obtain ⟨a0', a3, n3, c3, e3, a20', n20', c20', e20', x21', x22, rfl, rfl, rfl, rfl, rfl, rfl, rfl, hj⟩ := E5elim hi
    exact L5den Q (fun a0' a3 n3 c3 e3 a20' n20' c20' e20' x21' x22 h => a0 = a0' ∧ a20 = a20' ∧ n20 = n20' ∧ c20 = c20' ∧ e20 = e20' ∧ x21 = x21' ∧ ∃ g', m g' < m g ∧ J g' a3 n3 c3 e3 x22 h) a0 a3 n3 c3 e3 a20 n20 c20 e20 x21 x22 h (hr g a3 n3 c3 e3 x22 h hj (fun a0' a3 n3 c3 e3 a20' n20' c20' e20' x21' x22 h => a0 = a0' ∧ a20 = a20' ∧ n20 = n20' ∧ c20 = c20' ∧ e20 = e20' ∧ x21 = x21' ∧ ∃ g', m g' < m g ∧ J g' a3 n3 c3 e3 x22 h) fun g' a3 n3 c3 e3 x22 h hlt hj => ⟨rfl, rfl, rfl, rfl, rfl, rfl, g', hlt, hj⟩)
  · intro g env h hi
    obtain ⟨a0', a3, n3, c3, e3, a20', n20', c20', e20', x21', x22, rfl, rfl, rfl, rfl, rfl, rfl, rfl, g', hlt, hj⟩ := E5elim hi
    exact ⟨g', hlt, rfl, rfl, rfl, rfl, rfl, rfl, hj⟩
theorem A5x0i (Q : QT) (a0 a3 : Pt) (n3 c3 : Nat) (e3 : Bool) (h : AHeap) (ht :
 xSome a0 fun i_29 o_30 => xStr (hCell h (.ptr (some (i_29, o_30 + 0)))) fun s_31 => List.length s_31 + List.length [40] ≤ 9223372036854775807 ∧ (SCall pg n_strings_Join [.slice a3 n3 c3 e3, .str [44]] h fun v_32 h_33 =>
 xStr (some v_32) fun s_34 => (hCell h_33 (.ptr (some (i_29, o_30 + 0))) = hCell h (.ptr (some (i_29, o_30 + 0)))) ∧ List.length (s_31 ++ [40]) + List.length s_34 ≤ 9223372036854775807 ∧ (List.length ((s_31 ++ [40]) ++ s_34) + List.length [41] ≤ 9223372036854775807 ∧ (Q (.str (((s_31 ++ [40]) ++ s_34) ++ [41])) h_33)))) : A5x0 Q a0 a3 n3 c3 e3 h :=
  At.mk (@cast _ ((K1 Q) (.exit 0) [(0, .ptr a0), (3, .slice a3 n3 c3 e3)] h) (by kernel_rfl) ht)
theorem call (a0 : Pt) (h : AHeap) (Q : QT) (ht :
 xSome a0 fun i_0 o_1 => xSl (hCell h (.ptr (some (i_0, o_1 + 1)))) fun a_2 n_3 c_4 e_5 => bcase ((((n_3 : Nat) : Int) : Int) == 0) (xSome a0 fun i_6 o_7 => xStr (hCell h (.ptr (some (i_6, o_7 + 0)))) fun s_8 => Q (.str s_8) h) (letH (h ++ [.cells t_string [] false]) fun h_9 => xSome a0 fun i_10 o_11 => xSl (hCell h_9 (.ptr (some (i_10, o_11 + 1)))) fun a_12 n_13 c_14 e_15 => L5 Q a0 (some (List.length h, 0)) 0 0 true a_12 n_13 c_14 e_15 (((n_13 : Nat) : Int)) 0 h_9)) : SCall pg n_impl_node_text [.ptr a0] h Q :=
  SCall.of_body kp (c := cod fn) (fn := fn) Go.Proofs.Tryz.func103 (by kernel_rfl) (by kernel_rfl) (Nat.le_of_ble_eq_true (by kernel_rfl))
    (@cast _ (den pg fn.ntmps kp (cod fn) (Env.args 0 [.ptr a0]) h (KR Q)) (by kernel_rfl) ht)
end F_impl_node_text
/-! Function loop.example/instancesearch/spec.l1Text -/
namespace F_spec_l1Text
noncomputable abbrev fn : Func := Go.Proofs.Tryz.f99
def kp : Keeps := [(3000003, [1, 3]), (1000003, [1, 3, 11, 12, 13]), (2000005, [13, 12, 11, 3, 1]), (4000009, [3])]
noncomputable def C (p : List Nat) : Code := (cod fn).sub p
def KR (Q : QT) : KT := retA pg fn.results.toList Q
abbrev T3 := Nat → Nat → List Nat → Pt → Nat → Nat → Bool → Int → Int → AHeap → Prop
def E3 (R3 : T3) (env : Env) (h : AHeap) : Prop := eVal 1 env fun v env => xPtr (some v) fun a => xSome a fun i1 o1 => eVal 3 env fun v env => xStr (some v) fun x3 => eVal 11 env fun v env => xSl (some v) fun a11 n11 c11 e11 => eVal 12 env fun v env => eInt .i64 v fun x12 => eVal 13 env fun v env => eInt .i64 v fun x13 => eNil env (R3 i1 o1 x3 a11 n11 c11 e11 x12 x13 h)
theorem E3elim {R3 : T3} {env : Env} {h : AHeap} (hi : E3 R3 env h) : ∃ i1, ∃ o1, ∃ x3, ∃ a11, ∃ n11, ∃ c11, ∃ e11, ∃ x12, ∃ x13, env = [(1, .ptr (some (i1, o1))), (3, .str x3), (11, .slice a11 n11 c11 e11), (12, .int .i64 x12), (13, .int .i64 x13)] ∧ R3 i1 o1 x3 a11 n11 c11 e11 x12 x13 h := by
  unfold E3 at hi
  have hi0 := hi
  clear hi
  obtain ⟨v, env, rfl, hi1⟩ := eVal_elim hi0
  obtain ⟨a, rfl, hi2⟩ := xPtr_elim hi1
  obtain ⟨i1, o1, rfl, hi3⟩ := xSome_elim hi2
  obtain ⟨v, env, rfl, hi4⟩ := eVal_elim hi3
  obtain ⟨x3, rfl, hi5⟩ := xStr_elim hi4
  obtain ⟨v, env, rfl, hi6⟩ := eVal_elim hi5
  obtain ⟨a11, n11, c11, e11, rfl, hi7⟩ := xSl_elim hi6
  obtain ⟨v, env, rfl, hi8⟩ := eVal_elim hi7
  obtain ⟨x12, rfl, hi9⟩ := eInt_elim hi8
  obtain ⟨v, env, rfl, hi10⟩ := eVal_elim hi9
  obtain ⟨x13, rfl, hi11⟩ := eInt_elim hi10
  obtain ⟨rfl, hi12⟩ := eNil_elim hi11
  have hi := hi12
  exact ⟨i1, o1, x3, a11, n11, c11, e11, x12, x13, rfl, hi⟩
def K0 (Q : QT) : KT := andThen (fun env' h' => (match kp.find 4000007 with | some ks => Den pg fn.ntmps (C [1, 1, 1]) (env'.keep ks) h' (KR Q) | none => den pg fn.ntmps kp (C [1, 1, 1]) env' h' (KR Q))) (KR Q)
def K1 (Q : QT) : KT := onExit 0 (K0 Q)
def K2 (Q : QT) : KT := left kp 3 (K1 Q)
def K3 (Q : QT) (R3 : T3) : KT := rnd ((kp.find 1000003).getD []) (E3 R3) (K2 Q)
def L3 (Q : QT) (i1 o1 : Nat) (x3 : List Nat) (a11 : Pt) (n11 c11 : Nat) (e11 : Bool) (x12 x13 : Int) (h : AHeap) : Prop := Loop (Den pg fn.ntmps (C [1, 1, 0, 1, 0, 0])) ((kp.find 1000003).getD []) (K2 Q) [(1, .ptr (some (i1, o1))), (3, .str x3), (11, .slice a11 n11 c11 e11), (12, .int .i64 x12), (13, .int .i64 x13)] h
def A3x0 (Q : QT) (i1 o1 : Nat) (x3 : List Nat) (h : AHeap) : Prop := At (K1 Q) (.exit 0) [(1, .ptr (some (i1, o1))), (3, .str x3)] h
def J9 (Q : QT) (x3 : List Nat) (h : AHeap) : Prop := Den pg fn.ntmps (C [1, 1, 1, 1]) [(3, .str x3)] h (KR Q)
def L3t (Q : QT) (R3 : T3) (i1 o1 : Nat) (x3 : List Nat) (a11 : Pt) (n11 c11 : Nat) (e11 : Bool) (x12 x13 : Int) (h : AHeap) : Prop :=
 bcase (decide ((x13 : Int) < x12)) ((0 ≤ (x13 : Int) ∧ (x13 : Int) < (n11 : Nat)) ∧ (xSome a11 fun i_9 o_10 => xRow (hRow h (.ptr (some (i_9, o_10 + (Int.toNat x13) * 2))) 2) fun cs_11 => xCons cs_11 fun c_12 r_13 => xInt .u8 (some c_12) fun x_14 => xCons r_13 fun c_15 r_16 => xSl (some c_15) fun a_17 n_18 c_19 e_20 => xNil r_16 (letH (h ++ [.cells t_spec_l1Node [.int .u8 0, .slice none 0 0 true] false]) fun h_21 => xHeap (hStore h_21 (.ptr (some (List.length h, 0))) [.int .u8 x_14, .slice a_17 n_18 c_19 e_20]) fun h_22 => (0 ≤ (x13 : Int) ∧ (x13 : Int) ≤ IntKind.wrap .i64 (x13 + 1) ∧ (IntKind.wrap .i64 (x13 + 1) : Int) ≤ (List.length ([40, 44]) : Nat)) ∧ (List.length x3 + List.length (sub ([40, 44]) x13 (IntKind.wrap .i64 (x13 + 1))) ≤ 9223372036854775807 ∧ (xRow (hRow h_22 (.ptr (some (List.length h, 0))) 2) fun cs_23 => xCons cs_23 fun c_24 r_25 => xInt .u8 (some c_24) fun x_26 => xCons r_25 fun c_27 r_28 => xSl (some c_27) fun a_29 n_30 c_31 e_32 => xNil r_28 (SCall pg n_spec_l1Text [.agg [.int .u8 x_26, .slice a_29 n_30 c_31 e_32]] h_22 fun v_33 h_34 =>
 xStr (some v_33) fun s_35 => List.length (x3 ++ (sub ([40, 44]) x13 (IntKind.wrap .i64 (x13 + 1)))) + List.length s_35 ≤ 9223372036854775807 ∧ (R3 i1 o1 ((x3 ++ (sub ([40, 44]) x13 (IntKind.wrap .i64 (x13 + 1)))) ++ s_35) a11 n11 c11 e11 x12 (IntKind.wrap .i64 (x13 + 1)) h_34))))))) (A3x0 Q i1 o1 x3 h)
theorem L3den (Q : QT) (R3 : T3) (i1 o1 : Nat) (x3 : List Nat) (a11 : Pt) (n11 c11 : Nat) (e11 : Bool) (x12 x13 : Int) (h : AHeap) (ht : L3t Q R3 i1 o1 x3 a11 n11 c11 e11 x12 x13 h) : Den pg fn.ntmps (C [1, 1, 0, 1, 0, 0]) [(1, .ptr (some (i1, o1))), (3, .str x3), (11, .slice a11 n11 c11 e11), (12, .int .i64 x12), (13, .int .i64 x13)] h (K3 Q R3) :=
  den_Den (kp := kp) (@cast _ (den pg fn.ntmps kp (C [1, 1, 0, 1, 0, 0]) [(1, .ptr (some (i1, o1))), (3, .str x3), (11, .slice a11 n11 c11 e11), (12, .int .i64 x12), (13, .int .i64 x13)] h (K3 Q R3)) (by kernel_rfl) ht)
theorem L3ind (Q : QT) (i1 o1 : Nat) (a11 : Pt) (n11 c11 : Nat) (e11 : Bool) (x12 : Int) {G : Type} (J : G → List Nat → Int → AHeap → Prop) (m : G → Nat)
 (hr : ∀ (g : G) (x3 : List Nat) (x13 : Int) (h : AHeap), J g x3 x13 h → ∀ (R3 : T3), (∀ g' (x3 : List Nat) (x13 : Int) (h : AHeap), m g' < m g → J g' x3 x13 h → R3 i1 o1 x3 a11 n11 c11 e11 x12 x13 h) → L3t Q R3 i1 o1 x3 a11 n11 c11 e11 x12 x13 h)
 (g : G) (x3 : List Nat) (x13 : Int) (h : AHeap) (hj : J g x3 x13 h) : L3 Q i1 o1 x3 a11 n11 c11 e11 x12 x13 h := by
  refine Loop.inv2 (fun g => E3 fun i1' o1' x3 a11' n11' c11' e11' x12' x13 h => i1 = i1' ∧ o1 = o1' ∧ a11 = a11' ∧ n11 = n11' ∧ c11 = c11' ∧ e11 = e11' ∧ x12 = x12' ∧ J g x3 x13 h) (fun g => E3 fun i1' o1' x3 a11' n11' c11' e11' x12' x13 h => i1 = i1' ∧ o1 = o1' ∧ a11 = a11' ∧ n11 = n11' ∧ c11 = c11' ∧ e11 = e11' ∧ x12 = x12' ∧ ∃ g', m g' < m g ∧ J g' x3 x13 h) m ?_ ?_ g ⟨rfl, rfl, rfl, rfl, rfl, rfl, rfl, hj⟩
  · intro g env h hi
    obtain ⟨i1', o1', x3, a11', n11', c11', e11', x12', x13, rfl, rfl, rfl, rfl, rfl, rfl, rfl, rfl, hj⟩ := E3elim hi
    exact L3den Q (fun i1' o1' x3 a11' n11' c11' e11' x12' x13 h => i1 = i1' ∧ o1 = o1' ∧ a11 = a11' ∧ n11 = n11' ∧ c11 = c11' ∧ e11 = e11' ∧ x12 = x12' ∧ ∃ g', m g' < m g ∧ J g' x3 x13 h) i1 o1 x3 a11 n11 c11 e11 x12 x13 h (hr g x3 x13 h hj (fun i1' o1' x3 a11' n11' c11' e11' x12' x13 h => i1 = i1' ∧ o1 = o1' ∧ a11 = a11' ∧ n11 = n11' ∧ c11 = c11' ∧ e11 = e11' ∧ x12 = x12' ∧ ∃ g', m g' < m g ∧ J g' x3 x13 h) fun g' x3 x13 h hlt hj => ⟨rfl, rfl, rfl, rfl, rfl, rfl, rfl, g', hlt, hj⟩)
  · intro g env h hi
    obtain ⟨i1', o1', x3, a11', n11', c11', e11', x12', x13, rfl, rfl, rfl, rfl, rfl, rfl, rfl, rfl, g', hlt, hj⟩ := E3elim hi
    exact ⟨g', hlt, rfl, rfl, rfl, rfl, rfl, rfl, rfl, hj⟩
theorem A3x0i (Q : QT) (i1 o1 : Nat) (x3 : List Nat) (h : AHeap) (ht :
 xSl (hCell h (.ptr (some (i1, o1 + 1)))) fun a_36 n_37 c_38 e_39 => bcase (decide (((((n_37 : Nat) : Int)) : Int) > 0)) (List.length x3 + List.length [41] ≤ 9223372036854775807 ∧ (J9 Q (x3 ++ [41]) h)) (J9 Q x3 h)) : A3x0 Q i1 o1 x3 h :=
  At.mk (@cast _ ((K1 Q) (.exit 0) [(1, .ptr (some (i1, o1))), (3, .str x3)] h) (by kernel_rfl) ht)
theorem J9i (Q : QT) (x3 : List Nat) (h : AHeap) (ht :
 Q (.str x3) h) : J9 Q x3 h :=
  den_Den (kp := kp) (@cast _ (den pg fn.ntmps kp (C [1, 1, 1, 1]) [(3, .str x3)] h (KR Q)) (by kernel_rfl) ht)
theorem call (x0x0 : Int) (a0x1 : Pt) (n0x1 c0x1 : Nat) (e0x1 : Bool) (h : AHeap) (Q : QT) (ht :
 letH (h ++ [.cells t_spec_l1Node [.int .u8 x0x0, .slice a0x1 n0x1 c0x1 e0x1] false]) fun h_0 => xInt .u8 (hCell h_0 (.ptr (some (List.length h, 0 + 0)))) fun x_1 => letH (h_0 ++ [.cells t_uint8 [.int .u8 x_1] false]) fun h_2 => xRow (rowOf h_2 (some (List.length h_0, 0)) 1) fun cs_3 => bytesA cs_3 fun s_4 => xSl (hCell h_2 (.ptr (some (List.length h, 0 + 1)))) fun a_5 n_6 c_7 e_8 => L3 Q (List.length h) 0 s_4 a_5 n_6 c_7 e_8 (((n_6 : Nat) : Int)) 0 h_2) : SCall pg n_spec_l1Text [.agg [.int .u8 x0x0, .slice a0x1 n0x1 c0x1 e0x1]] h Q :=
  SCall.of_body kp (c := cod fn) (fn := fn) Go.Proofs.Tryz.func99 (by kernel_rfl) (by kernel_rfl) (Nat.le_of_ble_eq_true (by kernel_rfl))
    (@cast _ (den pg fn.ntmps kp (cod fn) (Env.args 0 [.agg [.int .u8 x0x0, .slice a0x1 n0x1 c0x1 e0x1]]) h (KR Q)) (by kernel_rfl) ht)
end F_spec_l1Text
end Go.Sim
