/- Printed by wip/tool: what the functions' bodies do, in the words of 'den'. -/
import Derived.Test.YtgiiilhdmfddcaaDoorNm
set_option linter.unusedSimpArgs false
set_option linter.all false
set_option maxRecDepth 100000
set_option linter.unusedVariables false
namespace Go.Sim
open Go Go.RowKit
/-! Function loop.example/instancesearch/spec.l1In -/
namespace F_spec_l1In
noncomputable abbrev fn : Func := Go.Proofs.Tryd.f58
def kp : Keeps := []
noncomputable def C (p : List Nat) : Code := (cod fn).sub p
def KR (Q : QT) : KT := retA pg fn.results.toList Q
theorem call (x0 x1 x2 : Int) (h : AHeap) (Q : QT) (ht :
 bcase (decide ((x0 : Int) ≥ x1)) (Q (.bool (decide ((x0 : Int) ≤ x2))) h) (Q (.bool false) h)) : SCall pg n_spec_l1In [.int .i64 x0, .int .i64 x1, .int .i64 x2] h Q :=
  SCall.of_body kp (c := cod fn) (fn := fn) Go.Proofs.Tryd.func58 (by kernel_rfl) (by kernel_rfl) (Nat.le_of_ble_eq_true (by kernel_rfl))
    (@cast _ (den pg fn.ntmps kp (cod fn) (Env.args 0 [.int .i64 x0, .int .i64 x1, .int .i64 x2]) h (KR Q)) (by kernel_rfl) ht)
end F_spec_l1In
/-! Function loop.example/instancesearch/impl.isClass -/
namespace F_impl_isClass
noncomputable abbrev fn : Func := Go.Proofs.Tryd.f53
def kp : Keeps := []
noncomputable def C (p : List Nat) : Code := (cod fn).sub p
def KR (Q : QT) : KT := retA pg fn.results.toList Q
theorem call (x0 : List Nat) (h : AHeap) (Q : QT) (ht :
 bcase ((((List.length x0 : Nat) : Int) : Int) == 1) (bcase (!natLess x0 [65]) (Q (.bool (natLess x0 [84] || decide (x0 = [84]))) h) (Q (.bool false) h)) (Q (.bool false) h)) : SCall pg n_impl_isClass [.str x0] h Q :=
  SCall.of_body kp (c := cod fn) (fn := fn) Go.Proofs.Tryd.func53 (by kernel_rfl) (by kernel_rfl) (Nat.le_of_ble_eq_true (by kernel_rfl))
    (@cast _ (den pg fn.ntmps kp (cod fn) (Env.args 0 [.str x0]) h (KR Q)) (by kernel_rfl) ht)
end F_impl_isClass
/-! Function loop.example/instancesearch/spec.l3Capital -/
namespace F_spec_l3Capital
noncomputable abbrev fn : Func := Go.Proofs.Tryd.f49
def kp : Keeps := []
noncomputable def C (p : List Nat) : Code := (cod fn).sub p
def KR (Q : QT) : KT := retA pg fn.results.toList Q
theorem call (x0 : List Nat) (h : AHeap) (Q : QT) (ht :
 bcase ((((List.length x0 : Nat) : Int) : Int) == 1) (byteAt x0 0 fun b_0 => SCall pg n_spec_l1In [.int .i64 (IntKind.wrap .i64 (((b_0 : Nat) : Int))), .int .i64 65, .int .i64 84] h fun v_1 h_2 =>
 xBool (some v_1) fun b_3 => Q (.bool b_3) h_2) (Q (.bool false) h)) : SCall pg n_spec_l3Capital [.str x0] h Q :=
  SCall.of_body kp (c := cod fn) (fn := fn) Go.Proofs.Tryd.func49 (by kernel_rfl) (by kernel_rfl) (Nat.le_of_ble_eq_true (by kernel_rfl))
    (@cast _ (den pg fn.ntmps kp (cod fn) (Env.args 0 [.str x0]) h (KR Q)) (by kernel_rfl) ht)
end F_spec_l3Capital
/-! Function loop.example/instancesearch/impl.ParseNeed -/
namespace F_impl_ParseNeed
noncomputable abbrev fn : Func := Go.Proofs.Tryd.f42
def kp : Keeps := [(4000004, [4, 5, 2])]
noncomputable def C (p : List Nat) : Code := (cod fn).sub p
def KR (Q : QT) : KT := retA pg fn.results.toList Q
def J4 (Q : QT) (x4 x5 : List Nat) (i2 o2 : Nat) (h : AHeap) : Prop := Den pg fn.ntmps (C [1, 1, 1]) [(4, .str x4), (5, .str x5), (2, .ptr (some (i2, o2)))] h (KR Q)
theorem J4i (Q : QT) (x4 x5 : List Nat) (i2 o2 : Nat) (h : AHeap) (ht :
 xHeap (hStore h (.ptr (some (i2, o2))) [.str x4, .str x5]) fun h_43 => xRow (hRow h_43 (.ptr (some (i2, o2))) 2) fun cs_44 => xCons cs_44 fun c_45 r_46 => xStr (some c_45) fun s_47 => xCons r_46 fun c_48 r_49 => xStr (some c_48) fun s_50 => xNil r_49 (Q (.tup [.agg [.str s_47, .str s_50], .bool true]) h_43)) : J4 Q x4 x5 i2 o2 h :=
  den_Den (kp := kp) (@cast _ (den pg fn.ntmps kp (C [1, 1, 1]) [(4, .str x4), (5, .str x5), (2, .ptr (some (i2, o2)))] h (KR Q)) (by kernel_rfl) ht)
theorem call (x0 : List Nat) (h : AHeap) (Q : QT) (ht :
 letH (h ++ [.cells t_impl_Need [.str [], .str []] false]) fun h_0 => SCall pg n_strings_Cut [.str x0, .str [32]] h_0 fun v_1 h_2 =>
 xTup v_1 fun cs_3 => xCons cs_3 fun c_4 r_5 => xStr (some c_4) fun s_6 => xCons r_5 fun c_7 r_8 => xStr (some c_7) fun s_9 => xCons r_8 fun c_10 r_11 => xBool (some c_10) fun b_12 => xNil r_11 (bcase (!b_12) (xHeap (hStore h_2 (.ptr (some (List.length h, 0))) [.str [], .str []]) fun h_13 => xRow (hRow h_13 (.ptr (some (List.length h, 0))) 2) fun cs_14 => xCons cs_14 fun c_15 r_16 => xStr (some c_15) fun s_17 => xCons r_16 fun c_18 r_19 => xStr (some c_18) fun s_20 => xNil r_19 (Q (.tup [.agg [.str s_17, .str s_20], .bool false]) h_13)) (SCall pg n_impl_isClass [.str s_6] h_2 fun v_21 h_22 =>
 xBool (some v_21) fun b_23 => bcase (!b_23) (xHeap (hStore h_22 (.ptr (some (List.length h, 0))) [.str [], .str []]) fun h_24 => xRow (hRow h_24 (.ptr (some (List.length h, 0))) 2) fun cs_25 => xCons cs_25 fun c_26 r_27 => xStr (some c_26) fun s_28 => xCons r_27 fun c_29 r_30 => xStr (some c_29) fun s_31 => xNil r_30 (Q (.tup [.agg [.str s_28, .str s_31], .bool false]) h_24)) (SCall pg n_impl_TypeValid [.str s_9] h_22 fun v_32 h_33 =>
 xBool (some v_32) fun b_34 => bcase (!b_34) (xHeap (hStore h_33 (.ptr (some (List.length h, 0))) [.str [], .str []]) fun h_35 => xRow (hRow h_35 (.ptr (some (List.length h, 0))) 2) fun cs_36 => xCons cs_36 fun c_37 r_38 => xStr (some c_37) fun s_39 => xCons r_38 fun c_40 r_41 => xStr (some c_40) fun s_42 => xNil r_41 (Q (.tup [.agg [.str s_39, .str s_42], .bool false]) h_35)) (J4 Q s_6 s_9 (List.length h) 0 h_33))))) : SCall pg n_impl_ParseNeed [.str x0] h Q :=
  SCall.of_body kp (c := cod fn) (fn := fn) Go.Proofs.Tryd.func42 (by kernel_rfl) (by kernel_rfl) (Nat.le_of_ble_eq_true (by kernel_rfl))
    (@cast _ (den pg fn.ntmps kp (cod fn) (Env.args 0 [.str x0]) h (KR Q)) (by kernel_rfl) ht)
end F_impl_ParseNeed
/-! Function loop.example/instancesearch/spec.ParseNeed -/
namespace F_spec_ParseNeed
noncomputable abbrev fn : Func := Go.Proofs.Tryd.f40
def kp : Keeps := [(4000003, [0, 2]), (2000003, [2, 3])]
noncomputable def C (p : List Nat) : Code := (cod fn).sub p
def KR (Q : QT) : KT := retA pg fn.results.toList Q
def J3 (Q : QT) (x0 : List Nat) (i2 o2 : Nat) (h : AHeap) : Prop := Den pg fn.ntmps (C [1, 1]) [(0, .str x0), (2, .ptr (some (i2, o2)))] h (KR Q)
theorem J3i (Q : QT) (x0 : List Nat) (i2 o2 : Nat) (h : AHeap) (ht :
 (0 ≤ (0 : Int) ∧ (0 : Int) ≤ 1 ∧ (1 : Int) ≤ (List.length x0 : Nat)) ∧ ((0 ≤ (2 : Int) ∧ (2 : Int) ≤ (List.length x0 : Int) ∧ ((List.length x0 : Int) : Int) ≤ (List.length x0 : Nat)) ∧ (xHeap (hStore h (.ptr (some (i2, o2))) [.str (sub x0 0 1), .str (sub x0 2 ((List.length x0 : Int)))]) fun h_40 => xRow (hRow h_40 (.ptr (some (i2, o2))) 2) fun cs_41 => xCons cs_41 fun c_42 r_43 => xStr (some c_42) fun s_44 => xCons r_43 fun c_45 r_46 => xStr (some c_45) fun s_47 => xNil r_46 (Q (.tup [.agg [.str s_44, .str s_47], .bool true]) h_40)))) : J3 Q x0 i2 o2 h :=
  den_Den (kp := kp) (@cast _ (den pg fn.ntmps kp (C [1, 1]) [(0, .str x0), (2, .ptr (some (i2, o2)))] h (KR Q)) (by kernel_rfl) ht)
theorem call (x0 : List Nat) (h : AHeap) (Q : QT) (ht :
 letH (h ++ [.cells t_impl_Need [.str [], .str []] false]) fun h_0 => bcase (decide (((((List.length x0 : Nat) : Int)) : Int) < 3)) (xHeap (hStore h_0 (.ptr (some (List.length h, 0))) [.str [], .str []]) fun h_1 => xRow (hRow h_1 (.ptr (some (List.length h, 0))) 2) fun cs_2 => xCons cs_2 fun c_3 r_4 => xStr (some c_3) fun s_5 => xCons r_4 fun c_6 r_7 => xStr (some c_6) fun s_8 => xNil r_7 (Q (.tup [.agg [.str s_5, .str s_8], .bool false]) h_1)) (byteAt x0 1 fun b_9 => bcase (!((((b_9 : Nat) : Int) : Int) == 32)) (xHeap (hStore h_0 (.ptr (some (List.length h, 0))) [.str [], .str []]) fun h_10 => xRow (hRow h_10 (.ptr (some (List.length h, 0))) 2) fun cs_11 => xCons cs_11 fun c_12 r_13 => xStr (some c_12) fun s_14 => xCons r_13 fun c_15 r_16 => xStr (some c_15) fun s_17 => xNil r_16 (Q (.tup [.agg [.str s_14, .str s_17], .bool false]) h_10)) ((0 ≤ (0 : Int) ∧ (0 : Int) ≤ 1 ∧ (1 : Int) ≤ (List.length x0 : Nat)) ∧ (SCall pg n_spec_l3Capital [.str (sub x0 0 1)] h_0 fun v_18 h_19 =>
 xBool (some v_18) fun b_20 => bcase (!b_20) (xHeap (hStore h_19 (.ptr (some (List.length h, 0))) [.str [], .str []]) fun h_21 => xRow (hRow h_21 (.ptr (some (List.length h, 0))) 2) fun cs_22 => xCons cs_22 fun c_23 r_24 => xStr (some c_23) fun s_25 => xCons r_24 fun c_26 r_27 => xStr (some c_26) fun s_28 => xNil r_27 (Q (.tup [.agg [.str s_25, .str s_28], .bool false]) h_21)) ((0 ≤ (2 : Int) ∧ (2 : Int) ≤ (List.length x0 : Int) ∧ ((List.length x0 : Int) : Int) ≤ (List.length x0 : Nat)) ∧ (SCall pg n_spec_TypeValid [.str (sub x0 2 ((List.length x0 : Int)))] h_19 fun v_29 h_30 =>
 xBool (some v_29) fun b_31 => bcase (!b_31) (xHeap (hStore h_30 (.ptr (some (List.length h, 0))) [.str [], .str []]) fun h_32 => xRow (hRow h_32 (.ptr (some (List.length h, 0))) 2) fun cs_33 => xCons cs_33 fun c_34 r_35 => xStr (some c_34) fun s_36 => xCons r_35 fun c_37 r_38 => xStr (some c_37) fun s_39 => xNil r_38 (Q (.tup [.agg [.str s_36, .str s_39], .bool false]) h_32)) (J3 Q x0 (List.length h) 0 h_30))))))) : SCall pg n_spec_ParseNeed [.str x0] h Q :=
  SCall.of_body kp (c := cod fn) (fn := fn) Go.Proofs.Tryd.func40 (by kernel_rfl) (by kernel_rfl) (Nat.le_of_ble_eq_true (by kernel_rfl))
    (@cast _ (den pg fn.ntmps kp (cod fn) (Env.args 0 [.str x0]) h (KR Q)) (by kernel_rfl) ht)
end F_spec_ParseNeed
/-! Function loop.example/instancesearch/impl.ParseNeeds -/
namespace F_impl_ParseNeeds
noncomputable abbrev fn : Func := Go.Proofs.Tryd.f23
def kp : Keeps := [(3000005, [4, 2, 3]), (1000005, [4, 14, 15, 16])]
noncomputable def C (p : List Nat) : Code := (cod fn).sub p
def KR (Q : QT) : KT := retA pg fn.results.toList Q
abbrev T5 := Pt → Nat → Nat → Bool → Pt → Nat → Nat → Bool → Int → Int → AHeap → Prop
def E5 (R5 : T5) (env : Env) (h : AHeap) : Prop := eVal 4 env fun v env => xSl (some v) fun a4 n4 c4 e4 => eVal 14 env fun v env => xSl (some v) fun a14 n14 c14 e14 => eVal 15 env fun v env => eInt .i64 v fun x15 => eVal 16 env fun v env => eInt .i64 v fun x16 => eNil env (R5 a4 n4 c4 e4 a14 n14 c14 e14 x15 x16 h)
theorem E5elim {R5 : T5} {env : Env} {h : AHeap} (hi : E5 R5 env h) : ∃ a4, ∃ n4, ∃ c4, ∃ e4, ∃ a14, ∃ n14, ∃ c14, ∃ e14, ∃ x15, ∃ x16, env = [(4, .slice a4 n4 c4 e4), (14, .slice a14 n14 c14 e14), (15, .int .i64 x15), (16, .int .i64 x16)] ∧ R5 a4 n4 c4 e4 a14 n14 c14 e14 x15 x16 h := by
  unfold E5 at hi
  have hi0 := hi
  clear hi
  obtain ⟨v, env, rfl, hi1⟩ := eVal_elim hi0
  obtain ⟨a4, n4, c4, e4, rfl, hi2⟩ := xSl_elim hi1
  obtain ⟨v, env, rfl, hi3⟩ := eVal_elim hi2
  obtain ⟨a14, n14, c14, e14, rfl, hi4⟩ := xSl_elim hi3
  obtain ⟨v, env, rfl, hi5⟩ := eVal_elim hi4
  obtain ⟨x15, rfl, hi6⟩ := eInt_elim hi5
  obtain ⟨v, env, rfl, hi7⟩ := eVal_elim hi6
  obtain ⟨x16, rfl, hi8⟩ := eInt_elim hi7
  obtain ⟨rfl, hi9⟩ := eNil_elim hi8
  have hi := hi9
  exact ⟨a4, n4, c4, e4, a14, n14, c14, e14, x15, x16, rfl, hi⟩
def K0 (Q : QT) : KT := andThen (fun env' h' => (match kp.find 4000012 with | some ks => Den pg fn.ntmps (C [1, 1, 1, 1]) (env'.keep ks) h' (KR Q) | none => den pg fn.ntmps kp (C [1, 1, 1, 1]) env' h' (KR Q))) (KR Q)
def K1 (Q : QT) : KT := onExit 0 (K0 Q)
def K2 (Q : QT) : KT := left kp 5 (K1 Q)
def K3 (Q : QT) (R5 : T5) : KT := rnd ((kp.find 1000005).getD []) (E5 R5) (K2 Q)
def L5 (Q : QT) (a4 : Pt) (n4 c4 : Nat) (e4 : Bool) (a14 : Pt) (n14 c14 : Nat) (e14 : Bool) (x15 x16 : Int) (h : AHeap) : Prop := Loop (Den pg fn.ntmps (C [1, 1, 1, 0, 1, 0, 0])) ((kp.find 1000005).getD []) (K2 Q) [(4, .slice a4 n4 c4 e4), (14, .slice a14 n14 c14 e14), (15, .int .i64 x15), (16, .int .i64 x16)] h
def A5x0 (Q : QT) (a4 : Pt) (n4 c4 : Nat) (e4 : Bool) (h : AHeap) : Prop := At (K1 Q) (.exit 0) [(4, .slice a4 n4 c4 e4), (2, .undef), (3, .undef)] h
def L5t (Q : QT) (R5 : T5) (a4 : Pt) (n4 c4 : Nat) (e4 : Bool) (a14 : Pt) (n14 c14 : Nat) (e14 : Bool) (x15 x16 : Int) (h : AHeap) : Prop :=
 bcase (decide ((x16 : Int) < x15)) ((0 ≤ (x16 : Int) ∧ (x16 : Int) < (n14 : Nat)) ∧ (xSome a14 fun i_7 o_8 => xStr (hCell h (.ptr (some (i_7, o_8 + (Int.toNat x16) * 1)))) fun s_9 => SCall pg n_impl_ParseNeed [.str s_9] h fun v_10 h_11 =>
 xTup v_10 fun cs_12 => xCons cs_12 fun c_13 r_14 => xAgg c_13 fun cs_15 => xCons cs_15 fun c_16 r_17 => xStr (some c_16) fun s_18 => xCons r_17 fun c_19 r_20 => xStr (some c_19) fun s_21 => xNil r_20 (xCons r_14 fun c_22 r_23 => xBool (some c_22) fun b_24 => xNil r_23 (letH (h_11 ++ [.cells t_impl_Need [.str [], .str []] false]) fun h_25 => xHeap (hStore h_25 (.ptr (some (List.length h_11, 0))) [.str s_18, .str s_21]) fun h_26 => bcase (!b_24) (Q (.tup [.slice none 0 0 true, .bool false]) h_26) (xRow (hRow h_26 (.ptr (some (List.length h_11, 0))) 2) fun cs_27 => xCons cs_27 fun c_28 r_29 => xStr (some c_28) fun s_30 => xCons r_29 fun c_31 r_32 => xStr (some c_31) fun s_33 => xNil r_32 (letH (h_26 ++ [.cells t_impl_Need [.str s_30, .str s_33] false]) fun h_34 => appendA pg t_L_impl_Need h_34 (.slice a4 n4 c4 e4) (.slice (some (List.length h_26, 0)) 1 1 true) fun v_35 h_36 => xSl (some v_35) fun a_37 n_38 c_39 e_40 => R5 a_37 n_38 c_39 e_40 a14 n14 c14 e14 x15 (IntKind.wrap .i64 (x16 + 1)) h_36)))))) (A5x0 Q a4 n4 c4 e4 h)
theorem L5den (Q : QT) (R5 : T5) (a4 : Pt) (n4 c4 : Nat) (e4 : Bool) (a14 : Pt) (n14 c14 : Nat) (e14 : Bool) (x15 x16 : Int) (h : AHeap) (ht : L5t Q R5 a4 n4 c4 e4 a14 n14 c14 e14 x15 x16 h) : Den pg fn.ntmps (C [1, 1, 1, 0, 1, 0, 0]) [(4, .slice a4 n4 c4 e4), (14, .slice a14 n14 c14 e14), (15, .int .i64 x15), (16, .int .i64 x16)] h (K3 Q R5) :=
  den_Den (kp := kp) (@cast _ (den pg fn.ntmps kp (C [1, 1, 1, 0, 1, 0, 0]) [(4, .slice a4 n4 c4 e4), (14, .slice a14 n14 c14 e14), (15, .int .i64 x15), (16, .int .i64 x16)] h (K3 Q R5)) (by kernel_rfl) ht)
theorem L5ind (Q : QT) (a14 : Pt) (n14 c14 : Nat) (e14 : Bool) (x15 : Int) {G : Type} (J : G → Pt → Nat → Nat → Bool → Int → AHeap → Prop) (m : G → Nat)
 (hr : ∀ (g : G) (a4 : Pt) (n4 c4 : Nat) (e4 : Bool) (x16 : Int) (h : AHeap), J g a4 n4 c4 e4 x16 h → ∀ (R5 : T5), (∀ g' (a4 : Pt) (n4 c4 : Nat) (e4 : Bool) (x16 : Int) (h : AHeap), m g' < m g → J g' a4 n4 c4 e4 x16 h → R5 a4 n4 c4 e4 a14 n14 c14 e14 x15 x16 h) → L5t Q R5 a4 n4 c4 e4 a14 n14 c14 e14 x15 x16 h)
 (g : G) (a4 : Pt) (n4 c4 : Nat) (e4 : Bool) (x16 : Int) (h : AHeap) (hj : J g a4 n4 c4 e4 x16 h) : L5 Q a4 n4 c4 e4 a14 n14 c14 e14 x15 x16 h := by
  refine Loop.inv2 (fun g => E5 fun a4 n4 c4 e4 a14' n14' c14' e14' x15' x16 h => a14 = a14' ∧ n14 = n14' ∧ c14 = c14' ∧ e14 = e14' ∧ x15 = x15' ∧ J g a4 n4 c4 e4 x16 h) (fun g => E5 fun a4 n4 c4 e4 a14' n14' c14' e14' x15' x16 h => a14 = a14' ∧ n14 = n14' ∧ c14 = c14' ∧ e14 = e14' ∧ x15 = x15' ∧ ∃ g', m g' < m g ∧ J g' a4 n4 c4 e4 x16 h) m ?_ ?_ g ⟨rfl, rfl, rfl, rfl, rfl, hj⟩
  · intro g env h hi
    obtain ⟨a4, n4, c4, e4, a14', n14', c14', e14', x15', x16, rfl, rfl, rfl, rfl, rfl, rfl, hj⟩ := E5elim hi
    exact L5den Q (fun a4 n4 c4 e4 a14' n14' c14' e14' x15' x16 h => a14 = a14' ∧ n14 = n14' ∧ c14 = c14' ∧ e14 = e14' ∧ x15 = x15' ∧ ∃ g', m g' < m g ∧ J g' a4 n4 c4 e4 x16 h) a4 n4 c4 e4 a14 n14 c14 e14 x15 x16 h (hr g a4 n4 c4 e4 x16 h hj (fun a4 n4 c4 e4 a14' n14' c14' e14' x15' x16 h => a14 = a14' ∧ n14 = n14' ∧ c14 = c14' ∧ e14 = e14' ∧ x15 = x15' ∧ ∃ g', m g' < m g ∧ J g' a4 n4 c4 e4 x16 h) fun g' a4 n4 c4 e4 x16 h hlt hj => ⟨rfl, rfl, rfl, rfl, rfl, g', hlt, hj⟩)
  · intro g env h hi
    obtain ⟨a4, n4, c4, e4, a14', n14', c14', e14', x15', x16, rfl, rfl, rfl, rfl, rfl, rfl, g', hlt, hj⟩ := E5elim hi
    exact ⟨g', hlt, rfl, rfl, rfl, rfl, rfl, hj⟩
theorem A5x0i (Q : QT) (a4 : Pt) (n4 c4 : Nat) (e4 : Bool) (h : AHeap) (ht :
 Q (.tup [.slice a4 n4 c4 e4, .bool true]) h) : A5x0 Q a4 n4 c4 e4 h :=
  At.mk (@cast _ ((K1 Q) (.exit 0) [(4, .slice a4 n4 c4 e4), (2, .undef), (3, .undef)] h) (by kernel_rfl) ht)
theorem call (x0 : List Nat) (h : AHeap) (Q : QT) (ht :
 letH (h ++ [.cells t_impl_Need [] false]) fun h_0 => bcase (decide (x0 = [45])) (Q (.tup [.slice (some (List.length h, 0)) 0 0 true, .bool true]) h_0) (SCall pg n_strings_Split [.str x0, .str [38]] h_0 fun v_1 h_2 =>
 xSl (some v_1) fun a_3 n_4 c_5 e_6 => L5 Q (some (List.length h, 0)) 0 0 true a_3 n_4 c_5 e_6 (((n_4 : Nat) : Int)) 0 h_2)) : SCall pg n_impl_ParseNeeds [.str x0] h Q :=
  SCall.of_body kp (c := cod fn) (fn := fn) Go.Proofs.Tryd.func23 (by kernel_rfl) (by kernel_rfl) (Nat.le_of_ble_eq_true (by kernel_rfl))
    (@cast _ (den pg fn.ntmps kp (cod fn) (Env.args 0 [.str x0]) h (KR Q)) (by kernel_rfl) ht)
end F_impl_ParseNeeds
/-! Function loop.example/instancesearch/spec.ParseNeeds -/
namespace F_spec_ParseNeeds
noncomputable abbrev fn : Func := Go.Proofs.Tryd.f22
def kp : Keeps := [(3000005, [4, 2, 3]), (1000005, [4, 14, 15, 16])]
noncomputable def C (p : List Nat) : Code := (cod fn).sub p
def KR (Q : QT) : KT := retA pg fn.results.toList Q
abbrev T5 := Pt → Nat → Nat → Bool → Pt → Nat → Nat → Bool → Int → Int → AHeap → Prop
def E5 (R5 : T5) (env : Env) (h : AHeap) : Prop := eVal 4 env fun v env => xSl (some v) fun a4 n4 c4 e4 => eVal 14 env fun v env => xSl (some v) fun a14 n14 c14 e14 => eVal 15 env fun v env => eInt .i64 v fun x15 => eVal 16 env fun v env => eInt .i64 v fun x16 => eNil env (R5 a4 n4 c4 e4 a14 n14 c14 e14 x15 x16 h)
theorem E5elim {R5 : T5} {env : Env} {h : AHeap} (hi : E5 R5 env h) : ∃ a4, ∃ n4, ∃ c4, ∃ e4, ∃ a14, ∃ n14, ∃ c14, ∃ e14, ∃ x15, ∃ x16, env = [(4, .slice a4 n4 c4 e4), (14, .slice a14 n14 c14 e14), (15, .int .i64 x15), (16, .int .i64 x16)] ∧ R5 a4 n4 c4 e4 a14 n14 c14 e14 x15 x16 h := by
  unfold E5 at hi
  have hi0 := hi
  clear hi
  obtain ⟨v, env, rfl, hi1⟩ := eVal_elim hi0
  obtain ⟨a4, n4, c4, e4, rfl, hi2⟩ := xSl_elim hi1
  obtain ⟨v, env, rfl, hi3⟩ := eVal_elim hi2
  obtain ⟨a14, n14, c14, e14, rfl, hi4⟩ := xSl_elim hi3
  obtain ⟨v, env, rfl, hi5⟩ := eVal_elim hi4
  obtain ⟨x15, rfl, hi6⟩ := eInt_elim hi5
  obtain ⟨v, env, rfl, hi7⟩ := eVal_elim hi6
  obtain ⟨x16, rfl, hi8⟩ := eInt_elim hi7
  obtain ⟨rfl, hi9⟩ := eNil_elim hi8
  have hi := hi9
  exact ⟨a4, n4, c4, e4, a14, n14, c14, e14, x15, x16, rfl, hi⟩
def K0 (Q : QT) : KT := andThen (fun env' h' => (match kp.find 4000012 with | some ks => Den pg fn.ntmps (C [1, 1, 1, 1]) (env'.keep ks) h' (KR Q) | none => den pg fn.ntmps kp (C [1, 1, 1, 1]) env' h' (KR Q))) (KR Q)
def K1 (Q : QT) : KT := onExit 0 (K0 Q)
def K2 (Q : QT) : KT := left kp 5 (K1 Q)
def K3 (Q : QT) (R5 : T5) : KT := rnd ((kp.find 1000005).getD []) (E5 R5) (K2 Q)
def L5 (Q : QT) (a4 : Pt) (n4 c4 : Nat) (e4 : Bool) (a14 : Pt) (n14 c14 : Nat) (e14 : Bool) (x15 x16 : Int) (h : AHeap) : Prop := Loop (Den pg fn.ntmps (C [1, 1, 1, 0, 1, 0, 0])) ((kp.find 1000005).getD []) (K2 Q) [(4, .slice a4 n4 c4 e4), (14, .slice a14 n14 c14 e14), (15, .int .i64 x15), (16, .int .i64 x16)] h
def A5x0 (Q : QT) (a4 : Pt) (n4 c4 : Nat) (e4 : Bool) (h : AHeap) : Prop := At (K1 Q) (.exit 0) [(4, .slice a4 n4 c4 e4), (2, .undef), (3, .undef)] h
def L5t (Q : QT) (R5 : T5) (a4 : Pt) (n4 c4 : Nat) (e4 : Bool) (a14 : Pt) (n14 c14 : Nat) (e14 : Bool) (x15 x16 : Int) (h : AHeap) : Prop :=
 bcase (decide ((x16 : Int) < x15)) ((0 ≤ (x16 : Int) ∧ (x16 : Int) < (n14 : Nat)) ∧ (xSome a14 fun i_7 o_8 => xStr (hCell h (.ptr (some (i_7, o_8 + (Int.toNat x16) * 1)))) fun s_9 => SCall pg n_spec_ParseNeed [.str s_9] h fun v_10 h_11 =>
 xTup v_10 fun cs_12 => xCons cs_12 fun c_13 r_14 => xAgg c_13 fun cs_15 => xCons cs_15 fun c_16 r_17 => xStr (some c_16) fun s_18 => xCons r_17 fun c_19 r_20 => xStr (some c_19) fun s_21 => xNil r_20 (xCons r_14 fun c_22 r_23 => xBool (some c_22) fun b_24 => xNil r_23 (letH (h_11 ++ [.cells t_impl_Need [.str [], .str []] false]) fun h_25 => xHeap (hStore h_25 (.ptr (some (List.length h_11, 0))) [.str s_18, .str s_21]) fun h_26 => bcase (!b_24) (letH (h_26 ++ [.cells t_impl_Need [] false]) fun h_27 => Q (.tup [.slice (some (List.length h_26, 0)) 0 0 true, .bool false]) h_27) (xRow (hRow h_26 (.ptr (some (List.length h_11, 0))) 2) fun cs_28 => xCons cs_28 fun c_29 r_30 => xStr (some c_29) fun s_31 => xCons r_30 fun c_32 r_33 => xStr (some c_32) fun s_34 => xNil r_33 (letH (h_26 ++ [.cells t_impl_Need [.str s_31, .str s_34] false]) fun h_35 => appendA pg t_L_impl_Need h_35 (.slice a4 n4 c4 e4) (.slice (some (List.length h_26, 0)) 1 1 true) fun v_36 h_37 => xSl (some v_36) fun a_38 n_39 c_40 e_41 => R5 a_38 n_39 c_40 e_41 a14 n14 c14 e14 x15 (IntKind.wrap .i64 (x16 + 1)) h_37)))))) (A5x0 Q a4 n4 c4 e4 h)
theorem L5den (Q : QT) (R5 : T5) (a4 : Pt) (n4 c4 : Nat) (e4 : Bool) (a14 : Pt) (n14 c14 : Nat) (e14 : Bool) (x15 x16 : Int) (h : AHeap) (ht : L5t Q R5 a4 n4 c4 e4 a14 n14 c14 e14 x15 x16 h) : Den pg fn.ntmps (C [1, 1, 1, 0, 1, 0, 0]) [(4, .slice a4 n4 c4 e4), (14, .slice a14 n14 c14 e14), (15, .int .i64 x15), (16, .int .i64 x16)] h (K3 Q R5) :=
  den_Den (kp := kp) (@cast _ (den pg fn.ntmps kp (C [1, 1, 1, 0, 1, 0, 0]) [(4, .slice a4 n4 c4 e4), (14, .slice a14 n14 c14 e14), (15, .int .i64 x15), (16, .int .i64 x16)] h (K3 Q R5)) (by kernel_rfl) ht)
theorem L5ind (Q : QT) (a14 : Pt) (n14 c14 : Nat) (e14 : Bool) (x15 : Int) {G : Type} (J : G → Pt → Nat → Nat → Bool → Int → AHeap → Prop) (m : G → Nat)
 (hr : ∀ (g : G) (a4 : Pt) (n4 c4 : Nat) (e4 : Bool) (x16 : Int) (h : AHeap), J g a4 n4 c4 e4 x16 h → ∀ (R5 : T5), (∀ g' (a4 : Pt) (n4 c4 : Nat) (e4 : Bool) (x16 : Int) (h : AHeap), m g' < m g → J g' a4 n4 c4 e4 x16 h → R5 a4 n4 c4 e4 a14 n14 c14 e14 x15 x16 h) → L5t Q R5 a4 n4 c4 e4 a14 n14 c14 e14 x15 x16 h)
 (g : G) (a4 : Pt) (n4 c4 : Nat) (e4 : Bool) (x16 : Int) (h : AHeap) (hj : J g a4 n4 c4 e4 x16 h) : L5 Q a4 n4 c4 e4 a14 n14 c14 e14 x15 x16 h := by
  refine Loop.inv2 (fun g => E5 fun a4 n4 c4 e4 a14' n14' c14' e14' x15' x16 h => a14 = a14' ∧ n14 = n14' ∧ c14 = c14' ∧ e14 = e14' ∧ x15 = x15' ∧ J g a4 n4 c4 e4 x16 h) (fun g => E5 fun a4 n4 c4 e4 a14' n14' c14' e14' x15' x16 h => a14 = a14' ∧ n14 = n14' ∧ c14 = c14' ∧ e14 = e14' ∧ x15 = x15' ∧ ∃ g', m g' < m g ∧ J g' a4 n4 c4 e4 x16 h) m ?_ ?_ g ⟨rfl, rfl, rfl, rfl, rfl, hj⟩
  · intro g env h hi
    obtain ⟨a4, n4, c4, e4, a14', n14', c14', e14', x15', x16, rfl, rfl, rfl, rfl, rfl, rfl, hj⟩ := E5elim hi
    exact L5den Q (fun a4 n4 c4 e4 a14' n14' c14' e14' x15' x16 h => a14 = a14' ∧ n14 = n14' ∧ c14 = c14' ∧ e14 = e14' ∧ x15 = x15' ∧ ∃ g', m g' < m g ∧ J g' a4 n4 c4 e4 x16 h) a4 n4 c4 e4 a14 n14 c14 e14 x15 x16 h (hr g a4 n4 c4 e4 x16 h hj (fun a4 n4 c4 e4 a14' n14' c14' e14' x15' x16 h => a14 = a14' ∧ n14 = n14' ∧ c14 = c14' ∧ e14 = e14' ∧ x15 = x15' ∧ ∃ g', m g' < m g ∧ J g' a4 n4 c4 e4 x16 h) fun g' a4 n4 c4 e4 x16 h hlt hj => ⟨rfl, rfl, rfl, rfl, rfl, g', hlt, hj⟩)
  · intro g env h hi
    obtain ⟨a4, n4, c4, e4, a14', n14', c14', e14', x15', x16, rfl, rfl, rfl, rfl, rfl, rfl, g', hlt, hj⟩ := E5elim hi
    exact ⟨g', hlt, rfl, rfl, rfl, rfl, rfl, hj⟩
theorem A5x0i (Q : QT) (a4 : Pt) (n4 c4 : Nat) (e4 : Bool) (h : AHeap) (ht :
 Q (.tup [.slice a4 n4 c4 e4, .bool true]) h) : A5x0 Q a4 n4 c4 e4 h :=
  At.mk (@cast _ ((K1 Q) (.exit 0) [(4, .slice a4 n4 c4 e4), (2, .undef), (3, .undef)] h) (by kernel_rfl) ht)
theorem call (x0 : List Nat) (h : AHeap) (Q : QT) (ht :
 letH (h ++ [.cells t_impl_Need [] false]) fun h_0 => bcase (decide (x0 = [45])) (Q (.tup [.slice (some (List.length h, 0)) 0 0 true, .bool true]) h_0) (SCall pg n_spec_l13Cut [.str x0, .int .u8 38] h_0 fun v_1 h_2 =>
 xSl (some v_1) fun a_3 n_4 c_5 e_6 => L5 Q (some (List.length h, 0)) 0 0 true a_3 n_4 c_5 e_6 (((n_4 : Nat) : Int)) 0 h_2)) : SCall pg n_spec_ParseNeeds [.str x0] h Q :=
  SCall.of_body kp (c := cod fn) (fn := fn) Go.Proofs.Tryd.func22 (by kernel_rfl) (by kernel_rfl) (Nat.le_of_ble_eq_true (by kernel_rfl))
    (@cast _ (den pg fn.ntmps kp (cod fn) (Env.args 0 [.str x0]) h (KR Q)) (by kernel_rfl) ht)
end F_spec_ParseNeeds
end Go.Sim
