/- Printed by wip/tool: what the functions' bodies do, in the words of 'den'. -/
import Derived.Test.YtgiiilhdmfddcaaNm
set_option linter.unusedSimpArgs false
set_option linter.all false
set_option maxRecDepth 100000
set_option linter.unusedVariables false
namespace Go.Sim
open Go Go.RowKit
/-! Function loop.example/instancesearch/spec.DrawSmallTypes -/
namespace F_spec_DrawSmallTypes
noncomputable abbrev fn : Func := Go.Proofs.Try.f21
def kp : Keeps := []
noncomputable def C (p : List Nat) : Code := (cod fn).sub p
def KR (Q : QT) : KT := retA pg fn.results.toList Q
theorem call (a0 : Pt) (n0 c0 : Nat) (e0 : Bool) (h : AHeap) (Q : QT) (ht :
 SCall pg n_spec_l13Open [.slice a0 n0 c0 e0] h fun v_0 h_1 =>
 xPtr (some v_0) fun a_2 => letH (h_1 ++ [.cells t_int [.int .i64 2, .int .i64 3, .int .i64 1, .int .i64 4, .int .i64 0, .int .i64 5, .int .i64 (-1)] false]) fun h_3 => SCall pg n_spec_l13Rd_num [.ptr a_2, .slice (some (List.length h_1, 0)) 7 7 true] h_3 fun v_4 h_5 =>
 xInt .i64 (some v_4) fun x_6 => Q (.int .i64 x_6) h_5) : SCall pg n_spec_DrawSmallTypes [.slice a0 n0 c0 e0] h Q :=
  SCall.of_body kp (c := cod fn) (fn := fn) Go.Proofs.Try.func21 (by kernel_rfl) (by kernel_rfl) (Nat.le_of_ble_eq_true (by kernel_rfl))
    (@cast _ (den pg fn.ntmps kp (cod fn) (Env.args 0 [.slice a0 n0 c0 e0]) h (KR Q)) (by kernel_rfl) ht)
end F_spec_DrawSmallTypes
/-! Function loop.example/instancesearch/laws.FnSmallTypes -/
namespace F_laws_FnSmallTypes
noncomputable abbrev fn : Func := Go.Proofs.Try.f6
def kp : Keeps := [(4000003, [0, 1]), (4000008, [1, 6, 5]), (3000010, [5, 6, 4]), (1000010, [5, 6, 10, 59, 60, 61]), (4000014, [11, 6, 10, 12, 61, 60, 59, 5]), (4000016, [61, 60, 59, 5, 6, 10])]
noncomputable def C (p : List Nat) : Code := (cod fn).sub p
def KR (Q : QT) : KT := retA pg fn.results.toList Q
abbrev T10 := Int → Pt → Nat → Nat → Bool → Int → Pt → Nat → Nat → Bool → Int → Int → AHeap → Prop
def E10 (R10 : T10) (env : Env) (h : AHeap) : Prop := eVal 5 env fun v env => eInt .i64 v fun x5 => eVal 6 env fun v env => xSl (some v) fun a6 n6 c6 e6 => eVal 10 env fun v env => eInt .i64 v fun x10 => eVal 59 env fun v env => xSl (some v) fun a59 n59 c59 e59 => eVal 60 env fun v env => eInt .i64 v fun x60 => eVal 61 env fun v env => eInt .i64 v fun x61 => eNil env (R10 x5 a6 n6 c6 e6 x10 a59 n59 c59 e59 x60 x61 h)
theorem E10elim {R10 : T10} {env : Env} {h : AHeap} (hi : E10 R10 env h) : ∃ x5, ∃ a6, ∃ n6, ∃ c6, ∃ e6, ∃ x10, ∃ a59, ∃ n59, ∃ c59, ∃ e59, ∃ x60, ∃ x61, env = [(5, .int .i64 x5), (6, .slice a6 n6 c6 e6), (10, .int .i64 x10), (59, .slice a59 n59 c59 e59), (60, .int .i64 x60), (61, .int .i64 x61)] ∧ R10 x5 a6 n6 c6 e6 x10 a59 n59 c59 e59 x60 x61 h := by
  unfold E10 at hi
  have hi0 := hi
  clear hi
  obtain ⟨v, env, rfl, hi1⟩ := eVal_elim hi0
  obtain ⟨x5, rfl, hi2⟩ := eInt_elim hi1
  obtain ⟨v, env, rfl, hi3⟩ := eVal_elim hi2
  obtain ⟨a6, n6, c6, e6, rfl, hi4⟩ := xSl_elim hi3
  obtain ⟨v, env, rfl, hi5⟩ := eVal_elim hi4
  obtain ⟨x10, rfl, hi6⟩ := eInt_elim hi5
  obtain ⟨v, env, rfl, hi7⟩ := eVal_elim hi6
  obtain ⟨a59, n59, c59, e59, rfl, hi8⟩ := xSl_elim hi7
  obtain ⟨v, env, rfl, hi9⟩ := eVal_elim hi8
  obtain ⟨x60, rfl, hi10⟩ := eInt_elim hi9
  obtain ⟨v, env, rfl, hi11⟩ := eVal_elim hi10
  obtain ⟨x61, rfl, hi12⟩ := eInt_elim hi11
  obtain ⟨rfl, hi13⟩ := eNil_elim hi12
  have hi := hi13
  exact ⟨x5, a6, n6, c6, e6, x10, a59, n59, c59, e59, x60, x61, rfl, hi⟩
def K0 (Q : QT) : KT := andThen (fun env' h' => (match kp.find 4000017 with | some ks => Den pg fn.ntmps (C [1, 1, 1, 1, 1, 1, 1, 1]) (env'.keep ks) h' (KR Q) | none => den pg fn.ntmps kp (C [1, 1, 1, 1, 1, 1, 1, 1]) env' h' (KR Q))) (KR Q)
def K1 (Q : QT) : KT := onExit 0 (K0 Q)
def K2 (Q : QT) : KT := left kp 10 (K1 Q)
def K3 (Q : QT) (R10 : T10) : KT := rnd ((kp.find 1000010).getD []) (E10 R10) (K2 Q)
def K4 (Q : QT) (R10 : T10) : KT := andThen (fun env' h' => (match kp.find 4000016 with | some ks => Den pg fn.ntmps (C [1, 1, 1, 1, 1, 1, 1, 0, 1, 0, 0, 1, 1, 1]) (env'.keep ks) h' (K3 Q R10) | none => den pg fn.ntmps kp (C [1, 1, 1, 1, 1, 1, 1, 0, 1, 0, 0, 1, 1, 1]) env' h' (K3 Q R10))) (K3 Q R10)
def K5 (Q : QT) (R10 : T10) : KT := onExit 1 (K4 Q R10)
def J3 (Q : QT) (a0 : Pt) (n0 c0 : Nat) (e0 : Bool) (a1 : Pt) (n1 c1 : Nat) (e1 : Bool) (h : AHeap) : Prop := Den pg fn.ntmps (C [1, 1]) [(0, .slice a0 n0 c0 e0), (1, .slice a1 n1 c1 e1)] h (KR Q)
def J8 (Q : QT) (a1 : Pt) (n1 c1 : Nat) (e1 : Bool) (a6 : Pt) (n6 c6 : Nat) (e6 : Bool) (x5 : Int) (h : AHeap) : Prop := Den pg fn.ntmps (C [1, 1, 1, 1, 1, 1]) [(1, .slice a1 n1 c1 e1), (6, .slice a6 n6 c6 e6), (5, .int .i64 x5)] h (KR Q)
def L10 (Q : QT) (x5 : Int) (a6 : Pt) (n6 c6 : Nat) (e6 : Bool) (x10 : Int) (a59 : Pt) (n59 c59 : Nat) (e59 : Bool) (x60 x61 : Int) (h : AHeap) : Prop := Loop (Den pg fn.ntmps (C [1, 1, 1, 1, 1, 1, 1, 0, 1, 0, 0])) ((kp.find 1000010).getD []) (K2 Q) [(5, .int .i64 x5), (6, .slice a6 n6 c6 e6), (10, .int .i64 x10), (59, .slice a59 n59 c59 e59), (60, .int .i64 x60), (61, .int .i64 x61)] h
def J14 (Q : QT) (R10 : T10) (x11 : Int) (a6 : Pt) (n6 c6 : Nat) (e6 : Bool) (x10 : Int) (x12 : List Nat) (x61 x60 : Int) (a59 : Pt) (n59 c59 : Nat) (e59 : Bool) (x5 : Int) (h : AHeap) : Prop := Den pg fn.ntmps (C [1, 1, 1, 1, 1, 1, 1, 0, 1, 0, 0, 1, 1, 0, 0, 1, 1]) [(11, .int .i64 x11), (6, .slice a6 n6 c6 e6), (10, .int .i64 x10), (12, .str x12), (61, .int .i64 x61), (60, .int .i64 x60), (59, .slice a59 n59 c59 e59), (5, .int .i64 x5)] h (K5 Q R10)
def A10x0 (Q : QT) (x5 : Int) (a6 : Pt) (n6 c6 : Nat) (e6 : Bool) (h : AHeap) : Prop := At (K1 Q) (.exit 0) [(5, .int .i64 x5), (6, .slice a6 n6 c6 e6), (4, .undef)] h
def J16 (Q : QT) (R10 : T10) (x61 x60 : Int) (a59 : Pt) (n59 c59 : Nat) (e59 : Bool) (x5 : Int) (a6 : Pt) (n6 c6 : Nat) (e6 : Bool) (x10 : Int) (h : AHeap) : Prop := Den pg fn.ntmps (C [1, 1, 1, 1, 1, 1, 1, 0, 1, 0, 0, 1, 1, 1]) [(61, .int .i64 x61), (60, .int .i64 x60), (59, .slice a59 n59 c59 e59), (5, .int .i64 x5), (6, .slice a6 n6 c6 e6), (10, .int .i64 x10)] h (K3 Q R10)
theorem J3i (Q : QT) (a0 : Pt) (n0 c0 : Nat) (e0 : Bool) (a1 : Pt) (n1 c1 : Nat) (e1 : Bool) (h : AHeap) (ht :
 SCall pg n_spec_DrawSmallTypes [.slice a0 n0 c0 e0] h fun v_0 h_1 =>
 xInt .i64 (some v_0) fun x_2 => SCall pg n_impl_SmallTypes [.int .i64 x_2] h_1 fun v_3 h_4 =>
 xTup v_3 fun cs_5 => xCons cs_5 fun c_6 r_7 => xSl (some c_6) fun a_8 n_9 c_10 e_11 => xCons r_7 fun c_12 r_13 => xBool (some c_12) fun b_14 => xNil r_13 (SCall pg n_spec_SmallTypes [.int .i64 x_2] h_4 fun v_15 h_16 =>
 xTup v_15 fun cs_17 => xCons cs_17 fun c_18 r_19 => xSl (some c_18) fun a_20 n_21 c_22 e_23 => xCons r_19 fun c_24 r_25 => xBool (some c_24) fun b_26 => xNil r_25 (SCall pg n_laws_inTexts [.slice a_8 n_9 c_10 e_11, .slice a_20 n_21 c_22 e_23] h_16 fun v_27 h_28 =>
 xBool (some v_27) fun b_29 => bcase (!b_29) (SCall pg n_laws_inTexts [.slice a_8 n_9 c_10 e_11, .slice a_20 n_21 c_22 e_23] h_28 fun v_30 h_31 =>
 xBool (some v_30) fun b_32 => bcase b_32 (Q (.bool (b_14 == b_26)) h_31) (Q (.bool false) h_31)) (bcase (!(b_14 == b_26)) (SCall pg n_laws_inTexts [.slice a_8 n_9 c_10 e_11, .slice a_20 n_21 c_22 e_23] h_28 fun v_33 h_34 =>
 xBool (some v_33) fun b_35 => bcase b_35 (Q (.bool (b_14 == b_26)) h_34) (Q (.bool false) h_34)) (bcase (!b_14) (SCall pg n_laws_inTexts [.slice a_8 n_9 c_10 e_11, .slice a_20 n_21 c_22 e_23] h_28 fun v_36 h_37 =>
 xBool (some v_36) fun b_38 => bcase b_38 (Q (.bool (b_14 == b_26)) h_37) (Q (.bool false) h_37)) (J8 Q a1 n1 c1 e1 a_8 n_9 c_10 e_11 x_2 h_28)))))) : J3 Q a0 n0 c0 e0 a1 n1 c1 e1 h :=
  den_Den (kp := kp) (@cast _ (den pg fn.ntmps kp (C [1, 1]) [(0, .slice a0 n0 c0 e0), (1, .slice a1 n1 c1 e1)] h (KR Q)) (by kernel_rfl) ht)
theorem J8i (Q : QT) (a1 : Pt) (n1 c1 : Nat) (e1 : Bool) (a6 : Pt) (n6 c6 : Nat) (e6 : Bool) (x5 : Int) (h : AHeap) (ht :
 L10 Q x5 a6 n6 c6 e6 (IntKind.wrap .i64 ((((n1 : Nat) : Int)) * 7)) a6 n6 c6 e6 (((n6 : Nat) : Int)) 0 h) : J8 Q a1 n1 c1 e1 a6 n6 c6 e6 x5 h :=
  den_Den (kp := kp) (@cast _ (den pg fn.ntmps kp (C [1, 1, 1, 1, 1, 1]) [(1, .slice a1 n1 c1 e1), (6, .slice a6 n6 c6 e6), (5, .int .i64 x5)] h (KR Q)) (by kernel_rfl) ht)
def L10t (Q : QT) (R10 : T10) (x5 : Int) (a6 : Pt) (n6 c6 : Nat) (e6 : Bool) (x10 : Int) (a59 : Pt) (n59 c59 : Nat) (e59 : Bool) (x60 x61 : Int) (h : AHeap) : Prop :=
 bcase (decide ((x61 : Int) < x60)) ((0 ≤ (x61 : Int) ∧ (x61 : Int) < (n59 : Nat)) ∧ (xSome a59 fun i_39 o_40 => xStr (hCell h (.ptr (some (i_39, o_40 + (Int.toNat x61) * 1)))) fun s_41 => SCall pg n_impl_IsGround [.str s_41] h fun v_42 h_43 =>
 xBool (some v_42) fun b_44 => bcase (!b_44) (Q (.bool false) h_43) (SCall pg n_impl_SizeOf [.str s_41] h_43 fun v_45 h_46 =>
 xInt .i64 (some v_45) fun x_47 => bcase (decide ((x_47 : Int) > x5)) (Q (.bool false) h_46) (bcase (decide ((x61 : Int) > 0)) ((0 ≤ (IntKind.wrap .i64 (x61 - 1) : Int) ∧ (IntKind.wrap .i64 (x61 - 1) : Int) < (n6 : Nat)) ∧ (xSome a6 fun i_48 o_49 => xStr (hCell h_46 (.ptr (some (i_48, o_49 + (Int.toNat (IntKind.wrap .i64 (x61 - 1))) * 1)))) fun s_50 => SCall pg n_impl_SizeOf [.str s_50] h_46 fun v_51 h_52 =>
 xInt .i64 (some v_51) fun x_53 => SCall pg n_impl_SizeOf [.str s_41] h_52 fun v_54 h_55 =>
 xInt .i64 (some v_54) fun x_56 => bcase (decide ((x_53 : Int) > x_56)) (Q (.bool false) h_55) (J14 Q R10 x61 a6 n6 c6 e6 x10 s_41 x61 x60 a59 n59 c59 e59 x5 h_55))) (J14 Q R10 x61 a6 n6 c6 e6 x10 s_41 x61 x60 a59 n59 c59 e59 x5 h_46))))) (A10x0 Q x5 a6 n6 c6 e6 h)
theorem L10den (Q : QT) (R10 : T10) (x5 : Int) (a6 : Pt) (n6 c6 : Nat) (e6 : Bool) (x10 : Int) (a59 : Pt) (n59 c59 : Nat) (e59 : Bool) (x60 x61 : Int) (h : AHeap) (ht : L10t Q R10 x5 a6 n6 c6 e6 x10 a59 n59 c59 e59 x60 x61 h) : Den pg fn.ntmps (C [1, 1, 1, 1, 1, 1, 1, 0, 1, 0, 0]) [(5, .int .i64 x5), (6, .slice a6 n6 c6 e6), (10, .int .i64 x10), (59, .slice a59 n59 c59 e59), (60, .int .i64 x60), (61, .int .i64 x61)] h (K3 Q R10) :=
  den_Den (kp := kp) (@cast _ (den pg fn.ntmps kp (C [1, 1, 1, 1, 1, 1, 1, 0, 1, 0, 0]) [(5, .int .i64 x5), (6, .slice a6 n6 c6 e6), (10, .int .i64 x10), (59, .slice a59 n59 c59 e59), (60, .int .i64 x60), (61, .int .i64 x61)] h (K3 Q R10)) (by kernel_rfl) ht)
theorem L10ind (Q : QT) (x5 : Int) (a6 : Pt) (n6 c6 : Nat) (e6 : Bool) (x10 : Int) (a59 : Pt) (n59 c59 : Nat) (e59 : Bool) (x60 : Int) {G : Type} (J : G → Int → AHeap → Prop) (m : G → Nat)
 (hr : ∀ (g : G) (x61 : Int) (h : AHeap), J g x61 h → ∀ (R10 : T10), (∀ g' (x61 : Int) (h : AHeap), m g' < m g → J g' x61 h → R10 x5 a6 n6 c6 e6 x10 a59 n59 c59 e59 x60 x61 h) → L10t Q R10 x5 a6 n6 c6 e6 x10 a59 n59 c59 e59 x60 x61 h)
 (g : G) (x61 : Int) (h : AHeap) (hj : J g x61 h) : L10 Q x5 a6 n6 c6 e6 x10 a59 n59 c59 e59 x60 x61 h := by
  refine Loop.inv2 (fun g => E10 fun x5' a6' n6' c6' e6' x10' a59' n59' c59' e59' x60' x61 h => x5 = x5' ∧ a6 = a6' ∧ n6 = n6' ∧ c6 = c6' ∧ e6 = e6' ∧ x10 = x10' ∧ a59 = a59' ∧ n59 = n59' ∧ c59 = c59' ∧ e59 = e59' ∧ x60 = x60' ∧ J g x61 h) (fun g => E10 fun x5' a6' n6' c6' e6' x10' a59' n59' c59' e59' x60' x61 h => x5 = x5' ∧ a6 = a6' ∧ n6 = n6' ∧ c6 = c6' ∧ e6 = e6' ∧ x10 = x10' ∧ a59 = a59' ∧ n59 = n59' ∧ c59 = c59' ∧ e59 = e59' ∧ x60 = x60' ∧ ∃ g', m g' < m g ∧ J g' x61 h) m ?_ ?_ g ⟨rfl, rfl, rfl, rfl, rfl, rfl, rfl, rfl, rfl, rfl, rfl, hj⟩
  · intro g env h hi
    obtain ⟨x5', a6', n6', c6', e6', x10', a59', n59', c59', e59', x60', x61, rfl, rfl, rfl, rfl, rfl, rfl, rfl, rfl, rfl, rfl, rfl, rfl, hj⟩ := E10elim hi
    exact L10den Q (fun x5' a6' n6' c6' e6' x10' a59' n59' c59' e59' x60' x61 h => x5 = x5' ∧ a6 = a6' ∧ n6 = n6' ∧ c6 = c6' ∧ e6 = e6' ∧ x10 = x10' ∧ a59 = a59' ∧ n59 = n59' ∧ c59 = c59' ∧ e59 = e59' ∧ x60 = x60' ∧ ∃ g', m g' < m g ∧ J g' x61 h) x5 a6 n6 c6 e6 x10 a59 n59 c59 e59 x60 x61 h (hr g x61 h hj (fun x5' a6' n6' c6' e6' x10' a59' n59' c59' e59' x60' x61 h => x5 = x5' ∧ a6 = a6' ∧ n6 = n6' ∧ c6 = c6' ∧ e6 = e6' ∧ x10 = x10' ∧ a59 = a59' ∧ n59 = n59' ∧ c59 = c59' ∧ e59 = e59' ∧ x60 = x60' ∧ ∃ g', m g' < m g ∧ J g' x61 h) fun g' x61 h hlt hj => ⟨rfl, rfl, rfl, rfl, rfl, rfl, rfl, rfl, rfl, rfl, rfl, g', hlt, hj⟩)
  · intro g env h hi
    obtain ⟨x5', a6', n6', c6', e6', x10', a59', n59', c59', e59', x60', x61, rfl, rfl, rfl, rfl, rfl, rfl, rfl, rfl, rfl, rfl, rfl, rfl, g', hlt, hj⟩ := E10elim hi
    exact ⟨g', hlt, rfl, rfl, rfl, rfl, rfl, rfl, rfl, rfl, rfl, rfl, rfl, hj⟩
theorem J14i (Q : QT) (R10 : T10) (x11 : Int) (a6 : Pt) (n6 c6 : Nat) (e6 : Bool) (x10 : Int) (x12 : List Nat) (x61 x60 : Int) (a59 : Pt) (n59 c59 : Nat) (e59 : Bool) (x5 : Int) (h : AHeap) (ht :
 bcase (decide ((x11 : Int) > 0)) ((x11 : Int) ≠ 0 ∧ ((0 ≤ (Int.tmod (IntKind.wrap .i64 (x11 + x10)) x11 : Int) ∧ (Int.tmod (IntKind.wrap .i64 (x11 + x10)) x11 : Int) < (n6 : Nat)) ∧ (xSome a6 fun i_57 o_58 => xStr (hCell h (.ptr (some (i_57, o_58 + (Int.toNat (Int.tmod (IntKind.wrap .i64 (x11 + x10)) x11)) * 1)))) fun s_59 => bcase (decide (s_59 = x12)) (Q (.bool false) h) (J16 Q R10 x61 x60 a59 n59 c59 e59 x5 a6 n6 c6 e6 x10 h)))) (J16 Q R10 x61 x60 a59 n59 c59 e59 x5 a6 n6 c6 e6 x10 h)) : J14 Q R10 x11 a6 n6 c6 e6 x10 x12 x61 x60 a59 n59 c59 e59 x5 h :=
  den_Den (kp := kp) (@cast _ (den pg fn.ntmps kp (C [1, 1, 1, 1, 1, 1, 1, 0, 1, 0, 0, 1, 1, 0, 0, 1, 1]) [(11, .int .i64 x11), (6, .slice a6 n6 c6 e6), (10, .int .i64 x10), (12, .str x12), (61, .int .i64 x61), (60, .int .i64 x60), (59, .slice a59 n59 c59 e59), (5, .int .i64 x5)] h (K5 Q R10)) (by kernel_rfl) ht)
theorem A10x0i (Q : QT) (x5 : Int) (a6 : Pt) (n6 c6 : Nat) (e6 : Bool) (h : AHeap) (ht :
 SCall pg n_impl_SmallTypes [.int .i64 (IntKind.wrap .i64 (x5 - 1))] h fun v_60 h_61 =>
 xTup v_60 fun cs_62 => xCons cs_62 fun c_63 r_64 => xSl (some c_63) fun a_65 n_66 c_67 e_68 => xCons r_64 fun c_69 r_70 => xBool (some c_69) fun b_71 => xNil r_70 (bcase (b_71 == (decide ((x5 : Int) > 1))) (sliceSl a6 n6 c6 e6 1 none (some (.int .i64 (((n_66 : Nat) : Int)))) none fun v_72 => xSl (some v_72) fun a_73 n_74 c_75 e_76 => SCall pg n_laws_inTexts [.slice a_73 n_74 c_75 e_76, .slice a_65 n_66 c_67 e_68] h_61 fun v_77 h_78 =>
 xBool (some v_77) fun b_79 => Q (.bool b_79) h_78) (Q (.bool false) h_61))) : A10x0 Q x5 a6 n6 c6 e6 h :=
  At.mk (@cast _ ((K1 Q) (.exit 0) [(5, .int .i64 x5), (6, .slice a6 n6 c6 e6), (4, .undef)] h) (by kernel_rfl) ht)
theorem J16i (Q : QT) (R10 : T10) (x61 x60 : Int) (a59 : Pt) (n59 c59 : Nat) (e59 : Bool) (x5 : Int) (a6 : Pt) (n6 c6 : Nat) (e6 : Bool) (x10 : Int) (h : AHeap) (ht :
 R10 x5 a6 n6 c6 e6 x10 a59 n59 c59 e59 x60 (IntKind.wrap .i64 (x61 + 1)) h) : J16 Q R10 x61 x60 a59 n59 c59 e59 x5 a6 n6 c6 e6 x10 h :=
  den_Den (kp := kp) (@cast _ (den pg fn.ntmps kp (C [1, 1, 1, 1, 1, 1, 1, 0, 1, 0, 0, 1, 1, 1]) [(61, .int .i64 x61), (60, .int .i64 x60), (59, .slice a59 n59 c59 e59), (5, .int .i64 x5), (6, .slice a6 n6 c6 e6), (10, .int .i64 x10)] h (K3 Q R10)) (by kernel_rfl) ht)
theorem call (a0 : Pt) (n0 c0 : Nat) (e0 : Bool) (a1 : Pt) (n1 c1 : Nat) (e1 : Bool) (h : AHeap) (Q : QT) (ht :
 bcase (decide (((((n0 : Nat) : Int)) : Int) > 1048576)) (Q (.bool true) h) (bcase (decide (((((n1 : Nat) : Int)) : Int) > 1048576)) (Q (.bool true) h) (J3 Q a0 n0 c0 e0 a1 n1 c1 e1 h))) : SCall pg n_laws_FnSmallTypes [.slice a0 n0 c0 e0, .slice a1 n1 c1 e1] h Q :=
  SCall.of_body kp (c := cod fn) (fn := fn) Go.Proofs.Try.func6 (by kernel_rfl) (by kernel_rfl) (Nat.le_of_ble_eq_true (by kernel_rfl))
    (@cast _ (den pg fn.ntmps kp (cod fn) (Env.args 0 [.slice a0 n0 c0 e0, .slice a1 n1 c1 e1]) h (KR Q)) (by kernel_rfl) ht)
end F_laws_FnSmallTypes
end Go.Sim
