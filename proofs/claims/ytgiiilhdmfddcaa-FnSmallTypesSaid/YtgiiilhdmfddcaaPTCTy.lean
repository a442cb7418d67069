/- Printed by wip/tool: what the functions' bodies do, in the words of 'den'. -/
import Derived.Test.YtgiiilhdmfddcaaNm
set_option linter.unusedSimpArgs false
set_option linter.all false
set_option maxRecDepth 100000
set_option linter.unusedVariables false
namespace Go.Sim
open Go Go.RowKit
/-! Function loop.example/instancesearch/impl.arity -/
namespace F_impl_arity
noncomputable abbrev fn : Func := Go.Proofs.Try.f59
def kp : Keeps := [(4000009, [])]
noncomputable def C (p : List Nat) : Code := (cod fn).sub p
def KR (Q : QT) : KT := retA pg fn.results.toList Q
def J9 (Q : QT) (h : AHeap) : Prop := Den pg fn.ntmps (C [1, 1]) [] h (KR Q)
theorem J9i (Q : QT) (h : AHeap) (ht :
 Q (.int .i64 (-1)) h) : J9 Q h :=
  den_Den (kp := kp) (@cast _ (den pg fn.ntmps kp (C [1, 1]) [] h (KR Q)) (by kernel_rfl) ht)
theorem call (x0 : List Nat) (h : AHeap) (Q : QT) (ht :
 bcase (!((((List.length x0 : Nat) : Int) : Int) == 1)) (Q (.int .i64 (-1)) h) (SCall pg n_strings_Contains [.str ([105, 98, 117, 120, 121, 122, 88, 89, 90]), .str x0] h fun v_0 h_1 =>
 xBool (some v_0) fun b_2 => bcase b_2 (Q (.int .i64 0) h_1) (bcase (decide (x0 = [108])) (Q (.int .i64 1) h_1) (bcase (decide (x0 = [109])) (Q (.int .i64 1) h_1) (bcase (decide (x0 = [112])) (Q (.int .i64 2) h_1) (J9 Q h_1)))))) : SCall pg n_impl_arity [.str x0] h Q :=
  SCall.of_body kp (c := cod fn) (fn := fn) Go.Proofs.Try.func59 (by kernel_rfl) (by kernel_rfl) (Nat.le_of_ble_eq_true (by kernel_rfl))
    (@cast _ (den pg fn.ntmps kp (cod fn) (Env.args 0 [.str x0]) h (KR Q)) (by kernel_rfl) ht)
end F_impl_arity
/-! Function loop.example/instancesearch/impl.readType -/
namespace F_impl_readType
noncomputable abbrev fn : Func := Go.Proofs.Try.f54
def kp : Keeps := [(4000003, [0]), (3000006, [4, 0, 2, 3]), (1000006, [0, 4, 27, 28]), (4000020, [4, 0])]
noncomputable def C (p : List Nat) : Code := (cod fn).sub p
def KR (Q : QT) : KT := retA pg fn.results.toList Q
abbrev T6 := List Nat → Nat → Nat → Int → Int → AHeap → Prop
def E6 (R6 : T6) (env : Env) (h : AHeap) : Prop := eVal 0 env fun v env => xStr (some v) fun x0 => eVal 4 env fun v env => xPtr (some v) fun a => xSome a fun i4 o4 => eVal 27 env fun v env => eInt .i64 v fun x27 => eVal 28 env fun v env => eInt .i64 v fun x28 => eNil env (R6 x0 i4 o4 x27 x28 h)
theorem E6elim {R6 : T6} {env : Env} {h : AHeap} (hi : E6 R6 env h) : ∃ x0, ∃ i4, ∃ o4, ∃ x27, ∃ x28, env = [(0, .str x0), (4, .ptr (some (i4, o4))), (27, .int .i64 x27), (28, .int .i64 x28)] ∧ R6 x0 i4 o4 x27 x28 h := by
  unfold E6 at hi
  have hi0 := hi
  clear hi
  obtain ⟨v, env, rfl, hi1⟩ := eVal_elim hi0
  obtain ⟨x0, rfl, hi2⟩ := xStr_elim hi1
  obtain ⟨v, env, rfl, hi3⟩ := eVal_elim hi2
  obtain ⟨a, rfl, hi4⟩ := xPtr_elim hi3
  obtain ⟨i4, o4, rfl, hi5⟩ := xSome_elim hi4
  obtain ⟨v, env, rfl, hi6⟩ := eVal_elim hi5
  obtain ⟨x27, rfl, hi7⟩ := eInt_elim hi6
  obtain ⟨v, env, rfl, hi8⟩ := eVal_elim hi7
  obtain ⟨x28, rfl, hi9⟩ := eInt_elim hi8
  obtain ⟨rfl, hi10⟩ := eNil_elim hi9
  have hi := hi10
  exact ⟨x0, i4, o4, x27, x28, rfl, hi⟩
def K0 (Q : QT) : KT := andThen (fun env' h' => (match kp.find 4000016 with | some ks => Den pg fn.ntmps (C [1, 1, 1, 1, 1]) (env'.keep ks) h' (KR Q) | none => den pg fn.ntmps kp (C [1, 1, 1, 1, 1]) env' h' (KR Q))) (KR Q)
def K1 (Q : QT) : KT := onExit 0 (K0 Q)
def K2 (Q : QT) : KT := left kp 6 (K1 Q)
def K3 (Q : QT) (R6 : T6) : KT := rnd ((kp.find 1000006).getD []) (E6 R6) (K2 Q)
def J3 (Q : QT) (x0 : List Nat) (h : AHeap) : Prop := Den pg fn.ntmps (C [1, 1]) [(0, .str x0)] h (KR Q)
def L6 (Q : QT) (x0 : List Nat) (i4 o4 : Nat) (x27 x28 : Int) (h : AHeap) : Prop := Loop (Den pg fn.ntmps (C [1, 1, 1, 1, 0, 1, 0, 0])) ((kp.find 1000006).getD []) (K2 Q) [(0, .str x0), (4, .ptr (some (i4, o4))), (27, .int .i64 x27), (28, .int .i64 x28)] h
def A6x0 (Q : QT) (i4 o4 : Nat) (x0 : List Nat) (h : AHeap) : Prop := At (K1 Q) (.exit 0) [(4, .ptr (some (i4, o4))), (0, .str x0), (2, .undef), (3, .undef)] h
def J20 (Q : QT) (i4 o4 : Nat) (x0 : List Nat) (h : AHeap) : Prop := Den pg fn.ntmps (C [1, 1, 1, 1, 1, 1]) [(4, .ptr (some (i4, o4))), (0, .str x0)] h (KR Q)
theorem J3i (Q : QT) (x0 : List Nat) (h : AHeap) (ht :
 (0 ≤ (0 : Int) ∧ (0 : Int) ≤ 1 ∧ (1 : Int) ≤ (List.length x0 : Nat)) ∧ (letH (h ++ [.cells t_impl_node [.str (sub x0 0 1), .slice none 0 0 true, .ptr none] false]) fun h_3 => (0 ≤ (1 : Int) ∧ (1 : Int) ≤ (List.length x0 : Int) ∧ ((List.length x0 : Int) : Int) ≤ (List.length x0 : Nat)) ∧ (xStr (hCell h_3 (.ptr (some (List.length h, 0 + 0)))) fun s_4 => SCall pg n_impl_arity [.str s_4] h_3 fun v_5 h_6 =>
 xInt .i64 (some v_5) fun x_7 => L6 Q (sub x0 1 ((List.length x0 : Int))) (List.length h) 0 x_7 0 h_6))) : J3 Q x0 h :=
  den_Den (kp := kp) (@cast _ (den pg fn.ntmps kp (C [1, 1]) [(0, .str x0)] h (KR Q)) (by kernel_rfl) ht)
def L6t (Q : QT) (R6 : T6) (x0 : List Nat) (i4 o4 : Nat) (x27 x28 : Int) (h : AHeap) : Prop :=
 bcase (decide ((x28 : Int) < x27)) ((0 ≤ (x28 : Int) ∧ (x28 : Int) ≤ IntKind.wrap .i64 (x28 + 1) ∧ (IntKind.wrap .i64 (x28 + 1) : Int) ≤ (List.length ([40, 44]) : Nat)) ∧ (SCall pg n_strings_HasPrefix [.str x0, .str (sub ([40, 44]) x28 (IntKind.wrap .i64 (x28 + 1)))] h fun v_8 h_9 =>
 xBool (some v_8) fun b_10 => bcase (!b_10) (Q (.tup [.ptr none, .str x0]) h_9) ((0 ≤ (1 : Int) ∧ (1 : Int) ≤ (List.length x0 : Int) ∧ ((List.length x0 : Int) : Int) ≤ (List.length x0 : Nat)) ∧ (SCall pg n_impl_readType [.str (sub x0 1 ((List.length x0 : Int)))] h_9 fun v_11 h_12 =>
 xTup v_11 fun cs_13 => xCons cs_13 fun c_14 r_15 => xPtr (some c_14) fun a_16 => xCons r_15 fun c_17 r_18 => xStr (some c_17) fun s_19 => xNil r_18 (bcase (Option.isNone a_16) (Q (.tup [.ptr none, .str x0]) h_12) (xSl (hCell h_12 (.ptr (some (i4, o4 + 1)))) fun a_20 n_21 c_22 e_23 => letH (h_12 ++ [.cells t_P_impl_node [.ptr a_16] false]) fun h_24 => appendA pg t_L_P_impl_node h_24 (.slice a_20 n_21 c_22 e_23) (.slice (some (List.length h_12, 0)) 1 1 true) fun v_25 h_26 => xSl (some v_25) fun a_27 n_28 c_29 e_30 => xHeap (hStore h_26 (.ptr (some (i4, o4 + 1))) [.slice a_27 n_28 c_29 e_30]) fun h_31 => R6 s_19 i4 o4 x27 (IntKind.wrap .i64 (x28 + 1)) h_31)))))) (A6x0 Q i4 o4 x0 h)
theorem L6den (Q : QT) (R6 : T6) (x0 : List Nat) (i4 o4 : Nat) (x27 x28 : Int) (h : AHeap) (ht : L6t Q R6 x0 i4 o4 x27 x28 h) : Den pg fn.ntmps (C [1, 1, 1, 1, 0, 1, 0, 0]) [(0, .str x0), (4, .ptr (some (i4, o4))), (27, .int .i64 x27), (28, .int .i64 x28)] h (K3 Q R6) :=
  den_Den (kp := kp) (@cast _ (den pg fn.ntmps kp (C [1, 1, 1, 1, 0, 1, 0, 0]) [(0, .str x0), (4, .ptr (some (i4, o4))), (27, .int .i64 x27), (28, .int .i64 x28)] h (K3 Q R6)) (by kernel_rfl) ht)
theorem L6ind (Q : QT) (i4 o4 : Nat) (x27 : Int) {G : Type} (J : G → List Nat → Int → AHeap → Prop) (m : G → Nat)
 (hr : ∀ (g : G) (x0 : List Nat) (x28 : Int) (h : AHeap), J g x0 x28 h → ∀ (R6 : T6), (∀ g' (x0 : List Nat) (x28 : Int) (h : AHeap), m g' < m g → J g' x0 x28 h → R6 x0 i4 o4 x27 x28 h) → L6t Q R6 x0 i4 o4 x27 x28 h)
 (g : G) (x0 : List Nat) (x28 : Int) (h : AHeap) (hj : J g x0 x28 h) : L6 Q x0 i4 o4 x27 x28 h := by
  refine Loop.inv2 (fun g => E6 fun x0 i4' o4' x27' x28 h => i4 = i4' ∧ o4 = o4' ∧ x27 = x27' ∧ J g x0 x28 h) (fun g => E6 fun x0 i4' o4' x27' x28 h => i4 = i4' ∧ o4 = o4' ∧ x27 = x27' ∧ ∃ g', m g' < m g ∧ J g' x0 x28 h) m ?_ ?_ g ⟨rfl, rfl, rfl, hj⟩
  · intro g env h hi
    obtain ⟨x0, i4', o4', x27', x28, rfl, rfl, rfl, rfl, hj⟩ := E6elim hi
    exact L6den Q (fun x0 i4' o4' x27' x28 h => i4 = i4' ∧ o4 = o4' ∧ x27 = x27' ∧ ∃ g', m g' < m g ∧ J g' x0 x28 h) x0 i4 o4 x27 x28 h (hr g x0 x28 h hj (fun x0 i4' o4' x27' x28 h => i4 = i4' ∧ o4 = o4' ∧ x27 = x27' ∧ ∃ g', m g' < m g ∧ J g' x0 x28 h) fun g' x0 x28 h hlt hj => ⟨rfl, rfl, rfl, g', hlt, hj⟩)
  · intro g env h hi
    obtain ⟨x0, i4', o4', x27', x28, rfl, rfl, rfl, rfl, g', hlt, hj⟩ := E6elim hi
    exact ⟨g', hlt, rfl, rfl, rfl, hj⟩
theorem A6x0i (Q : QT) (i4 o4 : Nat) (x0 : List Nat) (h : AHeap) (ht :
 xSl (hCell h (.ptr (some (i4, o4 + 1)))) fun a_32 n_33 c_34 e_35 => bcase (decide (((((n_33 : Nat) : Int)) : Int) > 0)) (SCall pg n_strings_HasPrefix [.str x0, .str [41]] h fun v_36 h_37 =>
 xBool (some v_36) fun b_38 => bcase (!b_38) (Q (.tup [.ptr none, .str x0]) h_37) ((0 ≤ (1 : Int) ∧ (1 : Int) ≤ (List.length x0 : Int) ∧ ((List.length x0 : Int) : Int) ≤ (List.length x0 : Nat)) ∧ (J20 Q i4 o4 (sub x0 1 ((List.length x0 : Int))) h_37))) (J20 Q i4 o4 x0 h)) : A6x0 Q i4 o4 x0 h :=
  At.mk (@cast _ ((K1 Q) (.exit 0) [(4, .ptr (some (i4, o4))), (0, .str x0), (2, .undef), (3, .undef)] h) (by kernel_rfl) ht)
theorem J20i (Q : QT) (i4 o4 : Nat) (x0 : List Nat) (h : AHeap) (ht :
 Q (.tup [.ptr (some (i4, o4)), .str x0]) h) : J20 Q i4 o4 x0 h :=
  den_Den (kp := kp) (@cast _ (den pg fn.ntmps kp (C [1, 1, 1, 1, 1, 1]) [(4, .ptr (some (i4, o4))), (0, .str x0)] h (KR Q)) (by kernel_rfl) ht)
theorem call (x0 : List Nat) (h : AHeap) (Q : QT) (ht :
 bcase (decide (x0 = [])) (Q (.tup [.ptr none, .str x0]) h) ((0 ≤ (0 : Int) ∧ (0 : Int) ≤ 1 ∧ (1 : Int) ≤ (List.length x0 : Nat)) ∧ (SCall pg n_impl_arity [.str (sub x0 0 1)] h fun v_0 h_1 =>
 xInt .i64 (some v_0) fun x_2 => bcase (decide ((x_2 : Int) < 0)) (Q (.tup [.ptr none, .str x0]) h_1) (J3 Q x0 h_1)))) : SCall pg n_impl_readType [.str x0] h Q :=
  SCall.of_body kp (c := cod fn) (fn := fn) Go.Proofs.Try.func54 (by kernel_rfl) (by kernel_rfl) (Nat.le_of_ble_eq_true (by kernel_rfl))
    (@cast _ (den pg fn.ntmps kp (cod fn) (Env.args 0 [.str x0]) h (KR Q)) (by kernel_rfl) ht)
end F_impl_readType
/-! Function loop.example/instancesearch/impl.typeOf -/
namespace F_impl_typeOf
noncomputable abbrev fn : Func := Go.Proofs.Try.f47
def kp : Keeps := []
noncomputable def C (p : List Nat) : Code := (cod fn).sub p
def KR (Q : QT) : KT := retA pg fn.results.toList Q
theorem call (x0 : List Nat) (h : AHeap) (Q : QT) (ht :
 bcase (decide (((((List.length x0 : Nat) : Int)) : Int) > 60)) (Q (.ptr none) h) (SCall pg n_impl_readType [.str x0] h fun v_0 h_1 =>
 xTup v_0 fun cs_2 => xCons cs_2 fun c_3 r_4 => xPtr (some c_3) fun a_5 => xCons r_4 fun c_6 r_7 => xStr (some c_6) fun s_8 => xNil r_7 (bcase (!(decide (s_8 = []))) (Q (.ptr none) h_1) (Q (.ptr a_5) h_1)))) : SCall pg n_impl_typeOf [.str x0] h Q :=
  SCall.of_body kp (c := cod fn) (fn := fn) Go.Proofs.Try.func47 (by kernel_rfl) (by kernel_rfl) (Nat.le_of_ble_eq_true (by kernel_rfl))
    (@cast _ (den pg fn.ntmps kp (cod fn) (Env.args 0 [.str x0]) h (KR Q)) (by kernel_rfl) ht)
end F_impl_typeOf
/-! Function loop.example/instancesearch/impl.TypeValid -/
namespace F_impl_TypeValid
noncomputable abbrev fn : Func := Go.Proofs.Try.f39
def kp : Keeps := []
noncomputable def C (p : List Nat) : Code := (cod fn).sub p
def KR (Q : QT) : KT := retA pg fn.results.toList Q
theorem call (x0 : List Nat) (h : AHeap) (Q : QT) (ht :
 SCall pg n_impl_typeOf [.str x0] h fun v_0 h_1 =>
 xPtr (some v_0) fun a_2 => Q (.bool (!(Option.isNone a_2))) h_1) : SCall pg n_impl_TypeValid [.str x0] h Q :=
  SCall.of_body kp (c := cod fn) (fn := fn) Go.Proofs.Try.func39 (by kernel_rfl) (by kernel_rfl) (Nat.le_of_ble_eq_true (by kernel_rfl))
    (@cast _ (den pg fn.ntmps kp (cod fn) (Env.args 0 [.str x0]) h (KR Q)) (by kernel_rfl) ht)
end F_impl_TypeValid
end Go.Sim
