/- Printed by wip/tool: what the functions' bodies do, in the words of 'den'. -/
import Derived.Test.YtgiiilhdmfddcaaDoorNm
set_option linter.unusedSimpArgs false
set_option linter.all false
set_option maxRecDepth 100000
set_option linter.unusedVariables false
namespace Go.Sim
open Go Go.RowKit
/-! Function internal/stringslite.Cut -/
namespace F_internal_stringslite_Cut
noncomputable abbrev fn : Func := Go.Proofs.Tryd.f63
def kp : Keeps := [(2000003, [4, 5, 6])]
noncomputable def C (p : List Nat) : Code := (cod fn).sub p
def KR (Q : QT) : KT := retA pg fn.results.toList Q
theorem call (x0 x1 : List Nat) (h : AHeap) (Q : QT) (ht :
 SCall pg n_internal_stringslite_Index [.str x0, .str x1] h fun v_0 h_1 =>
 xInt .i64 (some v_0) fun x_2 => bcase (decide ((x_2 : Int) ≥ 0)) ((0 ≤ (0 : Int) ∧ (0 : Int) ≤ x_2 ∧ (x_2 : Int) ≤ (List.length x0 : Nat)) ∧ ((0 ≤ (IntKind.wrap .i64 (x_2 + (((List.length x1 : Nat) : Int))) : Int) ∧ (IntKind.wrap .i64 (x_2 + (((List.length x1 : Nat) : Int))) : Int) ≤ (List.length x0 : Int) ∧ ((List.length x0 : Int) : Int) ≤ (List.length x0 : Nat)) ∧ (Q (.tup [.str (sub x0 0 x_2), .str (sub x0 (IntKind.wrap .i64 (x_2 + (((List.length x1 : Nat) : Int)))) ((List.length x0 : Int))), .bool true]) h_1))) (Q (.tup [.str x0, .str [], .bool false]) h_1)) : SCall pg n_internal_stringslite_Cut [.str x0, .str x1] h Q :=
  SCall.of_body kp (c := cod fn) (fn := fn) Go.Proofs.Tryd.func63 (by kernel_rfl) (by kernel_rfl) (Nat.le_of_ble_eq_true (by kernel_rfl))
    (@cast _ (den pg fn.ntmps kp (cod fn) (Env.args 0 [.str x0, .str x1]) h (KR Q)) (by kernel_rfl) ht)
end F_internal_stringslite_Cut
/-! Function strings.Cut -/
namespace F_strings_Cut
noncomputable abbrev fn : Func := Go.Proofs.Tryd.f52
def kp : Keeps := []
noncomputable def C (p : List Nat) : Code := (cod fn).sub p
def KR (Q : QT) : KT := retA pg fn.results.toList Q
theorem call (x0 x1 : List Nat) (h : AHeap) (Q : QT) (ht :
 SCall pg n_internal_stringslite_Cut [.str x0, .str x1] h fun v_0 h_1 =>
 xTup v_0 fun cs_2 => xCons cs_2 fun c_3 r_4 => xStr (some c_3) fun s_5 => xCons r_4 fun c_6 r_7 => xStr (some c_6) fun s_8 => xCons r_7 fun c_9 r_10 => xBool (some c_9) fun b_11 => xNil r_10 (Q (.tup [.str s_5, .str s_8, .bool b_11]) h_1)) : SCall pg n_strings_Cut [.str x0, .str x1] h Q :=
  SCall.of_body kp (c := cod fn) (fn := fn) Go.Proofs.Tryd.func52 (by kernel_rfl) (by kernel_rfl) (Nat.le_of_ble_eq_true (by kernel_rfl))
    (@cast _ (den pg fn.ntmps kp (cod fn) (Env.args 0 [.str x0, .str x1]) h (KR Q)) (by kernel_rfl) ht)
end F_strings_Cut
/-! Function strings.genSplit -/
namespace F_strings_genSplit
noncomputable abbrev fn : Func := Go.Proofs.Tryd.f51
def kp : Keeps := [(4000007, [3, 0, 1, 2]), (3000011, [9, 10, 0]), (1000011, [0, 1, 2, 3, 9, 10])]
noncomputable def C (p : List Nat) : Code := (cod fn).sub p
def KR (Q : QT) : KT := retA pg fn.results.toList Q
abbrev T11 := List Nat → List Nat → Int → Int → Pt → Nat → Nat → Bool → Int → AHeap → Prop
def E11 (R11 : T11) (env : Env) (h : AHeap) : Prop := eVal 0 env fun v env => xStr (some v) fun x0 => eVal 1 env fun v env => xStr (some v) fun x1 => eVal 2 env fun v env => eInt .i64 v fun x2 => eVal 3 env fun v env => eInt .i64 v fun x3 => eVal 9 env fun v env => xSl (some v) fun a9 n9 c9 e9 => eVal 10 env fun v env => eInt .i64 v fun x10 => eNil env (R11 x0 x1 x2 x3 a9 n9 c9 e9 x10 h)
theorem E11elim {R11 : T11} {env : Env} {h : AHeap} (hi : E11 R11 env h) : ∃ x0, ∃ x1, ∃ x2, ∃ x3, ∃ a9, ∃ n9, ∃ c9, ∃ e9, ∃ x10, env = [(0, .str x0), (1, .str x1), (2, .int .i64 x2), (3, .int .i64 x3), (9, .slice a9 n9 c9 e9), (10, .int .i64 x10)] ∧ R11 x0 x1 x2 x3 a9 n9 c9 e9 x10 h := by
  unfold E11 at hi
  have hi0 := hi
  clear hi
  obtain ⟨v, env, rfl, hi1⟩ := eVal_elim hi0
  obtain ⟨x0, rfl, hi2⟩ := xStr_elim hi1
  obtain ⟨v, env, rfl, hi3⟩ := eVal_elim hi2
  obtain ⟨x1, rfl, hi4⟩ := xStr_elim hi3
  obtain ⟨v, env, rfl, hi5⟩ := eVal_elim hi4
  obtain ⟨x2, rfl, hi6⟩ := eInt_elim hi5
  obtain ⟨v, env, rfl, hi7⟩ := eVal_elim hi6
  obtain ⟨x3, rfl, hi8⟩ := eInt_elim hi7
  obtain ⟨v, env, rfl, hi9⟩ := eVal_elim hi8
  obtain ⟨a9, n9, c9, e9, rfl, hi10⟩ := xSl_elim hi9
  obtain ⟨v, env, rfl, hi11⟩ := eVal_elim hi10
  obtain ⟨x10, rfl, hi12⟩ := eInt_elim hi11
  obtain ⟨rfl, hi13⟩ := eNil_elim hi12
  have hi := hi13
  exact ⟨x0, x1, x2, x3, a9, n9, c9, e9, x10, rfl, hi⟩
def K0 (Q : QT) : KT := andThen (fun env' h' => (match kp.find 4000017 with | some ks => Den pg fn.ntmps (C [1, 1, 1, 1, 1, 1, 1, 1, 1]) (env'.keep ks) h' (KR Q) | none => den pg fn.ntmps kp (C [1, 1, 1, 1, 1, 1, 1, 1, 1]) env' h' (KR Q))) (KR Q)
def K1 (Q : QT) : KT := onExit 0 (K0 Q)
def K2 (Q : QT) : KT := left kp 11 (K1 Q)
def K3 (Q : QT) (R11 : T11) : KT := rnd ((kp.find 1000011).getD []) (E11 R11) (K2 Q)
def J7 (Q : QT) (x3 : Int) (x0 x1 : List Nat) (x2 : Int) (h : AHeap) : Prop := Den pg fn.ntmps (C [1, 1, 1, 1]) [(3, .int .i64 x3), (0, .str x0), (1, .str x1), (2, .int .i64 x2)] h (KR Q)
def L11 (Q : QT) (x0 x1 : List Nat) (x2 x3 : Int) (a9 : Pt) (n9 c9 : Nat) (e9 : Bool) (x10 : Int) (h : AHeap) : Prop := Loop (Den pg fn.ntmps (C [1, 1, 1, 1, 1, 1, 1, 1, 0, 0, 0])) ((kp.find 1000011).getD []) (K2 Q) [(0, .str x0), (1, .str x1), (2, .int .i64 x2), (3, .int .i64 x3), (9, .slice a9 n9 c9 e9), (10, .int .i64 x10)] h
def A11x0 (Q : QT) (a9 : Pt) (n9 c9 : Nat) (e9 : Bool) (x10 : Int) (x0 : List Nat) (h : AHeap) : Prop := At (K1 Q) (.exit 0) [(9, .slice a9 n9 c9 e9), (10, .int .i64 x10), (0, .str x0)] h
theorem J7i (Q : QT) (x3 : Int) (x0 x1 : List Nat) (x2 : Int) (h : AHeap) (ht :
 IntKind.i64 = IntKind.i64 ∧ (IntKind.i64 = IntKind.i64 ∧ ((0 ≤ ((if (IntKind.wrap .i64 ((((List.length x0 : Nat) : Int)) + 1) : Int) < x3 then IntKind.wrap .i64 ((((List.length x0 : Nat) : Int)) + 1) else x3) : Int) ∧ ((if (IntKind.wrap .i64 ((((List.length x0 : Nat) : Int)) + 1) : Int) < x3 then IntKind.wrap .i64 ((((List.length x0 : Nat) : Int)) + 1) else x3) : Int) ≤ (if (IntKind.wrap .i64 ((((List.length x0 : Nat) : Int)) + 1) : Int) < x3 then IntKind.wrap .i64 ((((List.length x0 : Nat) : Int)) + 1) else x3) ∧ ((if (IntKind.wrap .i64 ((((List.length x0 : Nat) : Int)) + 1) : Int) < x3 then IntKind.wrap .i64 ((((List.length x0 : Nat) : Int)) + 1) else x3) : Int) * (((16 : Nat) : Int) + 1) ≤ 140737488355328) ∧ (letH (h ++ [.cells t_string (reps (Int.toNat ((if (IntKind.wrap .i64 ((((List.length x0 : Nat) : Int)) + 1) : Int) < x3 then IntKind.wrap .i64 ((((List.length x0 : Nat) : Int)) + 1) else x3))) [.str []]) false]) fun h_9 => L11 Q x0 x1 x2 (IntKind.wrap .i64 ((if (IntKind.wrap .i64 ((((List.length x0 : Nat) : Int)) + 1) : Int) < x3 then IntKind.wrap .i64 ((((List.length x0 : Nat) : Int)) + 1) else x3) - 1)) (some (List.length h, 0)) (Int.toNat ((if (IntKind.wrap .i64 ((((List.length x0 : Nat) : Int)) + 1) : Int) < x3 then IntKind.wrap .i64 ((((List.length x0 : Nat) : Int)) + 1) else x3))) (Int.toNat ((if (IntKind.wrap .i64 ((((List.length x0 : Nat) : Int)) + 1) : Int) < x3 then IntKind.wrap .i64 ((((List.length x0 : Nat) : Int)) + 1) else x3))) true 0 h_9)))) : J7 Q x3 x0 x1 x2 h :=
  den_Den (kp := kp) (@cast _ (den pg fn.ntmps kp (C [1, 1, 1, 1]) [(3, .int .i64 x3), (0, .str x0), (1, .str x1), (2, .int .i64 x2)] h (KR Q)) (by kernel_rfl) ht)
def L11t (Q : QT) (R11 : T11) (x0 x1 : List Nat) (x2 x3 : Int) (a9 : Pt) (n9 c9 : Nat) (e9 : Bool) (x10 : Int) (h : AHeap) : Prop :=
 bcase (decide ((x10 : Int) < x3)) (SCall pg n_strings_Index [.str x0, .str x1] h fun v_10 h_11 =>
 xInt .i64 (some v_10) fun x_12 => bcase (decide ((x_12 : Int) < 0)) (A11x0 Q a9 n9 c9 e9 x10 x0 h_11) ((0 ≤ (0 : Int) ∧ (0 : Int) ≤ IntKind.wrap .i64 (x_12 + x2) ∧ (IntKind.wrap .i64 (x_12 + x2) : Int) ≤ (List.length x0 : Nat)) ∧ ((0 ≤ (x10 : Int) ∧ (x10 : Int) < (n9 : Nat)) ∧ (xSome a9 fun i_13 o_14 => xHeap (hStore h_11 (.ptr (some (i_13, o_14 + (Int.toNat x10) * 1))) [.str (sub x0 0 (IntKind.wrap .i64 (x_12 + x2)))]) fun h_15 => (0 ≤ (IntKind.wrap .i64 (x_12 + (((List.length x1 : Nat) : Int))) : Int) ∧ (IntKind.wrap .i64 (x_12 + (((List.length x1 : Nat) : Int))) : Int) ≤ (List.length x0 : Int) ∧ ((List.length x0 : Int) : Int) ≤ (List.length x0 : Nat)) ∧ (R11 (sub x0 (IntKind.wrap .i64 (x_12 + (((List.length x1 : Nat) : Int)))) ((List.length x0 : Int))) x1 x2 x3 a9 n9 c9 e9 (IntKind.wrap .i64 (x10 + 1)) h_15))))) (A11x0 Q a9 n9 c9 e9 x10 x0 h)
theorem L11den (Q : QT) (R11 : T11) (x0 x1 : List Nat) (x2 x3 : Int) (a9 : Pt) (n9 c9 : Nat) (e9 : Bool) (x10 : Int) (h : AHeap) (ht : L11t Q R11 x0 x1 x2 x3 a9 n9 c9 e9 x10 h) : Den pg fn.ntmps (C [1, 1, 1, 1, 1, 1, 1, 1, 0, 0, 0]) [(0, .str x0), (1, .str x1), (2, .int .i64 x2), (3, .int .i64 x3), (9, .slice a9 n9 c9 e9), (10, .int .i64 x10)] h (K3 Q R11) :=
  den_Den (kp := kp) (@cast _ (den pg fn.ntmps kp (C [1, 1, 1, 1, 1, 1, 1, 1, 0, 0, 0]) [(0, .str x0), (1, .str x1), (2, .int .i64 x2), (3, .int .i64 x3), (9, .slice a9 n9 c9 e9), (10, .int .i64 x10)] h (K3 Q R11)) (by kernel_rfl) ht)
theorem L11ind (Q : QT) (x1 : List Nat) (x2 x3 : Int) (a9 : Pt) (n9 c9 : Nat) (e9 : Bool) {G : Type} (J : G → List Nat → Int → AHeap → Prop) (m : G → Nat)
 (hr : ∀ (g : G) (x0 : List Nat) (x10 : Int) (h : AHeap), J g x0 x10 h → ∀ (R11 : T11), (∀ g' (x0 : List Nat) (x10 : Int) (h : AHeap), m g' < m g → J g' x0 x10 h → R11 x0 x1 x2 x3 a9 n9 c9 e9 x10 h) → L11t Q R11 x0 x1 x2 x3 a9 n9 c9 e9 x10 h)
 (g : G) (x0 : List Nat) (x10 : Int) (h : AHeap) (hj : J g x0 x10 h) : L11 Q x0 x1 x2 x3 a9 n9 c9 e9 x10 h := by
  refine Loop.inv2 (fun g => E11 fun x0 x1' x2' x3' a9' n9' c9' e9' x10 h => x1 = x1' ∧ x2 = x2' ∧ x3 = x3' ∧ a9 = a9' ∧ n9 = n9' ∧ c9 = c9' ∧ e9 = e9' ∧ J g x0 x10 h) (fun g => E11 fun x0 x1' x2' x3' a9' n9' c9' e9' x10 h => x1 = x1' ∧ x2 = x2' ∧ x3 = x3' ∧ a9 = a9' ∧ n9 = n9' ∧ c9 = c9' ∧ e9 = e9' ∧ ∃ g', m g' < m g ∧ J g' x0 x10 h) m ?_ ?_ g ⟨rfl, rfl, rfl, rfl, rfl, rfl, rfl, hj⟩
  · intro g env h hi
    obtain ⟨x0, x1', x2', x3', a9', n9', c9', e9', x10, rfl, rfl, rfl, rfl, rfl, rfl, rfl, rfl, hj⟩ := E11elim hi
    exact L11den Q (fun x0 x1' x2' x3' a9' n9' c9' e9' x10 h => x1 = x1' ∧ x2 = x2' ∧ x3 = x3' ∧ a9 = a9' ∧ n9 = n9' ∧ c9 = c9' ∧ e9 = e9' ∧ ∃ g', m g' < m g ∧ J g' x0 x10 h) x0 x1 x2 x3 a9 n9 c9 e9 x10 h (hr g x0 x10 h hj (fun x0 x1' x2' x3' a9' n9' c9' e9' x10 h => x1 = x1' ∧ x2 = x2' ∧ x3 = x3' ∧ a9 = a9' ∧ n9 = n9' ∧ c9 = c9' ∧ e9 = e9' ∧ ∃ g', m g' < m g ∧ J g' x0 x10 h) fun g' x0 x10 h hlt hj => ⟨rfl, rfl, rfl, rfl, rfl, rfl, rfl, g', hlt, hj⟩)
  · intro g env h hi
    obtain ⟨x0, x1', x2', x3', a9', n9', c9', e9', x10, rfl, rfl, rfl, rfl, rfl, rfl, rfl, rfl, g', hlt, hj⟩ := E11elim hi
    exact ⟨g', hlt, rfl, rfl, rfl, rfl, rfl, rfl, rfl, hj⟩
theorem A11x0i (Q : QT) (a9 : Pt) (n9 c9 : Nat) (e9 : Bool) (x10 : Int) (x0 : List Nat) (h : AHeap) (ht :
 (0 ≤ (x10 : Int) ∧ (x10 : Int) < (n9 : Nat)) ∧ (xSome a9 fun i_16 o_17 => xHeap (hStore h (.ptr (some (i_16, o_17 + (Int.toNat x10) * 1))) [.str x0]) fun h_18 => sliceSl a9 n9 c9 e9 1 none (some (.int .i64 (IntKind.wrap .i64 (x10 + 1)))) none fun v_19 => xSl (some v_19) fun a_20 n_21 c_22 e_23 => Q (.slice a_20 n_21 c_22 e_23) h_18)) : A11x0 Q a9 n9 c9 e9 x10 x0 h :=
  At.mk (@cast _ ((K1 Q) (.exit 0) [(9, .slice a9 n9 c9 e9), (10, .int .i64 x10), (0, .str x0)] h) (by kernel_rfl) ht)
theorem call (x0 x1 : List Nat) (x2 x3 : Int) (h : AHeap) (Q : QT) (ht :
 bcase ((x3 : Int) == 0) (Q (.slice none 0 0 true) h) (bcase (decide (x1 = [])) (SCall pg n_strings_explode [.str x0, .int .i64 x3] h fun v_0 h_1 =>
 xSl (some v_0) fun a_2 n_3 c_4 e_5 => Q (.slice a_2 n_3 c_4 e_5) h_1) (bcase (decide ((x3 : Int) < 0)) (SCall pg n_strings_Count [.str x0, .str x1] h fun v_6 h_7 =>
 xInt .i64 (some v_6) fun x_8 => J7 Q (IntKind.wrap .i64 (x_8 + 1)) x0 x1 x2 h_7) (J7 Q x3 x0 x1 x2 h)))) : SCall pg n_strings_genSplit [.str x0, .str x1, .int .i64 x2, .int .i64 x3] h Q :=
  SCall.of_body kp (c := cod fn) (fn := fn) Go.Proofs.Tryd.func51 (by kernel_rfl) (by kernel_rfl) (Nat.le_of_ble_eq_true (by kernel_rfl))
    (@cast _ (den pg fn.ntmps kp (cod fn) (Env.args 0 [.str x0, .str x1, .int .i64 x2, .int .i64 x3]) h (KR Q)) (by kernel_rfl) ht)
end F_strings_genSplit
/-! Function strings.Split -/
namespace F_strings_Split
noncomputable abbrev fn : Func := Go.Proofs.Tryd.f41
def kp : Keeps := []
noncomputable def C (p : List Nat) : Code := (cod fn).sub p
def KR (Q : QT) : KT := retA pg fn.results.toList Q
theorem call (x0 x1 : List Nat) (h : AHeap) (Q : QT) (ht :
 SCall pg n_strings_genSplit [.str x0, .str x1, .int .i64 0, .int .i64 (-1)] h fun v_0 h_1 =>
 xSl (some v_0) fun a_2 n_3 c_4 e_5 => Q (.slice a_2 n_3 c_4 e_5) h_1) : SCall pg n_strings_Split [.str x0, .str x1] h Q :=
  SCall.of_body kp (c := cod fn) (fn := fn) Go.Proofs.Tryd.func41 (by kernel_rfl) (by kernel_rfl) (Nat.le_of_ble_eq_true (by kernel_rfl))
    (@cast _ (den pg fn.ntmps kp (cod fn) (Env.args 0 [.str x0, .str x1]) h (KR Q)) (by kernel_rfl) ht)
end F_strings_Split
/-! Function loop.example/instancesearch/spec.l13Cut -/
namespace F_spec_l13Cut
noncomputable abbrev fn : Func := Go.Proofs.Tryd.f39
def kp : Keeps := [(3000004, [5]), (1000004, [0, 1, 5, 6, 7]), (4000005, [7, 0, 1, 5, 6])]
noncomputable def C (p : List Nat) : Code := (cod fn).sub p
def KR (Q : QT) : KT := retA pg fn.results.toList Q
abbrev T4 := List Nat → Int → Pt → Nat → Nat → Bool → Int → Int → AHeap → Prop
def E4 (R4 : T4) (env : Env) (h : AHeap) : Prop := eVal 0 env fun v env => xStr (some v) fun x0 => eVal 1 env fun v env => eInt .u8 v fun x1 => eVal 5 env fun v env => xSl (some v) fun a5 n5 c5 e5 => eVal 6 env fun v env => eInt .i64 v fun x6 => eVal 7 env fun v env => eInt .i64 v fun x7 => eNil env (R4 x0 x1 a5 n5 c5 e5 x6 x7 h)
theorem E4elim {R4 : T4} {env : Env} {h : AHeap} (hi : E4 R4 env h) : ∃ x0, ∃ x1, ∃ a5, ∃ n5, ∃ c5, ∃ e5, ∃ x6, ∃ x7, env = [(0, .str x0), (1, .int .u8 x1), (5, .slice a5 n5 c5 e5), (6, .int .i64 x6), (7, .int .i64 x7)] ∧ R4 x0 x1 a5 n5 c5 e5 x6 x7 h := by
  unfold E4 at hi
  have hi0 := hi
  clear hi
  obtain ⟨v, env, rfl, hi1⟩ := eVal_elim hi0
  obtain ⟨x0, rfl, hi2⟩ := xStr_elim hi1
  obtain ⟨v, env, rfl, hi3⟩ := eVal_elim hi2
  obtain ⟨x1, rfl, hi4⟩ := eInt_elim hi3
  obtain ⟨v, env, rfl, hi5⟩ := eVal_elim hi4
  obtain ⟨a5, n5, c5, e5, rfl, hi6⟩ := xSl_elim hi5
  obtain ⟨v, env, rfl, hi7⟩ := eVal_elim hi6
  obtain ⟨x6, rfl, hi8⟩ := eInt_elim hi7
  obtain ⟨v, env, rfl, hi9⟩ := eVal_elim hi8
  obtain ⟨x7, rfl, hi10⟩ := eInt_elim hi9
  obtain ⟨rfl, hi11⟩ := eNil_elim hi10
  have hi := hi11
  exact ⟨x0, x1, a5, n5, c5, e5, x6, x7, rfl, hi⟩
def K0 (Q : QT) : KT := andThen (fun env' h' => (match kp.find 4000009 with | some ks => Den pg fn.ntmps (C [1, 1, 1, 1]) (env'.keep ks) h' (KR Q) | none => den pg fn.ntmps kp (C [1, 1, 1, 1]) env' h' (KR Q))) (KR Q)
def K1 (Q : QT) : KT := onExit 0 (K0 Q)
def K2 (Q : QT) : KT := left kp 4 (K1 Q)
def K3 (Q : QT) (R4 : T4) : KT := rnd ((kp.find 1000004).getD []) (E4 R4) (K2 Q)
def L4 (Q : QT) (x0 : List Nat) (x1 : Int) (a5 : Pt) (n5 c5 : Nat) (e5 : Bool) (x6 x7 : Int) (h : AHeap) : Prop := Loop (Den pg fn.ntmps (C [1, 1, 1, 0, 1, 0, 0])) ((kp.find 1000004).getD []) (K2 Q) [(0, .str x0), (1, .int .u8 x1), (5, .slice a5 n5 c5 e5), (6, .int .i64 x6), (7, .int .i64 x7)] h
def J5 (Q : QT) (R4 : T4) (x7 : Int) (x0 : List Nat) (x1 : Int) (a5 : Pt) (n5 c5 : Nat) (e5 : Bool) (x6 : Int) (h : AHeap) : Prop := Den pg fn.ntmps (C [1, 1, 1, 0, 1, 0, 0, 1, 1]) [(7, .int .i64 x7), (0, .str x0), (1, .int .u8 x1), (5, .slice a5 n5 c5 e5), (6, .int .i64 x6)] h (K3 Q R4)
def A4x0 (Q : QT) (a5 : Pt) (n5 c5 : Nat) (e5 : Bool) (h : AHeap) : Prop := At (K1 Q) (.exit 0) [(5, .slice a5 n5 c5 e5)] h
def L4t (Q : QT) (R4 : T4) (x0 : List Nat) (x1 : Int) (a5 : Pt) (n5 c5 : Nat) (e5 : Bool) (x6 x7 : Int) (h : AHeap) : Prop :=
 bcase (decide ((x7 : Int) ≤ (((List.length x0 : Nat) : Int)))) (bcase ((x7 : Int) == (((List.length x0 : Nat) : Int))) ((0 ≤ (x6 : Int) ∧ (x6 : Int) ≤ x7 ∧ (x7 : Int) ≤ (List.length x0 : Nat)) ∧ (letH (h ++ [.cells t_string [.str (sub x0 x6 x7)] false]) fun h_1 => appendA pg t_L_string h_1 (.slice a5 n5 c5 e5) (.slice (some (List.length h, 0)) 1 1 true) fun v_2 h_3 => xSl (some v_2) fun a_4 n_5 c_6 e_7 => J5 Q R4 x7 x0 x1 a_4 n_5 c_6 e_7 (IntKind.wrap .i64 (x7 + 1)) h_3)) (byteAt x0 x7 fun b_8 => bcase ((((b_8 : Nat) : Int) : Int) == x1) ((0 ≤ (x6 : Int) ∧ (x6 : Int) ≤ x7 ∧ (x7 : Int) ≤ (List.length x0 : Nat)) ∧ (letH (h ++ [.cells t_string [.str (sub x0 x6 x7)] false]) fun h_9 => appendA pg t_L_string h_9 (.slice a5 n5 c5 e5) (.slice (some (List.length h, 0)) 1 1 true) fun v_10 h_11 => xSl (some v_10) fun a_12 n_13 c_14 e_15 => J5 Q R4 x7 x0 x1 a_12 n_13 c_14 e_15 (IntKind.wrap .i64 (x7 + 1)) h_11)) (J5 Q R4 x7 x0 x1 a5 n5 c5 e5 x6 h))) (A4x0 Q a5 n5 c5 e5 h)
theorem L4den (Q : QT) (R4 : T4) (x0 : List Nat) (x1 : Int) (a5 : Pt) (n5 c5 : Nat) (e5 : Bool) (x6 x7 : Int) (h : AHeap) (ht : L4t Q R4 x0 x1 a5 n5 c5 e5 x6 x7 h) : Den pg fn.ntmps (C [1, 1, 1, 0, 1, 0, 0]) [(0, .str x0), (1, .int .u8 x1), (5, .slice a5 n5 c5 e5), (6, .int .i64 x6), (7, .int .i64 x7)] h (K3 Q R4) :=
  den_Den (kp := kp) (@cast _ (den pg fn.ntmps kp (C [1, 1, 1, 0, 1, 0, 0]) [(0, .str x0), (1, .int .u8 x1), (5, .slice a5 n5 c5 e5), (6, .int .i64 x6), (7, .int .i64 x7)] h (K3 Q R4)) (by kernel_rfl) ht)
theorem L4ind (Q : QT) (x0 : List Nat) (x1 : Int) {G : Type} (J : G → Pt → Nat → Nat → Bool → Int → Int → AHeap → Prop) (m : G → Nat)
 (hr : ∀ (g : G) (a5 : Pt) (n5 c5 : Nat) (e5 : Bool) (x6 x7 : Int) (h : AHeap), J g a5 n5 c5 e5 x6 x7 h → ∀ (R4 : T4), (∀ g' (a5 : Pt) (n5 c5 : Nat) (e5 : Bool) (x6 x7 : Int) (h : AHeap), m g' < m g → J g' a5 n5 c5 e5 x6 x7 h → R4 x0 x1 a5 n5 c5 e5 x6 x7 h) → L4t Q R4 x0 x1 a5 n5 c5 e5 x6 x7 h)
 (g : G) (a5 : Pt) (n5 c5 : Nat) (e5 : Bool) (x6 x7 : Int) (h : AHeap) (hj : J g a5 n5 c5 e5 x6 x7 h) : L4 Q x0 x1 a5 n5 c5 e5 x6 x7 h := by
  refine Loop.inv2 (fun g => E4 fun x0' x1' a5 n5 c5 e5 x6 x7 h => x0 = x0' ∧ x1 = x1' ∧ J g a5 n5 c5 e5 x6 x7 h) (fun g => E4 fun x0' x1' a5 n5 c5 e5 x6 x7 h => x0 = x0' ∧ x1 = x1' ∧ ∃ g', m g' < m g ∧ J g' a5 n5 c5 e5 x6 x7 h) m ?_ ?_ g ⟨rfl, rfl, hj⟩
  · intro g env h hi
    obtain ⟨x0', x1', a5, n5, c5, e5, x6, x7, rfl, rfl, rfl, hj⟩ := E4elim hi
    exact L4den Q (fun x0' x1' a5 n5 c5 e5 x6 x7 h => x0 = x0' ∧ x1 = x1' ∧ ∃ g', m g' < m g ∧ J g' a5 n5 c5 e5 x6 x7 h) x0 x1 a5 n5 c5 e5 x6 x7 h (hr g a5 n5 c5 e5 x6 x7 h hj (fun x0' x1' a5 n5 c5 e5 x6 x7 h => x0 = x0' ∧ x1 = x1' ∧ ∃ g', m g' < m g ∧ J g' a5 n5 c5 e5 x6 x7 h) fun g' a5 n5 c5 e5 x6 x7 h hlt hj => ⟨rfl, rfl, g', hlt, hj⟩)
  · intro g env h hi
    obtain ⟨x0', x1', a5, n5, c5, e5, x6, x7, rfl, rfl, rfl, g', hlt, hj⟩ := E4elim hi
    exact ⟨g', hlt, rfl, rfl, hj⟩
theorem J5i (Q : QT) (R4 : T4) (x7 : Int) (x0 : List Nat) (x1 : Int) (a5 : Pt) (n5 c5 : Nat) (e5 : Bool) (x6 : Int) (h : AHeap) (ht :
 R4 x0 x1 a5 n5 c5 e5 x6 (IntKind.wrap .i64 (x7 + 1)) h) : J5 Q R4 x7 x0 x1 a5 n5 c5 e5 x6 h :=
  den_Den (kp := kp) (@cast _ (den pg fn.ntmps kp (C [1, 1, 1, 0, 1, 0, 0, 1, 1]) [(7, .int .i64 x7), (0, .str x0), (1, .int .u8 x1), (5, .slice a5 n5 c5 e5), (6, .int .i64 x6)] h (K3 Q R4)) (by kernel_rfl) ht)
theorem A4x0i (Q : QT) (a5 : Pt) (n5 c5 : Nat) (e5 : Bool) (h : AHeap) (ht :
 Q (.slice a5 n5 c5 e5) h) : A4x0 Q a5 n5 c5 e5 h :=
  At.mk (@cast _ ((K1 Q) (.exit 0) [(5, .slice a5 n5 c5 e5)] h) (by kernel_rfl) ht)
theorem call (x0 : List Nat) (x1 : Int) (h : AHeap) (Q : QT) (ht :
 letH (h ++ [.cells t_string [] false]) fun h_0 => L4 Q x0 x1 (some (List.length h, 0)) 0 0 true 0 0 h_0) : SCall pg n_spec_l13Cut [.str x0, .int .u8 x1] h Q :=
  SCall.of_body kp (c := cod fn) (fn := fn) Go.Proofs.Tryd.func39 (by kernel_rfl) (by kernel_rfl) (Nat.le_of_ble_eq_true (by kernel_rfl))
    (@cast _ (den pg fn.ntmps kp (cod fn) (Env.args 0 [.str x0, .int .u8 x1]) h (KR Q)) (by kernel_rfl) ht)
end F_spec_l13Cut
end Go.Sim
