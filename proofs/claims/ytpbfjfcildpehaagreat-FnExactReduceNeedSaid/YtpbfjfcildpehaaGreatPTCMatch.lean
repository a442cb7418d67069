/- A part of the proof of a statement of this seat: see the text that holds the theorem. No condition. -/
import Derived.Test.YtpbfjfcildpehaaGreatNm
set_option linter.unusedVariables false
set_option linter.unusedSimpArgs false
set_option linter.all false
/- Printed by wip/tool: what the functions' bodies do, in the words of 'den'. -/
set_option maxRecDepth 100000
set_option linter.unusedVariables false
namespace Go.Sim
open Go Go.RowKit
/-! Function loop.example/instancesearch/spec.BindingsValid -/
namespace F_spec_BindingsValid
noncomputable abbrev fn : Func := Go.Proofs.Tryz.f102
def kp : Keeps := [(3000002, [2]), (1000002, [0, 5, 6, 7]), (2000004, [43, 7, 6, 5, 0]), (4000006, [7, 6, 5, 0])]
noncomputable def C (p : List Nat) : Code := (cod fn).sub p
def KR (Q : QT) : KT := retA pg fn.results.toList Q
abbrev T2 := Pt → Nat → Nat → Bool → Pt → Nat → Nat → Bool → Int → Int → AHeap → Prop
def E2 (R2 : T2) (env : Env) (h : AHeap) : Prop := eVal 0 env fun v env => xSl (some v) fun a0 n0 c0 e0 => eVal 5 env fun v env => xSl (some v) fun a5 n5 c5 e5 => eVal 6 env fun v env => eInt .i64 v fun x6 => eVal 7 env fun v env => eInt .i64 v fun x7 => eNil env (R2 a0 n0 c0 e0 a5 n5 c5 e5 x6 x7 h)
theorem E2elim {R2 : T2} {env : Env} {h : AHeap} (hi : E2 R2 env h) : ∃ a0, ∃ n0, ∃ c0, ∃ e0, ∃ a5, ∃ n5, ∃ c5, ∃ e5, ∃ x6, ∃ x7, env = [(0, .slice a0 n0 c0 e0), (5, .slice a5 n5 c5 e5), (6, .int .i64 x6), (7, .int .i64 x7)] ∧ R2 a0 n0 c0 e0 a5 n5 c5 e5 x6 x7 h := by
  unfold E2 at hi
  have hi0 := hi
  clear hi
  obtain ⟨v, env, rfl, hi1⟩ := eVal_elim hi0
  obtain ⟨a0, n0, c0, e0, rfl, hi2⟩ := xSl_elim hi1
  obtain ⟨v, env, rfl, hi3⟩ := eVal_elim hi2
  obtain ⟨a5, n5, c5, e5, rfl, hi4⟩ := xSl_elim hi3
  obtain ⟨v, env, rfl, hi5⟩ := eVal_elim hi4
  obtain ⟨x6, rfl, hi6⟩ := eInt_elim hi5
  obtain ⟨v, env, rfl, hi7⟩ := eVal_elim hi6
  obtain ⟨x7, rfl, hi8⟩ := eInt_elim hi7
  obtain ⟨rfl, hi9⟩ := eNil_elim hi8
  have hi := hi9
  exact ⟨a0, n0, c0, e0, a5, n5, c5, e5, x6, x7, rfl, hi⟩
def K0 (Q : QT) : KT := andThen (fun env' h' => (match kp.find 4000007 with | some ks => Den pg fn.ntmps (C [1, 1]) (env'.keep ks) h' (KR Q) | none => den pg fn.ntmps kp (C [1, 1]) env' h' (KR Q))) (KR Q)
def K1 (Q : QT) : KT := onExit 0 (K0 Q)
def K2 (Q : QT) : KT := left kp 2 (K1 Q)
def K3 (Q : QT) (R2 : T2) : KT := rnd ((kp.find 1000002).getD []) (E2 R2) (K2 Q)
def L2 (Q : QT) (a0 : Pt) (n0 c0 : Nat) (e0 : Bool) (a5 : Pt) (n5 c5 : Nat) (e5 : Bool) (x6 x7 : Int) (h : AHeap) : Prop := Loop (Den pg fn.ntmps (C [1, 0, 1, 0, 0])) ((kp.find 1000002).getD []) (K2 Q) [(0, .slice a0 n0 c0 e0), (5, .slice a5 n5 c5 e5), (6, .int .i64 x6), (7, .int .i64 x7)] h
def J6 (Q : QT) (R2 : T2) (x7 x6 : Int) (a5 : Pt) (n5 c5 : Nat) (e5 : Bool) (a0 : Pt) (n0 c0 : Nat) (e0 : Bool) (h : AHeap) : Prop := Den pg fn.ntmps (C [1, 0, 1, 0, 0, 1, 1, 1]) [(7, .int .i64 x7), (6, .int .i64 x6), (5, .slice a5 n5 c5 e5), (0, .slice a0 n0 c0 e0)] h (K3 Q R2)
def A2x0 (Q : QT) (h : AHeap) : Prop := At (K1 Q) (.exit 0) [(2, .undef)] h
def L2t (Q : QT) (R2 : T2) (a0 : Pt) (n0 c0 : Nat) (e0 : Bool) (a5 : Pt) (n5 c5 : Nat) (e5 : Bool) (x6 x7 : Int) (h : AHeap) : Prop :=
 bcase (decide ((x7 : Int) < x6)) ((0 ≤ (x7 : Int) ∧ (x7 : Int) < (n5 : Nat)) ∧ (xSome a5 fun i_0 o_1 => xRow (hRow h (.ptr (some (i_0, o_1 + (Int.toNat x7) * 2))) 2) fun cs_2 => xCons cs_2 fun c_3 r_4 => xStr (some c_3) fun s_5 => xCons r_4 fun c_6 r_7 => xStr (some c_6) fun s_8 => xNil r_7 (letH (h ++ [.cells t_impl_Binding [.str [], .str []] false]) fun h_9 => xHeap (hStore h_9 (.ptr (some (List.length h, 0))) [.str s_5, .str s_8]) fun h_10 => xStr (hCell h_10 (.ptr (some (List.length h, 0 + 0)))) fun s_11 => bcase (!((((List.length s_11 : Nat) : Int) : Int) == 1)) ((hCell h_10 (.tup []) = hCell h_10 (.tup [])) ∧ Q (.bool false) h_10) (xStr (hCell h_10 (.ptr (some (List.length h, 0 + 0)))) fun s_12 => byteAt s_12 0 fun b_13 => SCall pg n_spec_l1Variable [.int .u8 (((b_13 : Nat) : Int))] h_10 fun v_14 h_15 =>
 xBool (some v_14) fun b_16 => bcase (!b_16) ((hCell h_15 (.tup []) = hCell h_15 (.tup [])) ∧ Q (.bool false) h_15) (xStr (hCell h_15 (.ptr (some (List.length h, 0 + 1)))) fun s_17 => SCall pg n_spec_TypeValid [.str s_17] h_15 fun v_18 h_19 =>
 xBool (some v_18) fun b_20 => bcase (!b_20) ((hCell h_19 (.tup []) = hCell h_19 (.tup [])) ∧ Q (.bool false) h_19) (bcase (decide ((x7 : Int) > 0)) ((0 ≤ (IntKind.wrap .i64 (x7 - 1) : Int) ∧ (IntKind.wrap .i64 (x7 - 1) : Int) < (n0 : Nat)) ∧ (xSome a0 fun i_21 o_22 => xStr (hCell h_19 (.ptr (some (i_21, o_22 + (Int.toNat (IntKind.wrap .i64 (x7 - 1))) * 2 + 0)))) fun s_23 => xStr (hCell h_19 (.ptr (some (List.length h, 0 + 0)))) fun s_24 => (hCell h_19 (.ptr (some (i_21, o_22 + (Int.toNat (IntKind.wrap .i64 (x7 - 1))) * 2 + 0))) = hCell h_19 (.ptr (some (i_21, o_22 + (Int.toNat (IntKind.wrap .i64 (x7 - 1))) * 2 + 0)))) ∧ bcase (!natLess s_23 s_24) (Q (.bool false) h_19) (J6 Q R2 x7 x6 a5 n5 c5 e5 a0 n0 c0 e0 h_19))) ((hCell h_19 (.tup []) = hCell h_19 (.tup [])) ∧ J6 Q R2 x7 x6 a5 n5 c5 e5 a0 n0 c0 e0 h_19))))))) (A2x0 Q h)
theorem L2den (Q : QT) (R2 : T2) (a0 : Pt) (n0 c0 : Nat) (e0 : Bool) (a5 : Pt) (n5 c5 : Nat) (e5 : Bool) (x6 x7 : Int) (h : AHeap) (ht : L2t Q R2 a0 n0 c0 e0 a5 n5 c5 e5 x6 x7 h) : Den pg fn.ntmps (C [1, 0, 1, 0, 0]) [(0, .slice a0 n0 c0 e0), (5, .slice a5 n5 c5 e5), (6, .int .i64 x6), (7, .int .i64 x7)] h (K3 Q R2) :=
  den_Den (kp := kp) (@cast _ (den pg fn.ntmps kp (C [1, 0, 1, 0, 0]) [(0, .slice a0 n0 c0 e0), (5, .slice a5 n5 c5 e5), (6, .int .i64 x6), (7, .int .i64 x7)] h (K3 Q R2)) (by kernel_rfl) ht)
theorem L2ind (Q : QT) (a0 : Pt) (n0 c0 : Nat) (e0 : Bool) (a5 : Pt) (n5 c5 : Nat) (e5 : Bool) (x6 : Int) {G : Type} (J : G → Int → AHeap → Prop) (m : G → Nat)
 (hr : ∀ (g : G) (x7 : Int) (h : AHeap), J g x7 h → ∀ (R2 : T2), (∀ g' (x7 : Int) (h : AHeap), m g' < m g → J g' x7 h → R2 a0 n0 c0 e0 a5 n5 c5 e5 x6 x7 h) → L2t Q R2 a0 n0 c0 e0 a5 n5 c5 e5 x6 x7 h)
 (g : G) (x7 : Int) (h : AHeap) (hj : J g x7 h) : L2 Q a0 n0 c0 e0 a5 n5 c5 e5 x6 x7 h := by
  refine Loop.inv2 (fun g => E2 fun a0' n0' c0' e0' a5' n5' c5' e5' x6' x7 h => a0 = a0' ∧ n0 = n0' ∧ c0 = c0' ∧ e0 = e0' ∧ a5 = a5' ∧ n5 = n5' ∧ c5 = c5' ∧ e5 = e5' ∧ x6 = x6' ∧ J g x7 h) (fun g => E2 fun a0' n0' c0' e0' a5' n5' c5' e5' x6' x7 h => a0 = a0' ∧ n0 = n0' ∧ c0 = c0' ∧ e0 = e0' ∧ a5 = a5' ∧ n5 = n5' ∧ c5 = c5' ∧ e5 = e5' ∧ x6 = x6' ∧ ∃ g', m g' < m g ∧ J g' x7 h) m ?_ ?_ g ⟨rfl, rfl, rfl, rfl, rfl, rfl, rfl, rfl, rfl, hj⟩
  · intro g env h hi
    obtain ⟨a0', n0', c0', e0', a5', n5', c5', e5', x6', x7, rfl, rfl, rfl, rfl, rfl, rfl, rfl, rfl, rfl, rfl, hj⟩ := E2elim hi
    exact L2den Q (fun a0' n0' c0' e0' a5' n5' c5' e5' x6' x7 h => a0 = a0' ∧ n0 = n0' ∧ c0 = c0' ∧ e0 = e0' ∧ a5 = a5' ∧ n5 = n5' ∧ c5 = c5' ∧ e5 = e5' ∧ x6 = x6' ∧ ∃ g', m g' < m g ∧ J g' x7 h) a0 n0 c0 e0 a5 n5 c5 e5 x6 x7 h (hr g x7 h hj (fun a0' n0' c0' e0' a5' n5' c5' e5' x6' x7 h => a0 = a0' ∧ n0 = n0' ∧ c0 = c0' ∧ e0 = e0' ∧ a5 = a5' ∧ n5 = n5' ∧ c5 = c5' ∧ e5 = e5' ∧ x6 = x6' ∧ ∃ g', m g' < m g ∧ J g' x7 h) fun g' x7 h hlt hj => ⟨rfl, rfl, rfl, rfl, rfl, rfl, rfl, rfl, rfl, g', hlt, hj⟩)
  · intro g env h hi
    obtain ⟨a0', n0', c0', e0', a5', n5', c5', e5', x6', x7, rfl, rfl, rfl, rfl, rfl, rfl, rfl, rfl, rfl, rfl, g', hlt, hj⟩ := E2elim hi
    exact ⟨g', hlt, rfl, rfl, rfl, rfl, rfl, rfl, rfl, rfl, rfl, hj⟩
theorem J6i (Q : QT) (R2 : T2) (x7 x6 : Int) (a5 : Pt) (n5 c5 : Nat) (e5 : Bool) (a0 : Pt) (n0 c0 : Nat) (e0 : Bool) (h : AHeap) (ht :
 R2 a0 n0 c0 e0 a5 n5 c5 e5 x6 (IntKind.wrap .i64 (x7 + 1)) h) : J6 Q R2 x7 x6 a5 n5 c5 e5 a0 n0 c0 e0 h :=
  den_Den (kp := kp) (@cast _ (den pg fn.ntmps kp (C [1, 0, 1, 0, 0, 1, 1, 1]) [(7, .int .i64 x7), (6, .int .i64 x6), (5, .slice a5 n5 c5 e5), (0, .slice a0 n0 c0 e0)] h (K3 Q R2)) (by kernel_rfl) ht)
theorem A2x0i (Q : QT) (h : AHeap) (ht :
 Q (.bool true) h) : A2x0 Q h :=
  At.mk (@cast _ ((K1 Q) (.exit 0) [(2, .undef)] h) (by kernel_rfl) ht)
theorem call (a0 : Pt) (n0 c0 : Nat) (e0 : Bool) (h : AHeap) (Q : QT) (ht :
 L2 Q a0 n0 c0 e0 a0 n0 c0 e0 (((n0 : Nat) : Int)) 0 h) : SCall pg n_spec_BindingsValid [.slice a0 n0 c0 e0] h Q :=
  SCall.of_body kp (c := cod fn) (fn := fn) Go.Proofs.Tryz.func102 (by kernel_rfl) (by kernel_rfl) (Nat.le_of_ble_eq_true (by kernel_rfl))
    (@cast _ (den pg fn.ntmps kp (cod fn) (Env.args 0 [.slice a0 n0 c0 e0]) h (KR Q)) (by kernel_rfl) ht)
end F_spec_BindingsValid
/-! Function loop.example/instancesearch/spec.l2Put -/
namespace F_spec_l2Put
noncomputable abbrev fn : Func := Go.Proofs.Tryz.f104
def kp : Keeps := [(4000004, [3, 0, 4]), (3000006, [6, 4]), (1000006, [0, 4, 6, 33, 34, 35]), (2000008, [35, 34, 33, 6, 0, 4])]
noncomputable def C (p : List Nat) : Code := (cod fn).sub p
def KR (Q : QT) : KT := retA pg fn.results.toList Q
abbrev T6 := Pt → Nat → Nat → Nat → Nat → Pt → Nat → Nat → Bool → Int → Int → AHeap → Prop
def E6 (R6 : T6) (env : Env) (h : AHeap) : Prop := eVal 0 env fun v env => xPtr (some v) fun a0 => eVal 4 env fun v env => xPtr (some v) fun a => xSome a fun i4 o4 => eVal 6 env fun v env => xPtr (some v) fun a => xSome a fun i6 o6 => eVal 33 env fun v env => xSl (some v) fun a33 n33 c33 e33 => eVal 34 env fun v env => eInt .i64 v fun x34 => eVal 35 env fun v env => eInt .i64 v fun x35 => eNil env (R6 a0 i4 o4 i6 o6 a33 n33 c33 e33 x34 x35 h)
theorem E6elim {R6 : T6} {env : Env} {h : AHeap} (hi : E6 R6 env h) : ∃ a0, ∃ i4, ∃ o4, ∃ i6, ∃ o6, ∃ a33, ∃ n33, ∃ c33, ∃ e33, ∃ x34, ∃ x35, env = [(0, .ptr a0), (4, .ptr (some (i4, o4))), (6, .ptr (some (i6, o6))), (33, .slice a33 n33 c33 e33), (34, .int .i64 x34), (35, .int .i64 x35)] ∧ R6 a0 i4 o4 i6 o6 a33 n33 c33 e33 x34 x35 h := by
  unfold E6 at hi
  have hi0 := hi
  clear hi
  obtain ⟨v, env, rfl, hi1⟩ := eVal_elim hi0
  obtain ⟨a0, rfl, hi2⟩ := xPtr_elim hi1
  obtain ⟨v, env, rfl, hi3⟩ := eVal_elim hi2
  obtain ⟨a, rfl, hi4⟩ := xPtr_elim hi3
  obtain ⟨i4, o4, rfl, hi5⟩ := xSome_elim hi4
  obtain ⟨v, env, rfl, hi6⟩ := eVal_elim hi5
  obtain ⟨a, rfl, hi7⟩ := xPtr_elim hi6
  obtain ⟨i6, o6, rfl, hi8⟩ := xSome_elim hi7
  obtain ⟨v, env, rfl, hi9⟩ := eVal_elim hi8
  obtain ⟨a33, n33, c33, e33, rfl, hi10⟩ := xSl_elim hi9
  obtain ⟨v, env, rfl, hi11⟩ := eVal_elim hi10
  obtain ⟨x34, rfl, hi12⟩ := eInt_elim hi11
  obtain ⟨v, env, rfl, hi13⟩ := eVal_elim hi12
  obtain ⟨x35, rfl, hi14⟩ := eInt_elim hi13
  obtain ⟨rfl, hi15⟩ := eNil_elim hi14
  have hi := hi15
  exact ⟨a0, i4, o4, i6, o6, a33, n33, c33, e33, x34, x35, rfl, hi⟩
def K0 (Q : QT) : KT := andThen (fun env' h' => (match kp.find 4000010 with | some ks => Den pg fn.ntmps (C [1, 1, 1, 1]) (env'.keep ks) h' (KR Q) | none => den pg fn.ntmps kp (C [1, 1, 1, 1]) env' h' (KR Q))) (KR Q)
def K1 (Q : QT) : KT := onExit 0 (K0 Q)
def K2 (Q : QT) : KT := left kp 6 (K1 Q)
def K3 (Q : QT) (R6 : T6) : KT := rnd ((kp.find 1000006).getD []) (E6 R6) (K2 Q)
def J4 (Q : QT) (i3 o3 : Nat) (a0 : Pt) (i4 o4 : Nat) (h : AHeap) : Prop := Den pg fn.ntmps (C [1, 1]) [(3, .ptr (some (i3, o3))), (0, .ptr a0), (4, .ptr (some (i4, o4)))] h (KR Q)
def L6 (Q : QT) (a0 : Pt) (i4 o4 i6 o6 : Nat) (a33 : Pt) (n33 c33 : Nat) (e33 : Bool) (x34 x35 : Int) (h : AHeap) : Prop := Loop (Den pg fn.ntmps (C [1, 1, 1, 0, 1, 0, 0])) ((kp.find 1000006).getD []) (K2 Q) [(0, .ptr a0), (4, .ptr (some (i4, o4))), (6, .ptr (some (i6, o6))), (33, .slice a33 n33 c33 e33), (34, .int .i64 x34), (35, .int .i64 x35)] h
def A6x0 (Q : QT) (i6 o6 i4 o4 : Nat) (h : AHeap) : Prop := At (K1 Q) (.exit 0) [(6, .ptr (some (i6, o6))), (4, .ptr (some (i4, o4)))] h
theorem J4i (Q : QT) (i3 o3 : Nat) (a0 : Pt) (i4 o4 : Nat) (h : AHeap) (ht :
 xInt .u8 (hCell h (.ptr (some (i3, o3 + 0)))) fun x_32 => letH (h ++ [.cells t_spec_l1Node [] false]) fun h_33 => letH (h_33 ++ [.cells t_spec_l1Node [.int .u8 0, .slice none 0 0 true] false]) fun h_34 => xHeap (hStore h_34 (.ptr (some (List.length h_33, 0))) [.int .u8 x_32, .slice (some (List.length h, 0)) 0 0 true]) fun h_35 => xSl (hCell h_35 (.ptr (some (i3, o3 + 1)))) fun a_36 n_37 c_38 e_39 => L6 Q a0 i4 o4 (List.length h_33) 0 a_36 n_37 c_38 e_39 (((n_37 : Nat) : Int)) 0 h_35) : J4 Q i3 o3 a0 i4 o4 h :=
  den_Den (kp := kp) (@cast _ (den pg fn.ntmps kp (C [1, 1]) [(3, .ptr (some (i3, o3))), (0, .ptr a0), (4, .ptr (some (i4, o4)))] h (KR Q)) (by kernel_rfl) ht)
def L6t (Q : QT) (R6 : T6) (a0 : Pt) (i4 o4 i6 o6 : Nat) (a33 : Pt) (n33 c33 : Nat) (e33 : Bool) (x34 x35 : Int) (h : AHeap) : Prop :=
 bcase (decide ((x35 : Int) < x34)) ((0 ≤ (x35 : Int) ∧ (x35 : Int) < (n33 : Nat)) ∧ (xSome a33 fun i_40 o_41 => xRow (hRow h (.ptr (some (i_40, o_41 + (Int.toNat x35) * 2))) 2) fun cs_42 => xCons cs_42 fun c_43 r_44 => xInt .u8 (some c_43) fun x_45 => xCons r_44 fun c_46 r_47 => xSl (some c_46) fun a_48 n_49 c_50 e_51 => xNil r_47 (letH (h ++ [.cells t_spec_l1Node [.int .u8 0, .slice none 0 0 true] false]) fun h_52 => xHeap (hStore h_52 (.ptr (some (List.length h, 0))) [.int .u8 x_45, .slice a_48 n_49 c_50 e_51]) fun h_53 => xSl (hCell h_53 (.ptr (some (i6, o6 + 1)))) fun a_54 n_55 c_56 e_57 => xRow (hRow h_53 (.ptr (some (List.length h, 0))) 2) fun cs_58 => xCons cs_58 fun c_59 r_60 => xInt .u8 (some c_59) fun x_61 => xCons r_60 fun c_62 r_63 => xSl (some c_62) fun a_64 n_65 c_66 e_67 => xNil r_63 ((hCell h_53 (.ptr (some (i6, o6 + 1))) = hCell h_53 (.ptr (some (i6, o6 + 1)))) ∧ SCall pg n_spec_l2Put [.ptr a0, .agg [.int .u8 x_61, .slice a_64 n_65 c_66 e_67]] h_53 fun v_68 h_69 =>
 xAgg v_68 fun cs_70 => xCons cs_70 fun c_71 r_72 => xInt .u8 (some c_71) fun x_73 => xCons r_72 fun c_74 r_75 => xSl (some c_74) fun a_76 n_77 c_78 e_79 => xNil r_75 ((hCell h_69 (.ptr (some (i6, o6 + 1))) = hCell h_53 (.ptr (some (i6, o6 + 1)))) ∧ letH (h_69 ++ [.cells t_spec_l1Node [.int .u8 x_73, .slice a_76 n_77 c_78 e_79] false]) fun h_80 => (hCell h_80 (.ptr (some (i6, o6 + 1))) = hCell h_69 (.ptr (some (i6, o6 + 1)))) ∧ appendA pg t_L_spec_l1Node h_80 (.slice a_54 n_55 c_56 e_57) (.slice (some (List.length h_69, 0)) 1 1 true) fun v_81 h_82 => xSl (some v_81) fun a_83 n_84 c_85 e_86 => xHeap (hStore h_82 (.ptr (some (i6, o6 + 1))) [.slice a_83 n_84 c_85 e_86]) fun h_87 => R6 a0 i4 o4 i6 o6 a33 n33 c33 e33 x34 (IntKind.wrap .i64 (x35 + 1)) h_87))))) (A6x0 Q i6 o6 i4 o4 h)
theorem L6den (Q : QT) (R6 : T6) (a0 : Pt) (i4 o4 i6 o6 : Nat) (a33 : Pt) (n33 c33 : Nat) (e33 : Bool) (x34 x35 : Int) (h : AHeap) (ht : L6t Q R6 a0 i4 o4 i6 o6 a33 n33 c33 e33 x34 x35 h) : Den pg fn.ntmps (C [1, 1, 1, 0, 1, 0, 0]) [(0, .ptr a0), (4, .ptr (some (i4, o4))), (6, .ptr (some (i6, o6))), (33, .slice a33 n33 c33 e33), (34, .int .i64 x34), (35, .int .i64 x35)] h (K3 Q R6) :=
  den_Den (kp := kp) (@cast _ (den pg fn.ntmps kp (C [1, 1, 1, 0, 1, 0, 0]) [(0, .ptr a0), (4, .ptr (some (i4, o4))), (6, .ptr (some (i6, o6))), (33, .slice a33 n33 c33 e33), (34, .int .i64 x34), (35, .int .i64 x35)] h (K3 Q R6)) (by kernel_rfl) ht)
theorem L6ind (Q : QT) (a0 : Pt) (i4 o4 i6 o6 : Nat) (a33 : Pt) (n33 c33 : Nat) (e33 : Bool) (x34 : Int) {G : Type} (J : G → Int → AHeap → Prop) (m : G → Nat)
 (hr : ∀ (g : G) (x35 : Int) (h : AHeap), J g x35 h → ∀ (R6 : T6), (∀ g' (x35 : Int) (h : AHeap), m g' < m g → J g' x35 h → R6 a0 i4 o4 i6 o6 a33 n33 c33 e33 x34 x35 h) → L6t Q R6 a0 i4 o4 i6 o6 a33 n33 c33 e33 x34 x35 h)
 (g : G) (x35 : Int) (h : AHeap) (hj : J g x35 h) : L6 Q a0 i4 o4 i6 o6 a33 n33 c33 e33 x34 x35 h := by
  refine Loop.inv2 (fun g => E6 fun a0' i4' o4' i6' o6' a33' n33' c33' e33' x34' x35 h => a0 = a0' ∧ i4 = i4' ∧ o4 = o4' ∧ i6 = i6' ∧ o6 = o6' ∧ a33 = a33' ∧ n33 = n33' ∧ c33 = c33' ∧ e33 = e33' ∧ x34 = x34' ∧ J g x35 h) (fun g => E6 fun a0' i4' o4' i6' o6' a33' n33' c33' e33' x34' x35 h => a0 = a0' ∧ i4 = i4' ∧ o4 = o4' ∧ i6 = i6' ∧ o6 = o6' ∧ a33 = a33' ∧ n33 = n33' ∧ c33 = c33' ∧ e33 = e33' ∧ x34 = x34' ∧ ∃ g', m g' < m g ∧ J g' x35 h) m ?_ ?_ g ⟨rfl, rfl, rfl, rfl, rfl, rfl, rfl, rfl, rfl, rfl, hj⟩
  · intro g env h hi
    obtain ⟨a0', i4', o4', i6', o6', a33', n33', c33', e33', x34', x35, rfl, rfl, rfl, rfl, rfl, rfl, rfl, rfl, rfl, rfl, rfl, hj⟩ := E6elim hi
    exact L6den Q (fun a0' i4' o4' i6' o6' a33' n33' c33' e33' x34' x35 h => a0 = a0' ∧ i4 = i4' ∧ o4 = o4' ∧ i6 = i6' ∧ o6 = o6' ∧ a33 = a33' ∧ n33 = n33' ∧ c33 = c33' ∧ e33 = e33' ∧ x34 = x34' ∧ ∃ g', m g' < m g ∧ J g' x35 h) a0 i4 o4 i6 o6 a33 n33 c33 e33 x34 x35 h (hr g x35 h hj (fun a0' i4' o4' i6' o6' a33' n33' c33' e33' x34' x35 h => a0 = a0' ∧ i4 = i4' ∧ o4 = o4' ∧ i6 = i6' ∧ o6 = o6' ∧ a33 = a33' ∧ n33 = n33' ∧ c33 = c33' ∧ e33 = e33' ∧ x34 = x34' ∧ ∃ g', m g' < m g ∧ J g' x35 h) fun g' x35 h hlt hj => ⟨rfl, rfl, rfl, rfl, rfl, rfl, rfl, rfl, rfl, rfl, g', hlt, hj⟩)
  · intro g env h hi
    obtain ⟨a0', i4', o4', i6', o6', a33', n33', c33', e33', x34', x35, rfl, rfl, rfl, rfl, rfl, rfl, rfl, rfl, rfl, rfl, rfl, g', hlt, hj⟩ := E6elim hi
    exact ⟨g', hlt, rfl, rfl, rfl, rfl, rfl, rfl, rfl, rfl, rfl, rfl, hj⟩
theorem A6x0i (Q : QT) (i6 o6 i4 o4 : Nat) (h : AHeap) (ht :
 xRow (hRow h (.ptr (some (i6, o6))) 2) fun cs_88 => xCons cs_88 fun c_89 r_90 => xInt .u8 (some c_89) fun x_91 => xCons r_90 fun c_92 r_93 => xSl (some c_92) fun a_94 n_95 c_96 e_97 => xNil r_93 (xHeap (hStore h (.ptr (some (i4, o4))) [.int .u8 x_91, .slice a_94 n_95 c_96 e_97]) fun h_98 => xRow (hRow h_98 (.ptr (some (i4, o4))) 2) fun cs_99 => xCons cs_99 fun c_100 r_101 => xInt .u8 (some c_100) fun x_102 => xCons r_101 fun c_103 r_104 => xSl (some c_103) fun a_105 n_106 c_107 e_108 => xNil r_104 (Q (.agg [.int .u8 x_102, .slice a_105 n_106 c_107 e_108]) h_98))) : A6x0 Q i6 o6 i4 o4 h :=
  At.mk (@cast _ ((K1 Q) (.exit 0) [(6, .ptr (some (i6, o6))), (4, .ptr (some (i4, o4)))] h) (by kernel_rfl) ht)
theorem call (a0 : Pt) (x1x0 : Int) (a1x1 : Pt) (n1x1 c1x1 : Nat) (e1x1 : Bool) (h : AHeap) (Q : QT) (ht :
 letH (h ++ [.cells t_spec_l1Node [.int .u8 x1x0, .slice a1x1 n1x1 c1x1 e1x1] false]) fun h_0 => letH (h_0 ++ [.cells t_spec_l1Node [.int .u8 0, .slice none 0 0 true] false]) fun h_1 => xInt .u8 (hCell h_1 (.ptr (some (List.length h, 0 + 0)))) fun x_2 => SCall pg n_spec_l2Index [.int .u8 x_2] h_1 fun v_3 h_4 =>
 xInt .i64 (some v_3) fun x_5 => bcase (decide ((x_5 : Int) ≥ 0)) (xSome a0 fun i_6 o_7 => (0 ≤ (x_5 : Int) ∧ (x_5 : Int) < (12 : Nat)) ∧ (xInt .u8 (hCell h_4 (.ptr (some (i_6, o_7 + (Int.toNat x_5) * 2 + 0)))) fun x_8 => bcase (!((x_8 : Int) == 0)) (xSome a0 fun i_9 o_10 => (0 ≤ (x_5 : Int) ∧ (x_5 : Int) < (12 : Nat)) ∧ (xRow (hRow h_4 (.ptr (some (i_9, o_10 + (Int.toNat x_5) * 2))) 2) fun cs_11 => xCons cs_11 fun c_12 r_13 => xInt .u8 (some c_12) fun x_14 => xCons r_13 fun c_15 r_16 => xSl (some c_15) fun a_17 n_18 c_19 e_20 => xNil r_16 (xHeap (hStore h_4 (.ptr (some (List.length h_0, 0))) [.int .u8 x_14, .slice a_17 n_18 c_19 e_20]) fun h_21 => xRow (hRow h_21 (.ptr (some (List.length h_0, 0))) 2) fun cs_22 => xCons cs_22 fun c_23 r_24 => xInt .u8 (some c_23) fun x_25 => xCons r_24 fun c_26 r_27 => xSl (some c_26) fun a_28 n_29 c_30 e_31 => xNil r_27 (Q (.agg [.int .u8 x_25, .slice a_28 n_29 c_30 e_31]) h_21)))) (J4 Q (List.length h) 0 a0 (List.length h_0) 0 h_4))) (J4 Q (List.length h) 0 a0 (List.length h_0) 0 h_4)) : SCall pg n_spec_l2Put [.ptr a0, .agg [.int .u8 x1x0, .slice a1x1 n1x1 c1x1 e1x1]] h Q :=
  SCall.of_body kp (c := cod fn) (fn := fn) Go.Proofs.Tryz.func104 (by kernel_rfl) (by kernel_rfl) (Nat.le_of_ble_eq_true (by kernel_rfl))
    (@cast _ (den pg fn.ntmps kp (cod fn) (Env.args 0 [.ptr a0, .agg [.int .u8 x1x0, .slice a1x1 n1x1 c1x1 e1x1]]) h (KR Q)) (by kernel_rfl) ht)
end F_spec_l2Put
end Go.Sim

/- Printed by wip/tool: what the functions' bodies do, in the words of 'den'. -/
set_option maxRecDepth 100000
set_option linter.unusedVariables false
namespace Go.Sim
open Go Go.RowKit
/-! Function loop.example/instancesearch/impl.BindingsValid -/
namespace F_impl_BindingsValid
noncomputable abbrev fn : Func := Go.Proofs.Tryz.f113
def kp : Keeps := [(3000002, [2]), (1000002, [0, 5, 6, 7]), (2000004, [36, 7, 6, 5, 0]), (4000006, [7, 6, 5, 0])]
noncomputable def C (p : List Nat) : Code := (cod fn).sub p
def KR (Q : QT) : KT := retA pg fn.results.toList Q
abbrev T2 := Pt → Nat → Nat → Bool → Pt → Nat → Nat → Bool → Int → Int → AHeap → Prop
def E2 (R2 : T2) (env : Env) (h : AHeap) : Prop := eVal 0 env fun v env => xSl (some v) fun a0 n0 c0 e0 => eVal 5 env fun v env => xSl (some v) fun a5 n5 c5 e5 => eVal 6 env fun v env => eInt .i64 v fun x6 => eVal 7 env fun v env => eInt .i64 v fun x7 => eNil env (R2 a0 n0 c0 e0 a5 n5 c5 e5 x6 x7 h)
theorem E2elim {R2 : T2} {env : Env} {h : AHeap} (hi : E2 R2 env h) : ∃ a0, ∃ n0, ∃ c0, ∃ e0, ∃ a5, ∃ n5, ∃ c5, ∃ e5, ∃ x6, ∃ x7, env = [(0, .slice a0 n0 c0 e0), (5, .slice a5 n5 c5 e5), (6, .int .i64 x6), (7, .int .i64 x7)] ∧ R2 a0 n0 c0 e0 a5 n5 c5 e5 x6 x7 h := by
  unfold E2 at hi
  have hi0 := hi
  clear hi
  obtain ⟨v, env, rfl, hi1⟩ := eVal_elim hi0
  obtain ⟨a0, n0, c0, e0, rfl, hi2⟩ := xSl_elim hi1
  obtain ⟨v, env, rfl, hi3⟩ := eVal_elim hi2
  obtain ⟨a5, n5, c5, e5, rfl, hi4⟩ := xSl_elim hi3
  obtain ⟨v, env, rfl, hi5⟩ := eVal_elim hi4
  obtain ⟨x6, rfl, hi6⟩ := eInt_elim hi5
  obtain ⟨v, env, rfl, hi7⟩ := eVal_elim hi6
  obtain ⟨x7, rfl, hi8⟩ := eInt_elim hi7
  obtain ⟨rfl, hi9⟩ := eNil_elim hi8
  have hi := hi9
  exact ⟨a0, n0, c0, e0, a5, n5, c5, e5, x6, x7, rfl, hi⟩
def K0 (Q : QT) : KT := andThen (fun env' h' => (match kp.find 4000007 with | some ks => Den pg fn.ntmps (C [1, 1]) (env'.keep ks) h' (KR Q) | none => den pg fn.ntmps kp (C [1, 1]) env' h' (KR Q))) (KR Q)
def K1 (Q : QT) : KT := onExit 0 (K0 Q)
def K2 (Q : QT) : KT := left kp 2 (K1 Q)
def K3 (Q : QT) (R2 : T2) : KT := rnd ((kp.find 1000002).getD []) (E2 R2) (K2 Q)
def L2 (Q : QT) (a0 : Pt) (n0 c0 : Nat) (e0 : Bool) (a5 : Pt) (n5 c5 : Nat) (e5 : Bool) (x6 x7 : Int) (h : AHeap) : Prop := Loop (Den pg fn.ntmps (C [1, 0, 1, 0, 0])) ((kp.find 1000002).getD []) (K2 Q) [(0, .slice a0 n0 c0 e0), (5, .slice a5 n5 c5 e5), (6, .int .i64 x6), (7, .int .i64 x7)] h
def J6 (Q : QT) (R2 : T2) (x7 x6 : Int) (a5 : Pt) (n5 c5 : Nat) (e5 : Bool) (a0 : Pt) (n0 c0 : Nat) (e0 : Bool) (h : AHeap) : Prop := Den pg fn.ntmps (C [1, 0, 1, 0, 0, 1, 1, 1]) [(7, .int .i64 x7), (6, .int .i64 x6), (5, .slice a5 n5 c5 e5), (0, .slice a0 n0 c0 e0)] h (K3 Q R2)
def A2x0 (Q : QT) (h : AHeap) : Prop := At (K1 Q) (.exit 0) [(2, .undef)] h
def L2t (Q : QT) (R2 : T2) (a0 : Pt) (n0 c0 : Nat) (e0 : Bool) (a5 : Pt) (n5 c5 : Nat) (e5 : Bool) (x6 x7 : Int) (h : AHeap) : Prop :=
 bcase (decide ((x7 : Int) < x6)) ((0 ≤ (x7 : Int) ∧ (x7 : Int) < (n5 : Nat)) ∧ (xSome a5 fun i_0 o_1 => xRow (hRow h (.ptr (some (i_0, o_1 + (Int.toNat x7) * 2))) 2) fun cs_2 => xCons cs_2 fun c_3 r_4 => xStr (some c_3) fun s_5 => xCons r_4 fun c_6 r_7 => xStr (some c_6) fun s_8 => xNil r_7 (letH (h ++ [.cells t_impl_Binding [.str [], .str []] false]) fun h_9 => xHeap (hStore h_9 (.ptr (some (List.length h, 0))) [.str s_5, .str s_8]) fun h_10 => xStr (hCell h_10 (.ptr (some (List.length h, 0 + 0)))) fun s_11 => SCall pg n_impl_isVar [.str s_11] h_10 fun v_12 h_13 =>
 xBool (some v_12) fun b_14 => bcase (!b_14) ((hCell h_13 (.tup []) = hCell h_13 (.tup [])) ∧ Q (.bool false) h_13) (xStr (hCell h_13 (.ptr (some (List.length h, 0 + 1)))) fun s_15 => SCall pg n_impl_TypeValid [.str s_15] h_13 fun v_16 h_17 =>
 xBool (some v_16) fun b_18 => bcase (!b_18) ((hCell h_17 (.tup []) = hCell h_17 (.tup [])) ∧ Q (.bool false) h_17) (bcase (decide ((x7 : Int) > 0)) ((0 ≤ (IntKind.wrap .i64 (x7 - 1) : Int) ∧ (IntKind.wrap .i64 (x7 - 1) : Int) < (n0 : Nat)) ∧ (xSome a0 fun i_19 o_20 => xStr (hCell h_17 (.ptr (some (i_19, o_20 + (Int.toNat (IntKind.wrap .i64 (x7 - 1))) * 2 + 0)))) fun s_21 => xStr (hCell h_17 (.ptr (some (List.length h, 0 + 0)))) fun s_22 => (hCell h_17 (.ptr (some (i_19, o_20 + (Int.toNat (IntKind.wrap .i64 (x7 - 1))) * 2 + 0))) = hCell h_17 (.ptr (some (i_19, o_20 + (Int.toNat (IntKind.wrap .i64 (x7 - 1))) * 2 + 0)))) ∧ bcase (!natLess s_21 s_22) (Q (.bool false) h_17) (J6 Q R2 x7 x6 a5 n5 c5 e5 a0 n0 c0 e0 h_17))) ((hCell h_17 (.tup []) = hCell h_17 (.tup [])) ∧ J6 Q R2 x7 x6 a5 n5 c5 e5 a0 n0 c0 e0 h_17)))))) (A2x0 Q h)
theorem L2den (Q : QT) (R2 : T2) (a0 : Pt) (n0 c0 : Nat) (e0 : Bool) (a5 : Pt) (n5 c5 : Nat) (e5 : Bool) (x6 x7 : Int) (h : AHeap) (ht : L2t Q R2 a0 n0 c0 e0 a5 n5 c5 e5 x6 x7 h) : Den pg fn.ntmps (C [1, 0, 1, 0, 0]) [(0, .slice a0 n0 c0 e0), (5, .slice a5 n5 c5 e5), (6, .int .i64 x6), (7, .int .i64 x7)] h (K3 Q R2) :=
  den_Den (kp := kp) (@cast _ (den pg fn.ntmps kp (C [1, 0, 1, 0, 0]) [(0, .slice a0 n0 c0 e0), (5, .slice a5 n5 c5 e5), (6, .int .i64 x6), (7, .int .i64 x7)] h (K3 Q R2)) (by kernel_rfl) ht)
theorem L2ind (Q : QT) (a0 : Pt) (n0 c0 : Nat) (e0 : Bool) (a5 : Pt) (n5 c5 : Nat) (e5 : Bool) (x6 : Int) {G : Type} (J : G → Int → AHeap → Prop) (m : G → Nat)
 (hr : ∀ (g : G) (x7 : Int) (h : AHeap), J g x7 h → ∀ (R2 : T2), (∀ g' (x7 : Int) (h : AHeap), m g' < m g → J g' x7 h → R2 a0 n0 c0 e0 a5 n5 c5 e5 x6 x7 h) → L2t Q R2 a0 n0 c0 e0 a5 n5 c5 e5 x6 x7 h)
 (g : G) (x7 : Int) (h : AHeap) (hj : J g x7 h) : L2 Q a0 n0 c0 e0 a5 n5 c5 e5 x6 x7 h := by
  refine Loop.inv2 (fun g => E2 fun a0' n0' c0' e0' a5' n5' c5' e5' x6' x7 h => a0 = a0' ∧ n0 = n0' ∧ c0 = c0' ∧ e0 = e0' ∧ a5 = a5' ∧ n5 = n5' ∧ c5 = c5' ∧ e5 = e5' ∧ x6 = x6' ∧ J g x7 h) (fun g => E2 fun a0' n0' c0' e0' a5' n5' c5' e5' x6' x7 h => a0 = a0' ∧ n0 = n0' ∧ c0 = c0' ∧ e0 = e0' ∧ a5 = a5' ∧ n5 = n5' ∧ c5 = c5' ∧ e5 = e5' ∧ x6 = x6' ∧ ∃ g', m g' < m g ∧ J g' x7 h) m ?_ ?_ g ⟨rfl, rfl, rfl, rfl, rfl, rfl, rfl, rfl, rfl, hj⟩
  · intro g env h hi
    obtain ⟨a0', n0', c0', e0', a5', n5', c5', e5', x6', x7, rfl, rfl, rfl, rfl, rfl, rfl, rfl, rfl, rfl, rfl, hj⟩ := E2elim hi
    exact L2den Q (fun a0' n0' c0' e0' a5' n5' c5' e5' x6' x7 h => a0 = a0' ∧ n0 = n0' ∧ c0 = c0' ∧ e0 = e0' ∧ a5 = a5' ∧ n5 = n5' ∧ c5 = c5' ∧ e5 = e5' ∧ x6 = x6' ∧ ∃ g', m g' < m g ∧ J g' x7 h) a0 n0 c0 e0 a5 n5 c5 e5 x6 x7 h (hr g x7 h hj (fun a0' n0' c0' e0' a5' n5' c5' e5' x6' x7 h => a0 = a0' ∧ n0 = n0' ∧ c0 = c0' ∧ e0 = e0' ∧ a5 = a5' ∧ n5 = n5' ∧ c5 = c5' ∧ e5 = e5' ∧ x6 = x6' ∧ ∃ g', m g' < m g ∧ J g' x7 h) fun g' x7 h hlt hj => ⟨rfl, rfl, rfl, rfl, rfl, rfl, rfl, rfl, rfl, g', hlt, hj⟩)
  · intro g env h hi
    obtain ⟨a0', n0', c0', e0', a5', n5', c5', e5', x6', x7, rfl, rfl, rfl, rfl, rfl, rfl, rfl, rfl, rfl, rfl, g', hlt, hj⟩ := E2elim hi
    exact ⟨g', hlt, rfl, rfl, rfl, rfl, rfl, rfl, rfl, rfl, rfl, hj⟩
theorem J6i (Q : QT) (R2 : T2) (x7 x6 : Int) (a5 : Pt) (n5 c5 : Nat) (e5 : Bool) (a0 : Pt) (n0 c0 : Nat) (e0 : Bool) (h : AHeap) (ht :
 R2 a0 n0 c0 e0 a5 n5 c5 e5 x6 (IntKind.wrap .i64 (x7 + 1)) h) : J6 Q R2 x7 x6 a5 n5 c5 e5 a0 n0 c0 e0 h :=
  den_Den (kp := kp) (@cast _ (den pg fn.ntmps kp (C [1, 0, 1, 0, 0, 1, 1, 1]) [(7, .int .i64 x7), (6, .int .i64 x6), (5, .slice a5 n5 c5 e5), (0, .slice a0 n0 c0 e0)] h (K3 Q R2)) (by kernel_rfl) ht)
theorem A2x0i (Q : QT) (h : AHeap) (ht :
 Q (.bool true) h) : A2x0 Q h :=
  At.mk (@cast _ ((K1 Q) (.exit 0) [(2, .undef)] h) (by kernel_rfl) ht)
theorem call (a0 : Pt) (n0 c0 : Nat) (e0 : Bool) (h : AHeap) (Q : QT) (ht :
 L2 Q a0 n0 c0 e0 a0 n0 c0 e0 (((n0 : Nat) : Int)) 0 h) : SCall pg n_impl_BindingsValid [.slice a0 n0 c0 e0] h Q :=
  SCall.of_body kp (c := cod fn) (fn := fn) Go.Proofs.Tryz.func113 (by kernel_rfl) (by kernel_rfl) (Nat.le_of_ble_eq_true (by kernel_rfl))
    (@cast _ (den pg fn.ntmps kp (cod fn) (Env.args 0 [.slice a0 n0 c0 e0]) h (KR Q)) (by kernel_rfl) ht)
end F_impl_BindingsValid
/-! Function loop.example/instancesearch/impl.ApplyBindings -/
namespace F_impl_ApplyBindings
noncomputable abbrev fn : Func := Go.Proofs.Tryz.f67
def kp : Keeps := [(4000003, [1, 0]), (3000005, [6]), (1000005, [0, 1, 6, 20, 21]), (3000009, [6, 8, 21, 20, 1, 0]), (1000009, [0, 1, 6, 8, 20, 21, 29, 30, 31])]
noncomputable def C (p : List Nat) : Code := (cod fn).sub p
def KR (Q : QT) : KT := retA pg fn.results.toList Q
abbrev T5 := Pt → Nat → Nat → Bool → List Nat → List Nat → Int → Int → AHeap → Prop
def E5 (R5 : T5) (env : Env) (h : AHeap) : Prop := eVal 0 env fun v env => xSl (some v) fun a0 n0 c0 e0 => eVal 1 env fun v env => xStr (some v) fun x1 => eVal 6 env fun v env => xStr (some v) fun x6 => eVal 20 env fun v env => eInt .i64 v fun x20 => eVal 21 env fun v env => eInt .i64 v fun x21 => eNil env (R5 a0 n0 c0 e0 x1 x6 x20 x21 h)
theorem E5elim {R5 : T5} {env : Env} {h : AHeap} (hi : E5 R5 env h) : ∃ a0, ∃ n0, ∃ c0, ∃ e0, ∃ x1, ∃ x6, ∃ x20, ∃ x21, env = [(0, .slice a0 n0 c0 e0), (1, .str x1), (6, .str x6), (20, .int .i64 x20), (21, .int .i64 x21)] ∧ R5 a0 n0 c0 e0 x1 x6 x20 x21 h := by
  unfold E5 at hi
  have hi0 := hi
  clear hi
  obtain ⟨v, env, rfl, hi1⟩ := eVal_elim hi0
  obtain ⟨a0, n0, c0, e0, rfl, hi2⟩ := xSl_elim hi1
  obtain ⟨v, env, rfl, hi3⟩ := eVal_elim hi2
  obtain ⟨x1, rfl, hi4⟩ := xStr_elim hi3
  obtain ⟨v, env, rfl, hi5⟩ := eVal_elim hi4
  obtain ⟨x6, rfl, hi6⟩ := xStr_elim hi5
  obtain ⟨v, env, rfl, hi7⟩ := eVal_elim hi6
  obtain ⟨x20, rfl, hi8⟩ := eInt_elim hi7
  obtain ⟨v, env, rfl, hi9⟩ := eVal_elim hi8
  obtain ⟨x21, rfl, hi10⟩ := eInt_elim hi9
  obtain ⟨rfl, hi11⟩ := eNil_elim hi10
  have hi := hi11
  exact ⟨a0, n0, c0, e0, x1, x6, x20, x21, rfl, hi⟩
abbrev T9 := Pt → Nat → Nat → Bool → List Nat → List Nat → List Nat → Int → Int → Pt → Nat → Nat → Bool → Int → Int → AHeap → Prop
def E9 (R9 : T9) (env : Env) (h : AHeap) : Prop := eVal 0 env fun v env => xSl (some v) fun a0 n0 c0 e0 => eVal 1 env fun v env => xStr (some v) fun x1 => eVal 6 env fun v env => xStr (some v) fun x6 => eVal 8 env fun v env => xStr (some v) fun x8 => eVal 20 env fun v env => eInt .i64 v fun x20 => eVal 21 env fun v env => eInt .i64 v fun x21 => eVal 29 env fun v env => xSl (some v) fun a29 n29 c29 e29 => eVal 30 env fun v env => eInt .i64 v fun x30 => eVal 31 env fun v env => eInt .i64 v fun x31 => eNil env (R9 a0 n0 c0 e0 x1 x6 x8 x20 x21 a29 n29 c29 e29 x30 x31 h)
theorem E9elim {R9 : T9} {env : Env} {h : AHeap} (hi : E9 R9 env h) : ∃ a0, ∃ n0, ∃ c0, ∃ e0, ∃ x1, ∃ x6, ∃ x8, ∃ x20, ∃ x21, ∃ a29, ∃ n29, ∃ c29, ∃ e29, ∃ x30, ∃ x31, env = [(0, .slice a0 n0 c0 e0), (1, .str x1), (6, .str x6), (8, .str x8), (20, .int .i64 x20), (21, .int .i64 x21), (29, .slice a29 n29 c29 e29), (30, .int .i64 x30), (31, .int .i64 x31)] ∧ R9 a0 n0 c0 e0 x1 x6 x8 x20 x21 a29 n29 c29 e29 x30 x31 h := by
  unfold E9 at hi
  have hi0 := hi
  clear hi
  obtain ⟨v, env, rfl, hi1⟩ := eVal_elim hi0
  obtain ⟨a0, n0, c0, e0, rfl, hi2⟩ := xSl_elim hi1
  obtain ⟨v, env, rfl, hi3⟩ := eVal_elim hi2
  obtain ⟨x1, rfl, hi4⟩ := xStr_elim hi3
  obtain ⟨v, env, rfl, hi5⟩ := eVal_elim hi4
  obtain ⟨x6, rfl, hi6⟩ := xStr_elim hi5
  obtain ⟨v, env, rfl, hi7⟩ := eVal_elim hi6
  obtain ⟨x8, rfl, hi8⟩ := xStr_elim hi7
  obtain ⟨v, env, rfl, hi9⟩ := eVal_elim hi8
  obtain ⟨x20, rfl, hi10⟩ := eInt_elim hi9
  obtain ⟨v, env, rfl, hi11⟩ := eVal_elim hi10
  obtain ⟨x21, rfl, hi12⟩ := eInt_elim hi11
  obtain ⟨v, env, rfl, hi13⟩ := eVal_elim hi12
  obtain ⟨a29, n29, c29, e29, rfl, hi14⟩ := xSl_elim hi13
  obtain ⟨v, env, rfl, hi15⟩ := eVal_elim hi14
  obtain ⟨x30, rfl, hi16⟩ := eInt_elim hi15
  obtain ⟨v, env, rfl, hi17⟩ := eVal_elim hi16
  obtain ⟨x31, rfl, hi18⟩ := eInt_elim hi17
  obtain ⟨rfl, hi19⟩ := eNil_elim hi18
  have hi := hi19
  exact ⟨a0, n0, c0, e0, x1, x6, x8, x20, x21, a29, n29, c29, e29, x30, x31, rfl, hi⟩
def K0 (Q : QT) : KT := andThen (fun env' h' => (match kp.find 4000016 with | some ks => Den pg fn.ntmps (C [1, 1, 1, 1]) (env'.keep ks) h' (KR Q) | none => den pg fn.ntmps kp (C [1, 1, 1, 1]) env' h' (KR Q))) (KR Q)
def K1 (Q : QT) : KT := onExit 0 (K0 Q)
def K2 (Q : QT) : KT := left kp 5 (K1 Q)
def K3 (Q : QT) (R5 : T5) : KT := rnd ((kp.find 1000005).getD []) (E5 R5) (K2 Q)
def K4 (Q : QT) (R5 : T5) : KT := andThen (fun env' h' => (match kp.find 4000015 with | some ks => Den pg fn.ntmps (C [1, 1, 1, 0, 1, 0, 0, 1, 1, 1]) (env'.keep ks) h' (K3 Q R5) | none => den pg fn.ntmps kp (C [1, 1, 1, 0, 1, 0, 0, 1, 1, 1]) env' h' (K3 Q R5))) (K3 Q R5)
def K5 (Q : QT) (R5 : T5) : KT := onExit 1 (K4 Q R5)
def K6 (Q : QT) (R5 : T5) : KT := andThen (fun env' h' => (match kp.find 4000014 with | some ks => Den pg fn.ntmps (C [1, 1, 1, 0, 1, 0, 0, 1, 1, 0, 0, 1, 1, 1]) (env'.keep ks) h' (K5 Q R5) | none => den pg fn.ntmps kp (C [1, 1, 1, 0, 1, 0, 0, 1, 1, 0, 0, 1, 1, 1]) env' h' (K5 Q R5))) (K5 Q R5)
def K7 (Q : QT) (R5 : T5) : KT := onExit 2 (K6 Q R5)
def K8 (Q : QT) (R5 : T5) : KT := left kp 9 (K7 Q R5)
def K9 (Q : QT) (R5 : T5) (R9 : T9) : KT := rnd ((kp.find 1000009).getD []) (E9 R9) (K8 Q R5)
def J3 (Q : QT) (x1 : List Nat) (a0 : Pt) (n0 c0 : Nat) (e0 : Bool) (h : AHeap) : Prop := Den pg fn.ntmps (C [1, 1]) [(1, .str x1), (0, .slice a0 n0 c0 e0)] h (KR Q)
def L5 (Q : QT) (a0 : Pt) (n0 c0 : Nat) (e0 : Bool) (x1 x6 : List Nat) (x20 x21 : Int) (h : AHeap) : Prop := Loop (Den pg fn.ntmps (C [1, 1, 1, 0, 1, 0, 0])) ((kp.find 1000005).getD []) (K2 Q) [(0, .slice a0 n0 c0 e0), (1, .str x1), (6, .str x6), (20, .int .i64 x20), (21, .int .i64 x21)] h
def L9 (Q : QT) (R5 : T5) (a0 : Pt) (n0 c0 : Nat) (e0 : Bool) (x1 x6 x8 : List Nat) (x20 x21 : Int) (a29 : Pt) (n29 c29 : Nat) (e29 : Bool) (x30 x31 : Int) (h : AHeap) : Prop := Loop (Den pg fn.ntmps (C [1, 1, 1, 0, 1, 0, 0, 1, 1, 0, 0, 1, 1, 0, 1, 0, 0])) ((kp.find 1000009).getD []) (K8 Q R5) [(0, .slice a0 n0 c0 e0), (1, .str x1), (6, .str x6), (8, .str x8), (20, .int .i64 x20), (21, .int .i64 x21), (29, .slice a29 n29 c29 e29), (30, .int .i64 x30), (31, .int .i64 x31)] h
def A5x0 (Q : QT) (x6 : List Nat) (h : AHeap) : Prop := At (K1 Q) (.exit 0) [(6, .str x6)] h
def A9x2 (Q : QT) (R5 : T5) (x6 x8 : List Nat) (x21 x20 : Int) (x1 : List Nat) (a0 : Pt) (n0 c0 : Nat) (e0 : Bool) (h : AHeap) : Prop := At (K7 Q R5) (.exit 2) [(6, .str x6), (8, .str x8), (21, .int .i64 x21), (20, .int .i64 x20), (1, .str x1), (0, .slice a0 n0 c0 e0)] h
theorem J3i (Q : QT) (x1 : List Nat) (a0 : Pt) (n0 c0 : Nat) (e0 : Bool) (h : AHeap) (ht :
 L5 Q a0 n0 c0 e0 x1 [] (((List.length x1 : Nat) : Int)) 0 h) : J3 Q x1 a0 n0 c0 e0 h :=
  den_Den (kp := kp) (@cast _ (den pg fn.ntmps kp (C [1, 1]) [(1, .str x1), (0, .slice a0 n0 c0 e0)] h (KR Q)) (by kernel_rfl) ht)
def L5t (Q : QT) (R5 : T5) (a0 : Pt) (n0 c0 : Nat) (e0 : Bool) (x1 x6 : List Nat) (x20 x21 : Int) (h : AHeap) : Prop :=
 bcase (decide ((x21 : Int) < x20)) ((0 ≤ (x21 : Int) ∧ (x21 : Int) ≤ IntKind.wrap .i64 (x21 + 1) ∧ (IntKind.wrap .i64 (x21 + 1) : Int) ≤ (List.length x1 : Nat)) ∧ (L9 Q R5 a0 n0 c0 e0 x1 x6 (sub x1 x21 (IntKind.wrap .i64 (x21 + 1))) x20 x21 a0 n0 c0 e0 (((n0 : Nat) : Int)) 0 h)) (A5x0 Q x6 h)
theorem L5den (Q : QT) (R5 : T5) (a0 : Pt) (n0 c0 : Nat) (e0 : Bool) (x1 x6 : List Nat) (x20 x21 : Int) (h : AHeap) (ht : L5t Q R5 a0 n0 c0 e0 x1 x6 x20 x21 h) : Den pg fn.ntmps (C [1, 1, 1, 0, 1, 0, 0]) [(0, .slice a0 n0 c0 e0), (1, .str x1), (6, .str x6), (20, .int .i64 x20), (21, .int .i64 x21)] h (K3 Q R5) :=
  den_Den (kp := kp) (@cast _ (den pg fn.ntmps kp (C [1, 1, 1, 0, 1, 0, 0]) [(0, .slice a0 n0 c0 e0), (1, .str x1), (6, .str x6), (20, .int .i64 x20), (21, .int .i64 x21)] h (K3 Q R5)) (by kernel_rfl) ht)
theorem L5ind (Q : QT) (a0 : Pt) (n0 c0 : Nat) (e0 : Bool) (x1 : List Nat) (x20 : Int) {G : Type} (J : G → List Nat → Int → AHeap → Prop) (m : G → Nat)
 (hr : ∀ (g : G) (x6 : List Nat) (x21 : Int) (h : AHeap), J g x6 x21 h → ∀ (R5 : T5), (∀ g' (x6 : List Nat) (x21 : Int) (h : AHeap), m g' < m g → J g' x6 x21 h → R5 a0 n0 c0 e0 x1 x6 x20 x21 h) → L5t Q R5 a0 n0 c0 e0 x1 x6 x20 x21 h)
 (g : G) (x6 : List Nat) (x21 : Int) (h : AHeap) (hj : J g x6 x21 h) : L5 Q a0 n0 c0 e0 x1 x6 x20 x21 h := by
  refine Loop.inv2 (fun g => E5 fun a0' n0' c0' e0' x1' x6 x20' x21 h => a0 = a0' ∧ n0 = n0' ∧ c0 = c0' ∧ e0 = e0' ∧ x1 = x1' ∧ x20 = x20' ∧ J g x6 x21 h) (fun g => E5 fun a0' n0' c0' e0' x1' x6 x20' x21 h => a0 = a0' ∧ n0 = n0' ∧ c0 = c0' ∧ e0 = e0' ∧ x1 = x1' ∧ x20 = x20' ∧ ∃ g', m g' < m g ∧ J g' x6 x21 h) m ?_ ?_ g ⟨rfl, rfl, rfl, rfl, rfl, rfl, hj⟩
  · intro g env h hi
    obtain ⟨a0', n0', c0', e0', x1', x6, x20', x21, rfl, rfl, rfl, rfl, rfl, rfl, rfl, hj⟩ := E5elim hi
    exact L5den Q (fun a0' n0' c0' e0' x1' x6 x20' x21 h => a0 = a0' ∧ n0 = n0' ∧ c0 = c0' ∧ e0 = e0' ∧ x1 = x1' ∧ x20 = x20' ∧ ∃ g', m g' < m g ∧ J g' x6 x21 h) a0 n0 c0 e0 x1 x6 x20 x21 h (hr g x6 x21 h hj (fun a0' n0' c0' e0' x1' x6 x20' x21 h => a0 = a0' ∧ n0 = n0' ∧ c0 = c0' ∧ e0 = e0' ∧ x1 = x1' ∧ x20 = x20' ∧ ∃ g', m g' < m g ∧ J g' x6 x21 h) fun g' x6 x21 h hlt hj => ⟨rfl, rfl, rfl, rfl, rfl, rfl, g', hlt, hj⟩)
  · intro g env h hi
    obtain ⟨a0', n0', c0', e0', x1', x6, x20', x21, rfl, rfl, rfl, rfl, rfl, rfl, rfl, g', hlt, hj⟩ := E5elim hi
    exact ⟨g', hlt, rfl, rfl, rfl, rfl, rfl, rfl, hj⟩
def L9t (Q : QT) (R5 : T5) (R9 : T9) (a0 : Pt) (n0 c0 : Nat) (e0 : Bool) (x1 x6 x8 : List Nat) (x20 x21 : Int) (a29 : Pt) (n29 c29 : Nat) (e29 : Bool) (x30 x31 : Int) (h : AHeap) : Prop :=
 bcase (decide ((x31 : Int) < x30)) ((0 ≤ (x31 : Int) ∧ (x31 : Int) < (n29 : Nat)) ∧ (xSome a29 fun i_6 o_7 => xRow (hRow h (.ptr (some (i_6, o_7 + (Int.toNat x31) * 2))) 2) fun cs_8 => xCons cs_8 fun c_9 r_10 => xStr (some c_9) fun s_11 => xCons r_10 fun c_12 r_13 => xStr (some c_12) fun s_14 => xNil r_13 (letH (h ++ [.cells t_impl_Binding [.str [], .str []] false]) fun h_15 => xHeap (hStore h_15 (.ptr (some (List.length h, 0))) [.str s_11, .str s_14]) fun h_16 => xStr (hCell h_16 (.ptr (some (List.length h, 0 + 0)))) fun s_17 => bcase (decide (s_17 = x8)) (xStr (hCell h_16 (.ptr (some (List.length h, 0 + 1)))) fun s_18 => A9x2 Q R5 x6 s_18 x21 x20 x1 a0 n0 c0 e0 h_16) (R9 a0 n0 c0 e0 x1 x6 x8 x20 x21 a29 n29 c29 e29 x30 (IntKind.wrap .i64 (x31 + 1)) h_16)))) (A9x2 Q R5 x6 x8 x21 x20 x1 a0 n0 c0 e0 h)
theorem L9den (Q : QT) (R5 : T5) (R9 : T9) (a0 : Pt) (n0 c0 : Nat) (e0 : Bool) (x1 x6 x8 : List Nat) (x20 x21 : Int) (a29 : Pt) (n29 c29 : Nat) (e29 : Bool) (x30 x31 : Int) (h : AHeap) (ht : L9t Q R5 R9 a0 n0 c0 e0 x1 x6 x8 x20 x21 a29 n29 c29 e29 x30 x31 h) : Den pg fn.ntmps (C [1, 1, 1, 0, 1, 0, 0, 1, 1, 0, 0, 1, 1, 0, 1, 0, 0]) [(0, .slice a0 n0 c0 e0), (1, .str x1), (6, .str x6), (8, .str x8), (20, .int .i64 x20), (21, .int .i64 x21), (29, .slice a29 n29 c29 e29), (30, .int .i64 x30), (31, .int .i64 x31)] h (K9 Q R5 R9) :=
  den_Den (kp := kp) (@cast _ (den pg fn.ntmps kp (C [1, 1, 1, 0, 1, 0, 0, 1, 1, 0, 0, 1, 1, 0, 1, 0, 0]) [(0, .slice a0 n0 c0 e0), (1, .str x1), (6, .str x6), (8, .str x8), (20, .int .i64 x20), (21, .int .i64 x21), (29, .slice a29 n29 c29 e29), (30, .int .i64 x30), (31, .int .i64 x31)] h (K9 Q R5 R9)) (by kernel_rfl) ht)
theorem L9ind (Q : QT) (R5 : T5) (a0 : Pt) (n0 c0 : Nat) (e0 : Bool) (x1 x6 : List Nat) (x20 x21 : Int) (a29 : Pt) (n29 c29 : Nat) (e29 : Bool) (x30 : Int) {G : Type} (J : G → List Nat → Int → AHeap → Prop) (m : G → Nat)
 (hr : ∀ (g : G) (x8 : List Nat) (x31 : Int) (h : AHeap), J g x8 x31 h → ∀ (R9 : T9), (∀ g' (x8 : List Nat) (x31 : Int) (h : AHeap), m g' < m g → J g' x8 x31 h → R9 a0 n0 c0 e0 x1 x6 x8 x20 x21 a29 n29 c29 e29 x30 x31 h) → L9t Q R5 R9 a0 n0 c0 e0 x1 x6 x8 x20 x21 a29 n29 c29 e29 x30 x31 h)
 (g : G) (x8 : List Nat) (x31 : Int) (h : AHeap) (hj : J g x8 x31 h) : L9 Q R5 a0 n0 c0 e0 x1 x6 x8 x20 x21 a29 n29 c29 e29 x30 x31 h := by
  refine Loop.inv2 (fun g => E9 fun a0' n0' c0' e0' x1' x6' x8 x20' x21' a29' n29' c29' e29' x30' x31 h => a0 = a0' ∧ n0 = n0' ∧ c0 = c0' ∧ e0 = e0' ∧ x1 = x1' ∧ x6 = x6' ∧ x20 = x20' ∧ x21 = x21' ∧ a29 = a29' ∧ n29 = n29' ∧ c29 = c29' ∧ e29 = e29' ∧ x30 = x30' ∧ J g x8 x31 h) (fun g => E9 fun a0' n0' c0' e0' x1' x6' x8 x20' x21' a29' n29' c29' e29' x30' x31 h => a0 = a0' ∧ n0 = n0' ∧ c0 = c0' ∧ e0 = e0' ∧ x1 = x1' ∧ x6 = x6' ∧ x20 = x20' ∧ x21 = x21' ∧ a29 = a29' ∧ n29 = n29' ∧ c29 = c29' ∧ e29 = e29' ∧ x30 = x30' ∧ ∃ g', m g' < m g ∧ J g' x8 x31 h) m ?_ ?_ g ⟨rfl, rfl, rfl, rfl, rfl, rfl, rfl, rfl, rfl, rfl, rfl, rfl, rfl, hj⟩
  · intro g env h hi
    obtain ⟨a0', n0', c0', e0', x1', x6', x8, x20', x21', a29', n29', c29', e29', x30', x31, rfl, rfl, rfl, rfl, rfl, rfl, rfl, rfl, rfl, rfl, rfl, rfl, rfl, rfl, hj⟩ := E9elim hi
    exact L9den Q R5 (fun a0' n0' c0' e0' x1' x6' x8 x20' x21' a29' n29' c29' e29' x30' x31 h => a0 = a0' ∧ n0 = n0' ∧ c0 = c0' ∧ e0 = e0' ∧ x1 = x1' ∧ x6 = x6' ∧ x20 = x20' ∧ x21 = x21' ∧ a29 = a29' ∧ n29 = n29' ∧ c29 = c29' ∧ e29 = e29' ∧ x30 = x30' ∧ ∃ g', m g' < m g ∧ J g' x8 x31 h) a0 n0 c0 e0 x1 x6 x8 x20 x21 a29 n29 c29 e29 x30 x31 h (hr g x8 x31 h hj (fun a0' n0' c0' e0' x1' x6' x8 x20' x21' a29' n29' c29' e29' x30' x31 h => a0 = a0' ∧ n0 = n0' ∧ c0 = c0' ∧ e0 = e0' ∧ x1 = x1' ∧ x6 = x6' ∧ x20 = x20' ∧ x21 = x21' ∧ a29 = a29' ∧ n29 = n29' ∧ c29 = c29' ∧ e29 = e29' ∧ x30 = x30' ∧ ∃ g', m g' < m g ∧ J g' x8 x31 h) fun g' x8 x31 h hlt hj => ⟨rfl, rfl, rfl, rfl, rfl, rfl, rfl, rfl, rfl, rfl, rfl, rfl, rfl, g', hlt, hj⟩)
  · intro g env h hi
    obtain ⟨a0', n0', c0', e0', x1', x6', x8, x20', x21', a29', n29', c29', e29', x30', x31, rfl, rfl, rfl, rfl, rfl, rfl, rfl, rfl, rfl, rfl, rfl, rfl, rfl, rfl, g', hlt, hj⟩ := E9elim hi
    exact ⟨g', hlt, rfl, rfl, rfl, rfl, rfl, rfl, rfl, rfl, rfl, rfl, rfl, rfl, rfl, hj⟩
theorem A5x0i (Q : QT) (x6 : List Nat) (h : AHeap) (ht :
 bcase (decide (((((List.length x6 : Nat) : Int)) : Int) > 60)) (Q (.tup [.str [], .bool false]) h) (Q (.tup [.str x6, .bool true]) h)) : A5x0 Q x6 h :=
  At.mk (@cast _ ((K1 Q) (.exit 0) [(6, .str x6)] h) (by kernel_rfl) ht)
theorem A9x2i (Q : QT) (R5 : T5) (x6 x8 : List Nat) (x21 x20 : Int) (x1 : List Nat) (a0 : Pt) (n0 c0 : Nat) (e0 : Bool) (h : AHeap) (ht :
 List.length x6 + List.length x8 ≤ 9223372036854775807 ∧ (R5 a0 n0 c0 e0 x1 (x6 ++ x8) x20 (IntKind.wrap .i64 (x21 + 1)) h)) : A9x2 Q R5 x6 x8 x21 x20 x1 a0 n0 c0 e0 h :=
  At.mk (@cast _ ((K7 Q R5) (.exit 2) [(6, .str x6), (8, .str x8), (21, .int .i64 x21), (20, .int .i64 x20), (1, .str x1), (0, .slice a0 n0 c0 e0)] h) (by kernel_rfl) ht)
theorem call (a0 : Pt) (n0 c0 : Nat) (e0 : Bool) (x1 : List Nat) (h : AHeap) (Q : QT) (ht :
 SCall pg n_impl_BindingsValid [.slice a0 n0 c0 e0] h fun v_0 h_1 =>
 xBool (some v_0) fun b_2 => bcase (!b_2) (Q (.tup [.str [], .bool false]) h_1) (SCall pg n_impl_TypeValid [.str x1] h_1 fun v_3 h_4 =>
 xBool (some v_3) fun b_5 => bcase (!b_5) (Q (.tup [.str [], .bool false]) h_4) (J3 Q x1 a0 n0 c0 e0 h_4))) : SCall pg n_impl_ApplyBindings [.slice a0 n0 c0 e0, .str x1] h Q :=
  SCall.of_body kp (c := cod fn) (fn := fn) Go.Proofs.Tryz.func67 (by kernel_rfl) (by kernel_rfl) (Nat.le_of_ble_eq_true (by kernel_rfl))
    (@cast _ (den pg fn.ntmps kp (cod fn) (Env.args 0 [.slice a0 n0 c0 e0, .str x1]) h (KR Q)) (by kernel_rfl) ht)
end F_impl_ApplyBindings
/-! Function (loop.example/instancesearch/impl.Instance).needs -/
namespace F_impl_Instance_needs
noncomputable abbrev fn : Func := Go.Proofs.Tryz.f34
def kp : Keeps := [(3000004, [7, 8]), (1000004, [6, 7, 8, 23, 24, 25]), (4000008, [8, 10, 11, 25, 24, 23, 6, 7]), (4000009, [25, 24, 23, 6, 7, 8])]
noncomputable def C (p : List Nat) : Code := (cod fn).sub p
def KR (Q : QT) : KT := retA pg fn.results.toList Q
abbrev T4 := Pt → Nat → Nat → Bool → Bool → Pt → Nat → Nat → Bool → Pt → Nat → Nat → Bool → Int → Int → AHeap → Prop
def E4 (R4 : T4) (env : Env) (h : AHeap) : Prop := eVal 6 env fun v env => xSl (some v) fun a6 n6 c6 e6 => eVal 7 env fun v env => xBool (some v) fun x7 => eVal 8 env fun v env => xSl (some v) fun a8 n8 c8 e8 => eVal 23 env fun v env => xSl (some v) fun a23 n23 c23 e23 => eVal 24 env fun v env => eInt .i64 v fun x24 => eVal 25 env fun v env => eInt .i64 v fun x25 => eNil env (R4 a6 n6 c6 e6 x7 a8 n8 c8 e8 a23 n23 c23 e23 x24 x25 h)
theorem E4elim {R4 : T4} {env : Env} {h : AHeap} (hi : E4 R4 env h) : ∃ a6, ∃ n6, ∃ c6, ∃ e6, ∃ x7, ∃ a8, ∃ n8, ∃ c8, ∃ e8, ∃ a23, ∃ n23, ∃ c23, ∃ e23, ∃ x24, ∃ x25, env = [(6, .slice a6 n6 c6 e6), (7, .bool x7), (8, .slice a8 n8 c8 e8), (23, .slice a23 n23 c23 e23), (24, .int .i64 x24), (25, .int .i64 x25)] ∧ R4 a6 n6 c6 e6 x7 a8 n8 c8 e8 a23 n23 c23 e23 x24 x25 h := by
  unfold E4 at hi
  have hi0 := hi
  clear hi
  obtain ⟨v, env, rfl, hi1⟩ := eVal_elim hi0
  obtain ⟨a6, n6, c6, e6, rfl, hi2⟩ := xSl_elim hi1
  obtain ⟨v, env, rfl, hi3⟩ := eVal_elim hi2
  obtain ⟨x7, rfl, hi4⟩ := xBool_elim hi3
  obtain ⟨v, env, rfl, hi5⟩ := eVal_elim hi4
  obtain ⟨a8, n8, c8, e8, rfl, hi6⟩ := xSl_elim hi5
  obtain ⟨v, env, rfl, hi7⟩ := eVal_elim hi6
  obtain ⟨a23, n23, c23, e23, rfl, hi8⟩ := xSl_elim hi7
  obtain ⟨v, env, rfl, hi9⟩ := eVal_elim hi8
  obtain ⟨x24, rfl, hi10⟩ := eInt_elim hi9
  obtain ⟨v, env, rfl, hi11⟩ := eVal_elim hi10
  obtain ⟨x25, rfl, hi12⟩ := eInt_elim hi11
  obtain ⟨rfl, hi13⟩ := eNil_elim hi12
  have hi := hi13
  exact ⟨a6, n6, c6, e6, x7, a8, n8, c8, e8, a23, n23, c23, e23, x24, x25, rfl, hi⟩
def K0 (Q : QT) : KT := andThen (fun env' h' => (match kp.find 4000010 with | some ks => Den pg fn.ntmps (C [1, 1, 1, 1]) (env'.keep ks) h' (KR Q) | none => den pg fn.ntmps kp (C [1, 1, 1, 1]) env' h' (KR Q))) (KR Q)
def K1 (Q : QT) : KT := onExit 0 (K0 Q)
def K2 (Q : QT) : KT := left kp 4 (K1 Q)
def K3 (Q : QT) (R4 : T4) : KT := rnd ((kp.find 1000004).getD []) (E4 R4) (K2 Q)
def K4 (Q : QT) (R4 : T4) : KT := andThen (fun env' h' => (match kp.find 4000009 with | some ks => Den pg fn.ntmps (C [1, 1, 1, 0, 1, 0, 0, 1, 1, 1]) (env'.keep ks) h' (K3 Q R4) | none => den pg fn.ntmps kp (C [1, 1, 1, 0, 1, 0, 0, 1, 1, 1]) env' h' (K3 Q R4))) (K3 Q R4)
def K5 (Q : QT) (R4 : T4) : KT := onExit 1 (K4 Q R4)
def L4 (Q : QT) (a6 : Pt) (n6 c6 : Nat) (e6 x7 : Bool) (a8 : Pt) (n8 c8 : Nat) (e8 : Bool) (a23 : Pt) (n23 c23 : Nat) (e23 : Bool) (x24 x25 : Int) (h : AHeap) : Prop := Loop (Den pg fn.ntmps (C [1, 1, 1, 0, 1, 0, 0])) ((kp.find 1000004).getD []) (K2 Q) [(6, .slice a6 n6 c6 e6), (7, .bool x7), (8, .slice a8 n8 c8 e8), (23, .slice a23 n23 c23 e23), (24, .int .i64 x24), (25, .int .i64 x25)] h
def J8 (Q : QT) (R4 : T4) (a8 : Pt) (n8 c8 : Nat) (e8 : Bool) (i10 o10 : Nat) (x11 : List Nat) (x25 x24 : Int) (a23 : Pt) (n23 c23 : Nat) (e23 : Bool) (a6 : Pt) (n6 c6 : Nat) (e6 x7 : Bool) (h : AHeap) : Prop := Den pg fn.ntmps (C [1, 1, 1, 0, 1, 0, 0, 1, 1, 0, 0, 1, 1, 1]) [(8, .slice a8 n8 c8 e8), (10, .ptr (some (i10, o10))), (11, .str x11), (25, .int .i64 x25), (24, .int .i64 x24), (23, .slice a23 n23 c23 e23), (6, .slice a6 n6 c6 e6), (7, .bool x7)] h (K5 Q R4)
def A4x0 (Q : QT) (x7 : Bool) (a8 : Pt) (n8 c8 : Nat) (e8 : Bool) (h : AHeap) : Prop := At (K1 Q) (.exit 0) [(7, .bool x7), (8, .slice a8 n8 c8 e8)] h
def J9 (Q : QT) (R4 : T4) (x25 x24 : Int) (a23 : Pt) (n23 c23 : Nat) (e23 : Bool) (a6 : Pt) (n6 c6 : Nat) (e6 x7 : Bool) (a8 : Pt) (n8 c8 : Nat) (e8 : Bool) (h : AHeap) : Prop := Den pg fn.ntmps (C [1, 1, 1, 0, 1, 0, 0, 1, 1, 1]) [(25, .int .i64 x25), (24, .int .i64 x24), (23, .slice a23 n23 c23 e23), (6, .slice a6 n6 c6 e6), (7, .bool x7), (8, .slice a8 n8 c8 e8)] h (K3 Q R4)
def L4t (Q : QT) (R4 : T4) (a6 : Pt) (n6 c6 : Nat) (e6 x7 : Bool) (a8 : Pt) (n8 c8 : Nat) (e8 : Bool) (a23 : Pt) (n23 c23 : Nat) (e23 : Bool) (x24 x25 : Int) (h : AHeap) : Prop :=
 bcase (decide ((x25 : Int) < x24)) ((0 ≤ (x25 : Int) ∧ (x25 : Int) < (n23 : Nat)) ∧ (xSome a23 fun i_19 o_20 => xRow (hRow h (.ptr (some (i_19, o_20 + (Int.toNat x25) * 2))) 2) fun cs_21 => xCons cs_21 fun c_22 r_23 => xStr (some c_22) fun s_24 => xCons r_23 fun c_25 r_26 => xStr (some c_25) fun s_27 => xNil r_26 (letH (h ++ [.cells t_impl_Need [.str [], .str []] false]) fun h_28 => xHeap (hStore h_28 (.ptr (some (List.length h, 0))) [.str s_24, .str s_27]) fun h_29 => xStr (hCell h_29 (.ptr (some (List.length h, 0 + 1)))) fun s_30 => SCall pg n_impl_ApplyBindings [.slice a6 n6 c6 e6, .str s_30] h_29 fun v_31 h_32 =>
 xTup v_31 fun cs_33 => xCons cs_33 fun c_34 r_35 => xStr (some c_34) fun s_36 => xCons r_35 fun c_37 r_38 => xBool (some c_37) fun b_39 => xNil r_38 (bcase x7 (J8 Q R4 a8 n8 c8 e8 (List.length h) 0 s_36 x25 x24 a23 n23 c23 e23 a6 n6 c6 e6 b_39 h_32) (J8 Q R4 a8 n8 c8 e8 (List.length h) 0 s_36 x25 x24 a23 n23 c23 e23 a6 n6 c6 e6 false h_32))))) (A4x0 Q x7 a8 n8 c8 e8 h)
theorem L4den (Q : QT) (R4 : T4) (a6 : Pt) (n6 c6 : Nat) (e6 x7 : Bool) (a8 : Pt) (n8 c8 : Nat) (e8 : Bool) (a23 : Pt) (n23 c23 : Nat) (e23 : Bool) (x24 x25 : Int) (h : AHeap) (ht : L4t Q R4 a6 n6 c6 e6 x7 a8 n8 c8 e8 a23 n23 c23 e23 x24 x25 h) : Den pg fn.ntmps (C [1, 1, 1, 0, 1, 0, 0]) [(6, .slice a6 n6 c6 e6), (7, .bool x7), (8, .slice a8 n8 c8 e8), (23, .slice a23 n23 c23 e23), (24, .int .i64 x24), (25, .int .i64 x25)] h (K3 Q R4) :=
  den_Den (kp := kp) (@cast _ (den pg fn.ntmps kp (C [1, 1, 1, 0, 1, 0, 0]) [(6, .slice a6 n6 c6 e6), (7, .bool x7), (8, .slice a8 n8 c8 e8), (23, .slice a23 n23 c23 e23), (24, .int .i64 x24), (25, .int .i64 x25)] h (K3 Q R4)) (by kernel_rfl) ht)
theorem L4ind (Q : QT) (a6 : Pt) (n6 c6 : Nat) (e6 : Bool) (a23 : Pt) (n23 c23 : Nat) (e23 : Bool) (x24 : Int) {G : Type} (J : G → Bool → Pt → Nat → Nat → Bool → Int → AHeap → Prop) (m : G → Nat)
 (hr : ∀ (g : G) (x7 : Bool) (a8 : Pt) (n8 c8 : Nat) (e8 : Bool) (x25 : Int) (h : AHeap), J g x7 a8 n8 c8 e8 x25 h → ∀ (R4 : T4), (∀ g' (x7 : Bool) (a8 : Pt) (n8 c8 : Nat) (e8 : Bool) (x25 : Int) (h : AHeap), m g' < m g → J g' x7 a8 n8 c8 e8 x25 h → R4 a6 n6 c6 e6 x7 a8 n8 c8 e8 a23 n23 c23 e23 x24 x25 h) → L4t Q R4 a6 n6 c6 e6 x7 a8 n8 c8 e8 a23 n23 c23 e23 x24 x25 h)
 (g : G) (x7 : Bool) (a8 : Pt) (n8 c8 : Nat) (e8 : Bool) (x25 : Int) (h : AHeap) (hj : J g x7 a8 n8 c8 e8 x25 h) : L4 Q a6 n6 c6 e6 x7 a8 n8 c8 e8 a23 n23 c23 e23 x24 x25 h := by
  refine Loop.inv2 (fun g => E4 fun a6' n6' c6' e6' x7 a8 n8 c8 e8 a23' n23' c23' e23' x24' x25 h => a6 = a6' ∧ n6 = n6' ∧ c6 = c6' ∧ e6 = e6' ∧ a23 = a23' ∧ n23 = n23' ∧ c23 = c23' ∧ e23 = e23' ∧ x24 = x24' ∧ J g x7 a8 n8 c8 e8 x25 h) (fun g => E4 fun a6' n6' c6' e6' x7 a8 n8 c8 e8 a23' n23' c23' e23' x24' x25 h => a6 = a6' ∧ n6 = n6' ∧ c6 = c6' ∧ e6 = e6' ∧ a23 = a23' ∧ n23 = n23' ∧ c23 = c23' ∧ e23 = e23' ∧ x24 = x24' ∧ ∃ g', m g' < m g ∧ J g' x7 a8 n8 c8 e8 x25 h) m ?_ ?_ g ⟨rfl, rfl, rfl, rfl, rfl, rfl, rfl, rfl, rfl, hj⟩
  · intro g env h hi
    obtain ⟨a6', n6', c6', e6', x7, a8, n8, c8, e8, a23', n23', c23', e23', x24', x25, rfl, rfl, rfl, rfl, rfl, rfl, rfl, rfl, rfl, rfl, hj⟩ := E4elim hi
    exact L4den Q (fun a6' n6' c6' e6' x7 a8 n8 c8 e8 a23' n23' c23' e23' x24' x25 h => a6 = a6' ∧ n6 = n6' ∧ c6 = c6' ∧ e6 = e6' ∧ a23 = a23' ∧ n23 = n23' ∧ c23 = c23' ∧ e23 = e23' ∧ x24 = x24' ∧ ∃ g', m g' < m g ∧ J g' x7 a8 n8 c8 e8 x25 h) a6 n6 c6 e6 x7 a8 n8 c8 e8 a23 n23 c23 e23 x24 x25 h (hr g x7 a8 n8 c8 e8 x25 h hj (fun a6' n6' c6' e6' x7 a8 n8 c8 e8 a23' n23' c23' e23' x24' x25 h => a6 = a6' ∧ n6 = n6' ∧ c6 = c6' ∧ e6 = e6' ∧ a23 = a23' ∧ n23 = n23' ∧ c23 = c23' ∧ e23 = e23' ∧ x24 = x24' ∧ ∃ g', m g' < m g ∧ J g' x7 a8 n8 c8 e8 x25 h) fun g' x7 a8 n8 c8 e8 x25 h hlt hj => ⟨rfl, rfl, rfl, rfl, rfl, rfl, rfl, rfl, rfl, g', hlt, hj⟩)
  · intro g env h hi
    obtain ⟨a6', n6', c6', e6', x7, a8, n8, c8, e8, a23', n23', c23', e23', x24', x25, rfl, rfl, rfl, rfl, rfl, rfl, rfl, rfl, rfl, rfl, g', hlt, hj⟩ := E4elim hi
    exact ⟨g', hlt, rfl, rfl, rfl, rfl, rfl, rfl, rfl, rfl, rfl, hj⟩
theorem J8i (Q : QT) (R4 : T4) (a8 : Pt) (n8 c8 : Nat) (e8 : Bool) (i10 o10 : Nat) (x11 : List Nat) (x25 x24 : Int) (a23 : Pt) (n23 c23 : Nat) (e23 : Bool) (a6 : Pt) (n6 c6 : Nat) (e6 x7 : Bool) (h : AHeap) (ht :
 xStr (hCell h (.ptr (some (i10, o10 + 0)))) fun s_40 => letH (h ++ [.cells t_impl_Need [.str s_40, .str x11] false]) fun h_41 => appendA pg t_L_impl_Need h_41 (.slice a8 n8 c8 e8) (.slice (some (List.length h, 0)) 1 1 true) fun v_42 h_43 => xSl (some v_42) fun a_44 n_45 c_46 e_47 => J9 Q R4 x25 x24 a23 n23 c23 e23 a6 n6 c6 e6 x7 a_44 n_45 c_46 e_47 h_43) : J8 Q R4 a8 n8 c8 e8 i10 o10 x11 x25 x24 a23 n23 c23 e23 a6 n6 c6 e6 x7 h :=
  den_Den (kp := kp) (@cast _ (den pg fn.ntmps kp (C [1, 1, 1, 0, 1, 0, 0, 1, 1, 0, 0, 1, 1, 1]) [(8, .slice a8 n8 c8 e8), (10, .ptr (some (i10, o10))), (11, .str x11), (25, .int .i64 x25), (24, .int .i64 x24), (23, .slice a23 n23 c23 e23), (6, .slice a6 n6 c6 e6), (7, .bool x7)] h (K5 Q R4)) (by kernel_rfl) ht)
theorem A4x0i (Q : QT) (x7 : Bool) (a8 : Pt) (n8 c8 : Nat) (e8 : Bool) (h : AHeap) (ht :
 bcase (!x7) (Q (.tup [.slice none 0 0 true, .bool false]) h) (Q (.tup [.slice a8 n8 c8 e8, .bool true]) h)) : A4x0 Q x7 a8 n8 c8 e8 h :=
  At.mk (@cast _ ((K1 Q) (.exit 0) [(7, .bool x7), (8, .slice a8 n8 c8 e8)] h) (by kernel_rfl) ht)
theorem J9i (Q : QT) (R4 : T4) (x25 x24 : Int) (a23 : Pt) (n23 c23 : Nat) (e23 : Bool) (a6 : Pt) (n6 c6 : Nat) (e6 x7 : Bool) (a8 : Pt) (n8 c8 : Nat) (e8 : Bool) (h : AHeap) (ht :
 R4 a6 n6 c6 e6 x7 a8 n8 c8 e8 a23 n23 c23 e23 x24 (IntKind.wrap .i64 (x25 + 1)) h) : J9 Q R4 x25 x24 a23 n23 c23 e23 a6 n6 c6 e6 x7 a8 n8 c8 e8 h :=
  den_Den (kp := kp) (@cast _ (den pg fn.ntmps kp (C [1, 1, 1, 0, 1, 0, 0, 1, 1, 1]) [(25, .int .i64 x25), (24, .int .i64 x24), (23, .slice a23 n23 c23 e23), (6, .slice a6 n6 c6 e6), (7, .bool x7), (8, .slice a8 n8 c8 e8)] h (K3 Q R4)) (by kernel_rfl) ht)
theorem call (x0x0 x0x1 : List Nat) (a0x2 : Pt) (n0x2 c0x2 : Nat) (e0x2 : Bool) (x1 : List Nat) (h : AHeap) (Q : QT) (ht :
 letH (h ++ [.cells t_impl_Instance [.str x0x0, .str x0x1, .slice a0x2 n0x2 c0x2 e0x2] false]) fun h_0 => xStr (hCell h_0 (.ptr (some (List.length h, 0 + 0 + 1)))) fun s_1 => SCall pg n_impl_MatchType [.str s_1, .str x1] h_0 fun v_2 h_3 =>
 xTup v_2 fun cs_4 => xCons cs_4 fun c_5 r_6 => xSl (some c_5) fun a_7 n_8 c_9 e_10 => xCons r_6 fun c_11 r_12 => xBool (some c_11) fun b_13 => xNil r_12 (letH (h_3 ++ [.cells t_impl_Need [] false]) fun h_14 => xSl (hCell h_14 (.ptr (some (List.length h, 0 + 2)))) fun a_15 n_16 c_17 e_18 => L4 Q a_7 n_8 c_9 e_10 b_13 (some (List.length h_3, 0)) 0 0 true a_15 n_16 c_17 e_18 (((n_16 : Nat) : Int)) 0 h_14)) : SCall pg n_impl_Instance_needs [.agg [.str x0x0, .str x0x1, .slice a0x2 n0x2 c0x2 e0x2], .str x1] h Q :=
  SCall.of_body kp (c := cod fn) (fn := fn) Go.Proofs.Tryz.func34 (by kernel_rfl) (by kernel_rfl) (Nat.le_of_ble_eq_true (by kernel_rfl))
    (@cast _ (den pg fn.ntmps kp (cod fn) (Env.args 0 [.agg [.str x0x0, .str x0x1, .slice a0x2 n0x2 c0x2 e0x2], .str x1]) h (KR Q)) (by kernel_rfl) ht)
end F_impl_Instance_needs
end Go.Sim

/- Printed by wip/tool: what the functions' bodies do, in the words of 'den'. -/
set_option maxRecDepth 100000
set_option linter.unusedVariables false
namespace Go.Sim
open Go Go.RowKit
/-! Function loop.example/instancesearch/impl.bindings -/
namespace F_impl_bindings
noncomputable abbrev fn : Func := Go.Proofs.Tryz.f112
def kp : Keeps := [(3000003, [3]), (1000003, [0, 3, 9, 10, 11])]
noncomputable def C (p : List Nat) : Code := (cod fn).sub p
def KR (Q : QT) : KT := retA pg fn.results.toList Q
abbrev T3 := Option Nat → Pt → Nat → Nat → Bool → Pt → Nat → Nat → Bool → Int → Int → AHeap → Prop
def E3 (R3 : T3) (env : Env) (h : AHeap) : Prop := eVal 0 env fun v env => xMap (some v) fun m0 => eVal 3 env fun v env => xSl (some v) fun a3 n3 c3 e3 => eVal 9 env fun v env => xSl (some v) fun a9 n9 c9 e9 => eVal 10 env fun v env => eInt .i64 v fun x10 => eVal 11 env fun v env => eInt .i64 v fun x11 => eNil env (R3 m0 a3 n3 c3 e3 a9 n9 c9 e9 x10 x11 h)
theorem E3elim {R3 : T3} {env : Env} {h : AHeap} (hi : E3 R3 env h) : ∃ m0, ∃ a3, ∃ n3, ∃ c3, ∃ e3, ∃ a9, ∃ n9, ∃ c9, ∃ e9, ∃ x10, ∃ x11, env = [(0, .map m0), (3, .slice a3 n3 c3 e3), (9, .slice a9 n9 c9 e9), (10, .int .i64 x10), (11, .int .i64 x11)] ∧ R3 m0 a3 n3 c3 e3 a9 n9 c9 e9 x10 x11 h := by
  unfold E3 at hi
  have hi0 := hi
  clear hi
  obtain ⟨v, env, rfl, hi1⟩ := eVal_elim hi0
  obtain ⟨m0, rfl, hi2⟩ := xMap_elim hi1
  obtain ⟨v, env, rfl, hi3⟩ := eVal_elim hi2
  obtain ⟨a3, n3, c3, e3, rfl, hi4⟩ := xSl_elim hi3
  obtain ⟨v, env, rfl, hi5⟩ := eVal_elim hi4
  obtain ⟨a9, n9, c9, e9, rfl, hi6⟩ := xSl_elim hi5
  obtain ⟨v, env, rfl, hi7⟩ := eVal_elim hi6
  obtain ⟨x10, rfl, hi8⟩ := eInt_elim hi7
  obtain ⟨v, env, rfl, hi9⟩ := eVal_elim hi8
  obtain ⟨x11, rfl, hi10⟩ := eInt_elim hi9
  obtain ⟨rfl, hi11⟩ := eNil_elim hi10
  have hi := hi11
  exact ⟨m0, a3, n3, c3, e3, a9, n9, c9, e9, x10, x11, rfl, hi⟩
def K0 (Q : QT) : KT := andThen (fun env' h' => (match kp.find 4000007 with | some ks => Den pg fn.ntmps (C [1, 1, 1]) (env'.keep ks) h' (KR Q) | none => den pg fn.ntmps kp (C [1, 1, 1]) env' h' (KR Q))) (KR Q)
def K1 (Q : QT) : KT := onExit 0 (K0 Q)
def K2 (Q : QT) : KT := left kp 3 (K1 Q)
def K3 (Q : QT) (R3 : T3) : KT := rnd ((kp.find 1000003).getD []) (E3 R3) (K2 Q)
def L3 (Q : QT) (m0 : Option Nat) (a3 : Pt) (n3 c3 : Nat) (e3 : Bool) (a9 : Pt) (n9 c9 : Nat) (e9 : Bool) (x10 x11 : Int) (h : AHeap) : Prop := Loop (Den pg fn.ntmps (C [1, 1, 0, 1, 0, 0])) ((kp.find 1000003).getD []) (K2 Q) [(0, .map m0), (3, .slice a3 n3 c3 e3), (9, .slice a9 n9 c9 e9), (10, .int .i64 x10), (11, .int .i64 x11)] h
def A3x0 (Q : QT) (a3 : Pt) (n3 c3 : Nat) (e3 : Bool) (h : AHeap) : Prop := At (K1 Q) (.exit 0) [(3, .slice a3 n3 c3 e3)] h
def L3t (Q : QT) (R3 : T3) (m0 : Option Nat) (a3 : Pt) (n3 c3 : Nat) (e3 : Bool) (a9 : Pt) (n9 c9 : Nat) (e9 : Bool) (x10 x11 : Int) (h : AHeap) : Prop :=
 bcase (decide ((x11 : Int) < x10)) ((0 ≤ (x11 : Int) ∧ (x11 : Int) < (n9 : Nat)) ∧ (xSome a9 fun i_10 o_11 => xStr (hCell h (.ptr (some (i_10, o_11 + (Int.toNat x11) * 1)))) fun s_12 => xMapObj h m0 fun es_13 k_14 => lookS es_13 s_12 fun r_15 => xStr (some (Option.getD r_15 (.str []))) fun s_16 => letH (h ++ [.cells t_impl_Binding [.str s_12, .str s_16] false]) fun h_17 => appendA pg t_L_impl_Binding h_17 (.slice a3 n3 c3 e3) (.slice (some (List.length h, 0)) 1 1 true) fun v_18 h_19 => xSl (some v_18) fun a_20 n_21 c_22 e_23 => R3 m0 a_20 n_21 c_22 e_23 a9 n9 c9 e9 x10 (IntKind.wrap .i64 (x11 + 1)) h_19)) (A3x0 Q a3 n3 c3 e3 h)
theorem L3den (Q : QT) (R3 : T3) (m0 : Option Nat) (a3 : Pt) (n3 c3 : Nat) (e3 : Bool) (a9 : Pt) (n9 c9 : Nat) (e9 : Bool) (x10 x11 : Int) (h : AHeap) (ht : L3t Q R3 m0 a3 n3 c3 e3 a9 n9 c9 e9 x10 x11 h) : Den pg fn.ntmps (C [1, 1, 0, 1, 0, 0]) [(0, .map m0), (3, .slice a3 n3 c3 e3), (9, .slice a9 n9 c9 e9), (10, .int .i64 x10), (11, .int .i64 x11)] h (K3 Q R3) :=
  den_Den (kp := kp) (@cast _ (den pg fn.ntmps kp (C [1, 1, 0, 1, 0, 0]) [(0, .map m0), (3, .slice a3 n3 c3 e3), (9, .slice a9 n9 c9 e9), (10, .int .i64 x10), (11, .int .i64 x11)] h (K3 Q R3)) (by kernel_rfl) ht)
theorem L3ind (Q : QT) (m0 : Option Nat) (a9 : Pt) (n9 c9 : Nat) (e9 : Bool) (x10 : Int) {G : Type} (J : G → Pt → Nat → Nat → Bool → Int → AHeap → Prop) (m : G → Nat)
 (hr : ∀ (g : G) (a3 : Pt) (n3 c3 : Nat) (e3 : Bool) (x11 : Int) (h : AHeap), J g a3 n3 c3 e3 x11 h → ∀ (R3 : T3), (∀ g' (a3 : Pt) (n3 c3 : Nat) (e3 : Bool) (x11 : Int) (h : AHeap), m g' < m g → J g' a3 n3 c3 e3 x11 h → R3 m0 a3 n3 c3 e3 a9 n9 c9 e9 x10 x11 h) → L3t Q R3 m0 a3 n3 c3 e3 a9 n9 c9 e9 x10 x11 h)
 (g : G) (a3 : Pt) (n3 c3 : Nat) (e3 : Bool) (x11 : Int) (h : AHeap) (hj : J g a3 n3 c3 e3 x11 h) : L3 Q m0 a3 n3 c3 e3 a9 n9 c9 e9 x10 x11 h := by
  refine Loop.inv2 (fun g => E3 fun m0' a3 n3 c3 e3 a9' n9' c9' e9' x10' x11 h => m0 = m0' ∧ a9 = a9' ∧ n9 = n9' ∧ c9 = c9' ∧ e9 = e9' ∧ x10 = x10' ∧ J g a3 n3 c3 e3 x11 h) (fun g => E3 fun m0' a3 n3 c3 e3 a9' n9' c9' e9' x10' x11 h => m0 = m0' ∧ a9 = a9' ∧ n9 = n9' ∧ c9 = c9' ∧ e9 = e9' ∧ x10 = x10' ∧ ∃ g', m g' < m g ∧ J g' a3 n3 c3 e3 x11 h) m ?_ ?_ g ⟨rfl, rfl, rfl, rfl, rfl, rfl, hj⟩
  · intro g env h hi
    obtain ⟨m0', a3, n3, c3, e3, a9', n9', c9', e9', x10', x11, rfl, rfl, rfl, rfl, rfl, rfl, rfl, hj⟩ := E3elim hi
    exact L3den Q (fun m0' a3 n3 c3 e3 a9' n9' c9' e9' x10' x11 h => m0 = m0' ∧ a9 = a9' ∧ n9 = n9' ∧ c9 = c9' ∧ e9 = e9' ∧ x10 = x10' ∧ ∃ g', m g' < m g ∧ J g' a3 n3 c3 e3 x11 h) m0 a3 n3 c3 e3 a9 n9 c9 e9 x10 x11 h (hr g a3 n3 c3 e3 x11 h hj (fun m0' a3 n3 c3 e3 a9' n9' c9' e9' x10' x11 h => m0 = m0' ∧ a9 = a9' ∧ n9 = n9' ∧ c9 = c9' ∧ e9 = e9' ∧ x10 = x10' ∧ ∃ g', m g' < m g ∧ J g' a3 n3 c3 e3 x11 h) fun g' a3 n3 c3 e3 x11 h hlt hj => ⟨rfl, rfl, rfl, rfl, rfl, rfl, g', hlt, hj⟩)
  · intro g env h hi
    obtain ⟨m0', a3, n3, c3, e3, a9', n9', c9', e9', x10', x11, rfl, rfl, rfl, rfl, rfl, rfl, rfl, g', hlt, hj⟩ := E3elim hi
    exact ⟨g', hlt, rfl, rfl, rfl, rfl, rfl, rfl, hj⟩
theorem A3x0i (Q : QT) (a3 : Pt) (n3 c3 : Nat) (e3 : Bool) (h : AHeap) (ht :
 Q (.slice a3 n3 c3 e3) h) : A3x0 Q a3 n3 c3 e3 h :=
  At.mk (@cast _ ((K1 Q) (.exit 0) [(3, .slice a3 n3 c3 e3)] h) (by kernel_rfl) ht)
theorem call (m0 : Option Nat) (h : AHeap) (Q : QT) (ht :
 letH (h ++ [.cells t_impl_Binding [] false]) fun h_0 => SCall pg n_maps_Keys_map_string_string_string_string [.map m0] h_0 fun v_1 h_2 =>
 xAny (some v_1) fun v_3 => SCall pg n_slices_Sorted_string [v_3] h_2 fun v_4 h_5 =>
 xSl (some v_4) fun a_6 n_7 c_8 e_9 => L3 Q m0 (some (List.length h, 0)) 0 0 true a_6 n_7 c_8 e_9 (((n_7 : Nat) : Int)) 0 h_5) : SCall pg n_impl_bindings [.map m0] h Q :=
  SCall.of_body kp (c := cod fn) (fn := fn) Go.Proofs.Tryz.func112 (by kernel_rfl) (by kernel_rfl) (Nat.le_of_ble_eq_true (by kernel_rfl))
    (@cast _ (den pg fn.ntmps kp (cod fn) (Env.args 0 [.map m0]) h (KR Q)) (by kernel_rfl) ht)
end F_impl_bindings
/-! Function loop.example/instancesearch/impl.MatchType -/
namespace F_impl_MatchType
noncomputable abbrev fn : Func := Go.Proofs.Tryz.f66
def kp : Keeps := [(4000004, [8])]
noncomputable def C (p : List Nat) : Code := (cod fn).sub p
def KR (Q : QT) : KT := retA pg fn.results.toList Q
def J4 (Q : QT) (m8 : Option Nat) (h : AHeap) : Prop := Den pg fn.ntmps (C [1, 1, 1]) [(8, .map m8)] h (KR Q)
theorem J4i (Q : QT) (m8 : Option Nat) (h : AHeap) (ht :
 SCall pg n_impl_bindings [.map m8] h fun v_10 h_11 =>
 xSl (some v_10) fun a_12 n_13 c_14 e_15 => Q (.tup [.slice a_12 n_13 c_14 e_15, .bool true]) h_11) : J4 Q m8 h :=
  den_Den (kp := kp) (@cast _ (den pg fn.ntmps kp (C [1, 1, 1]) [(8, .map m8)] h (KR Q)) (by kernel_rfl) ht)
theorem call (x0 x1 : List Nat) (h : AHeap) (Q : QT) (ht :
 SCall pg n_impl_typeOf [.str x0] h fun v_0 h_1 =>
 xPtr (some v_0) fun a_2 => SCall pg n_impl_typeOf [.str x1] h_1 fun v_3 h_4 =>
 xPtr (some v_3) fun a_5 => letH (h_4 ++ [.map [] 0]) fun h_6 => bcase (Option.isNone a_2) (Q (.tup [.slice none 0 0 true, .bool false]) h_6) (bcase (Option.isNone a_5) (Q (.tup [.slice none 0 0 true, .bool false]) h_6) (SCall pg n_impl_node_match [.ptr a_2, .ptr a_5, .map ((some (List.length h_4)))] h_6 fun v_7 h_8 =>
 xBool (some v_7) fun b_9 => bcase (!b_9) (Q (.tup [.slice none 0 0 true, .bool false]) h_8) (J4 Q ((some (List.length h_4))) h_8)))) : SCall pg n_impl_MatchType [.str x0, .str x1] h Q :=
  SCall.of_body kp (c := cod fn) (fn := fn) Go.Proofs.Tryz.func66 (by kernel_rfl) (by kernel_rfl) (Nat.le_of_ble_eq_true (by kernel_rfl))
    (@cast _ (den pg fn.ntmps kp (cod fn) (Env.args 0 [.str x0, .str x1]) h (KR Q)) (by kernel_rfl) ht)
end F_impl_MatchType
/-! Function loop.example/instancesearch/impl.IsInstance -/
namespace F_impl_IsInstance
noncomputable abbrev fn : Func := Go.Proofs.Tryz.f74
def kp : Keeps := []
noncomputable def C (p : List Nat) : Code := (cod fn).sub p
def KR (Q : QT) : KT := retA pg fn.results.toList Q
theorem call (x0 x1 : List Nat) (h : AHeap) (Q : QT) (ht :
 SCall pg n_impl_MatchType [.str x0, .str x1] h fun v_0 h_1 =>
 xTup v_0 fun cs_2 => xCons cs_2 fun c_3 r_4 => xSl (some c_3) fun a_5 n_6 c_7 e_8 => xCons r_4 fun c_9 r_10 => xBool (some c_9) fun b_11 => xNil r_10 (Q (.bool b_11) h_1)) : SCall pg n_impl_IsInstance [.str x0, .str x1] h Q :=
  SCall.of_body kp (c := cod fn) (fn := fn) Go.Proofs.Tryz.func74 (by kernel_rfl) (by kernel_rfl) (Nat.le_of_ble_eq_true (by kernel_rfl))
    (@cast _ (den pg fn.ntmps kp (cod fn) (Env.args 0 [.str x0, .str x1]) h (KR Q)) (by kernel_rfl) ht)
end F_impl_IsInstance
end Go.Sim

/- Printed by wip/tool: what the functions' bodies do, in the words of 'den'. -/
set_option maxRecDepth 100000
set_option linter.unusedVariables false
namespace Go.Sim
open Go Go.RowKit
/-! Function (*loop.example/instancesearch/impl.node).match -/
namespace F_impl_node_match
noncomputable abbrev fn : Func := Go.Proofs.Tryz.f111
def kp : Keeps := [(4000006, [2, 0, 7]), (2000008, [48, 0, 1, 2]), (3000011, [6]), (1000011, [1, 2, 52, 53, 54])]
noncomputable def C (p : List Nat) : Code := (cod fn).sub p
def KR (Q : QT) : KT := retA pg fn.results.toList Q
abbrev T11 := Pt → Option Nat → Pt → Nat → Nat → Bool → Int → Int → AHeap → Prop
def E11 (R11 : T11) (env : Env) (h : AHeap) : Prop := eVal 1 env fun v env => xPtr (some v) fun a1 => eVal 2 env fun v env => xMap (some v) fun m2 => eVal 52 env fun v env => xSl (some v) fun a52 n52 c52 e52 => eVal 53 env fun v env => eInt .i64 v fun x53 => eVal 54 env fun v env => eInt .i64 v fun x54 => eNil env (R11 a1 m2 a52 n52 c52 e52 x53 x54 h)
theorem E11elim {R11 : T11} {env : Env} {h : AHeap} (hi : E11 R11 env h) : ∃ a1, ∃ m2, ∃ a52, ∃ n52, ∃ c52, ∃ e52, ∃ x53, ∃ x54, env = [(1, .ptr a1), (2, .map m2), (52, .slice a52 n52 c52 e52), (53, .int .i64 x53), (54, .int .i64 x54)] ∧ R11 a1 m2 a52 n52 c52 e52 x53 x54 h := by
  unfold E11 at hi
  have hi0 := hi
  clear hi
  obtain ⟨v, env, rfl, hi1⟩ := eVal_elim hi0
  obtain ⟨a1, rfl, hi2⟩ := xPtr_elim hi1
  obtain ⟨v, env, rfl, hi3⟩ := eVal_elim hi2
  obtain ⟨m2, rfl, hi4⟩ := xMap_elim hi3
  obtain ⟨v, env, rfl, hi5⟩ := eVal_elim hi4
  obtain ⟨a52, n52, c52, e52, rfl, hi6⟩ := xSl_elim hi5
  obtain ⟨v, env, rfl, hi7⟩ := eVal_elim hi6
  obtain ⟨x53, rfl, hi8⟩ := eInt_elim hi7
  obtain ⟨v, env, rfl, hi9⟩ := eVal_elim hi8
  obtain ⟨x54, rfl, hi10⟩ := eInt_elim hi9
  obtain ⟨rfl, hi11⟩ := eNil_elim hi10
  have hi := hi11
  exact ⟨a1, m2, a52, n52, c52, e52, x53, x54, rfl, hi⟩
def K0 (Q : QT) : KT := andThen (fun env' h' => (match kp.find 4000008 with | some ks => Den pg fn.ntmps (C [1, 1]) (env'.keep ks) h' (KR Q) | none => den pg fn.ntmps kp (C [1, 1]) env' h' (KR Q))) (KR Q)
def K1 (Q : QT) : KT := andThen (fun env' h' => (match kp.find 4000016 with | some ks => Den pg fn.ntmps (C [1, 1, 1, 1]) (env'.keep ks) h' (KR Q) | none => den pg fn.ntmps kp (C [1, 1, 1, 1]) env' h' (KR Q))) (KR Q)
def K2 (Q : QT) : KT := onExit 0 (K1 Q)
def K3 (Q : QT) : KT := left kp 11 (K2 Q)
def K4 (Q : QT) (R11 : T11) : KT := rnd ((kp.find 1000011).getD []) (E11 R11) (K3 Q)
def J6 (Q : QT) (m2 : Option Nat) (a0 : Pt) (x7 : List Nat) (h : AHeap) : Prop := Den pg fn.ntmps (C [1, 0, 1, 0, 1, 1]) [(2, .map m2), (0, .ptr a0), (7, .str x7)] h (K0 Q)
def L11 (Q : QT) (a1 : Pt) (m2 : Option Nat) (a52 : Pt) (n52 c52 : Nat) (e52 : Bool) (x53 x54 : Int) (h : AHeap) : Prop := Loop (Den pg fn.ntmps (C [1, 1, 1, 0, 1, 0, 0])) ((kp.find 1000011).getD []) (K3 Q) [(1, .ptr a1), (2, .map m2), (52, .slice a52 n52 c52 e52), (53, .int .i64 x53), (54, .int .i64 x54)] h
def A11x0 (Q : QT) (h : AHeap) : Prop := At (K2 Q) (.exit 0) [(6, .undef)] h
theorem J6i (Q : QT) (m2 : Option Nat) (a0 : Pt) (x7 : List Nat) (h : AHeap) (ht :
 xSome a0 fun i_28 o_29 => xStr (hCell h (.ptr (some (i_28, o_29 + 0)))) fun s_30 => xMp m2 fun i_31 => xMapObj h (some i_31) fun es_32 k_33 => putS es_32 k_33 s_30 (.str x7) fun es_34 k_35 => letH (List.set h i_31 (.map es_34 k_35)) fun h_36 => Q (.bool true) h_36) : J6 Q m2 a0 x7 h :=
  den_Den (kp := kp) (@cast _ (den pg fn.ntmps kp (C [1, 0, 1, 0, 1, 1]) [(2, .map m2), (0, .ptr a0), (7, .str x7)] h (K0 Q)) (by kernel_rfl) ht)
def L11t (Q : QT) (R11 : T11) (a1 : Pt) (m2 : Option Nat) (a52 : Pt) (n52 c52 : Nat) (e52 : Bool) (x53 x54 : Int) (h : AHeap) : Prop :=
 bcase (decide ((x54 : Int) < x53)) ((0 ≤ (x54 : Int) ∧ (x54 : Int) < (n52 : Nat)) ∧ (xSome a52 fun i_37 o_38 => xPtr (hCell h (.ptr (some (i_37, o_38 + (Int.toNat x54) * 1)))) fun a_39 => xSome a1 fun i_40 o_41 => xSl (hCell h (.ptr (some (i_40, o_41 + 1)))) fun a_42 n_43 c_44 e_45 => (0 ≤ (x54 : Int) ∧ (x54 : Int) < (n_43 : Nat)) ∧ (xSome a_42 fun i_46 o_47 => xPtr (hCell h (.ptr (some (i_46, o_47 + (Int.toNat x54) * 1)))) fun a_48 => SCall pg n_impl_node_match [.ptr a_39, .ptr a_48, .map m2] h fun v_49 h_50 =>
 xBool (some v_49) fun b_51 => bcase (!b_51) (Q (.bool false) h_50) (R11 a1 m2 a52 n52 c52 e52 x53 (IntKind.wrap .i64 (x54 + 1)) h_50)))) (A11x0 Q h)
theorem L11den (Q : QT) (R11 : T11) (a1 : Pt) (m2 : Option Nat) (a52 : Pt) (n52 c52 : Nat) (e52 : Bool) (x53 x54 : Int) (h : AHeap) (ht : L11t Q R11 a1 m2 a52 n52 c52 e52 x53 x54 h) : Den pg fn.ntmps (C [1, 1, 1, 0, 1, 0, 0]) [(1, .ptr a1), (2, .map m2), (52, .slice a52 n52 c52 e52), (53, .int .i64 x53), (54, .int .i64 x54)] h (K4 Q R11) :=
  den_Den (kp := kp) (@cast _ (den pg fn.ntmps kp (C [1, 1, 1, 0, 1, 0, 0]) [(1, .ptr a1), (2, .map m2), (52, .slice a52 n52 c52 e52), (53, .int .i64 x53), (54, .int .i64 x54)] h (K4 Q R11)) (by kernel_rfl) ht)
theorem L11ind (Q : QT) (a1 : Pt) (m2 : Option Nat) (a52 : Pt) (n52 c52 : Nat) (e52 : Bool) (x53 : Int) {G : Type} (J : G → Int → AHeap → Prop) (m : G → Nat)
 (hr : ∀ (g : G) (x54 : Int) (h : AHeap), J g x54 h → ∀ (R11 : T11), (∀ g' (x54 : Int) (h : AHeap), m g' < m g → J g' x54 h → R11 a1 m2 a52 n52 c52 e52 x53 x54 h) → L11t Q R11 a1 m2 a52 n52 c52 e52 x53 x54 h)
 (g : G) (x54 : Int) (h : AHeap) (hj : J g x54 h) : L11 Q a1 m2 a52 n52 c52 e52 x53 x54 h := by
  refine Loop.inv2 (fun g => E11 fun a1' m2' a52' n52' c52' e52' x53' x54 h => a1 = a1' ∧ m2 = m2' ∧ a52 = a52' ∧ n52 = n52' ∧ c52 = c52' ∧ e52 = e52' ∧ x53 = x53' ∧ J g x54 h) (fun g => E11 fun a1' m2' a52' n52' c52' e52' x53' x54 h => a1 = a1' ∧ m2 = m2' ∧ a52 = a52' ∧ n52 = n52' ∧ c52 = c52' ∧ e52 = e52' ∧ x53 = x53' ∧ ∃ g', m g' < m g ∧ J g' x54 h) m ?_ ?_ g ⟨rfl, rfl, rfl, rfl, rfl, rfl, rfl, hj⟩
  · intro g env h hi
    obtain ⟨a1', m2', a52', n52', c52', e52', x53', x54, rfl, rfl, rfl, rfl, rfl, rfl, rfl, rfl, hj⟩ := E11elim hi
    exact L11den Q (fun a1' m2' a52' n52' c52' e52' x53' x54 h => a1 = a1' ∧ m2 = m2' ∧ a52 = a52' ∧ n52 = n52' ∧ c52 = c52' ∧ e52 = e52' ∧ x53 = x53' ∧ ∃ g', m g' < m g ∧ J g' x54 h) a1 m2 a52 n52 c52 e52 x53 x54 h (hr g x54 h hj (fun a1' m2' a52' n52' c52' e52' x53' x54 h => a1 = a1' ∧ m2 = m2' ∧ a52 = a52' ∧ n52 = n52' ∧ c52 = c52' ∧ e52 = e52' ∧ x53 = x53' ∧ ∃ g', m g' < m g ∧ J g' x54 h) fun g' x54 h hlt hj => ⟨rfl, rfl, rfl, rfl, rfl, rfl, rfl, g', hlt, hj⟩)
  · intro g env h hi
    obtain ⟨a1', m2', a52', n52', c52', e52', x53', x54, rfl, rfl, rfl, rfl, rfl, rfl, rfl, rfl, g', hlt, hj⟩ := E11elim hi
    exact ⟨g', hlt, rfl, rfl, rfl, rfl, rfl, rfl, rfl, hj⟩
theorem A11x0i (Q : QT) (h : AHeap) (ht :
 Q (.bool true) h) : A11x0 Q h :=
  At.mk (@cast _ ((K2 Q) (.exit 0) [(6, .undef)] h) (by kernel_rfl) ht)
theorem call (a0 a1 : Pt) (m2 : Option Nat) (h : AHeap) (Q : QT) (ht :
 xSome a0 fun i_0 o_1 => xStr (hCell h (.ptr (some (i_0, o_1 + 0)))) fun s_2 => SCall pg n_impl_isVar [.str s_2] h fun v_3 h_4 =>
 xBool (some v_3) fun b_5 => bcase b_5 (SCall pg n_impl_node_text [.ptr a1] h_4 fun v_6 h_7 =>
 xStr (some v_6) fun s_8 => xSome a0 fun i_9 o_10 => xStr (hCell h_7 (.ptr (some (i_9, o_10 + 0)))) fun s_11 => xMapObj h_7 m2 fun es_12 k_13 => lookS es_12 s_11 fun r_14 => xStr (some (Option.getD r_14 (.str []))) fun s_15 => bcase (Option.isSome r_14) (bcase (!(decide (s_15 = s_8))) (Q (.bool false) h_7) (J6 Q m2 a0 s_8 h_7)) (J6 Q m2 a0 s_8 h_7)) (xSome a0 fun i_16 o_17 => xSome a1 fun i_18 o_19 => xStr (hCell h_4 (.ptr (some (i_16, o_17 + 0)))) fun s_20 => xStr (hCell h_4 (.ptr (some (i_18, o_19 + 0)))) fun s_21 => (hCell h_4 (.ptr (some (i_16, o_17 + 0))) = hCell h_4 (.ptr (some (i_16, o_17 + 0)))) ∧ bcase (!(decide (s_20 = s_21))) (Q (.bool false) h_4) (xSome a0 fun i_22 o_23 => xSl (hCell h_4 (.ptr (some (i_22, o_23 + 1)))) fun a_24 n_25 c_26 e_27 => L11 Q a1 m2 a_24 n_25 c_26 e_27 (((n_25 : Nat) : Int)) 0 h_4))) : SCall pg n_impl_node_match [.ptr a0, .ptr a1, .map m2] h Q :=
  SCall.of_body kp (c := cod fn) (fn := fn) Go.Proofs.Tryz.func111 (by kernel_rfl) (by kernel_rfl) (Nat.le_of_ble_eq_true (by kernel_rfl))
    (@cast _ (den pg fn.ntmps kp (cod fn) (Env.args 0 [.ptr a0, .ptr a1, .map m2]) h (KR Q)) (by kernel_rfl) ht)
end F_impl_node_match
end Go.Sim
