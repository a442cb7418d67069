/- A part of the proof of a statement of this seat: see the text that holds the theorem. No condition. -/
import Derived.Test.YtcdpjjhnhiaapaaGreatNm
set_option linter.unusedVariables false
set_option linter.unusedSimpArgs false
set_option linter.all false
/- Printed by wip/tool: what the functions' bodies do, in the words of 'den'. -/
set_option maxRecDepth 100000
set_option linter.unusedVariables false
namespace Go.Sim
open Go Go.RowKit
/-! Function loop.example/instancesearch/spec.l2Index -/
namespace F_spec_l2Index
noncomputable abbrev fn : Func := Go.Proofs.Tryz.f129
def kp : Keeps := []
noncomputable def C (p : List Nat) : Code := (cod fn).sub p
def KR (Q : QT) : KT := retA pg fn.results.toList Q
theorem call (x0 : Int) (h : AHeap) (Q : QT) (ht :
 SCall pg n_spec_l13Find [.str ([88, 89, 90, 120, 121, 122, 49, 50, 51, 52, 53, 54]), .int .u8 x0] h fun v_0 h_1 =>
 xInt .i64 (some v_0) fun x_2 => Q (.int .i64 x_2) h_1) : SCall pg n_spec_l2Index [.int .u8 x0] h Q :=
  SCall.of_body kp (c := cod fn) (fn := fn) Go.Proofs.Tryz.func129 (by kernel_rfl) (by kernel_rfl) (Nat.le_of_ble_eq_true (by kernel_rfl))
    (@cast _ (den pg fn.ntmps kp (cod fn) (Env.args 0 [.int .u8 x0]) h (KR Q)) (by kernel_rfl) ht)
end F_spec_l2Index
/-! Function loop.example/instancesearch/spec.l2Match -/
namespace F_spec_l2Match
noncomputable abbrev fn : Func := Go.Proofs.Tryz.f116
def kp : Keeps := [(2000004, []), (2000006, [6]), (3000010, [6]), (1000010, [0, 4, 5, 42, 43]), (2000012, [58, 43, 42, 0, 4, 5])]
noncomputable def C (p : List Nat) : Code := (cod fn).sub p
def KR (Q : QT) : KT := retA pg fn.results.toList Q
abbrev T10 := Pt → Nat → Nat → Nat → Nat → Int → Int → AHeap → Prop
def E10 (R10 : T10) (env : Env) (h : AHeap) : Prop := eVal 0 env fun v env => xPtr (some v) fun a0 => eVal 4 env fun v env => xPtr (some v) fun a => xSome a fun i4 o4 => eVal 5 env fun v env => xPtr (some v) fun a => xSome a fun i5 o5 => eVal 42 env fun v env => eInt .i64 v fun x42 => eVal 43 env fun v env => eInt .i64 v fun x43 => eNil env (R10 a0 i4 o4 i5 o5 x42 x43 h)
theorem E10elim {R10 : T10} {env : Env} {h : AHeap} (hi : E10 R10 env h) : ∃ a0, ∃ i4, ∃ o4, ∃ i5, ∃ o5, ∃ x42, ∃ x43, env = [(0, .ptr a0), (4, .ptr (some (i4, o4))), (5, .ptr (some (i5, o5))), (42, .int .i64 x42), (43, .int .i64 x43)] ∧ R10 a0 i4 o4 i5 o5 x42 x43 h := by
  unfold E10 at hi
  have hi0 := hi
  clear hi
  obtain ⟨v, env, rfl, hi1⟩ := eVal_elim hi0
  obtain ⟨a0, rfl, hi2⟩ := xPtr_elim hi1
  obtain ⟨v, env, rfl, hi3⟩ := eVal_elim hi2
  obtain ⟨a, rfl, hi4⟩ := xPtr_elim hi3
  obtain ⟨i4, o4, rfl, hi5⟩ := xSome_elim hi4
  obtain ⟨v, env, rfl, hi6⟩ := eVal_elim hi5
  obtain ⟨a, rfl, hi7⟩ := xPtr_elim hi6
  obtain ⟨i5, o5, rfl, hi8⟩ := xSome_elim hi7
  obtain ⟨v, env, rfl, hi9⟩ := eVal_elim hi8
  obtain ⟨x42, rfl, hi10⟩ := eInt_elim hi9
  obtain ⟨v, env, rfl, hi11⟩ := eVal_elim hi10
  obtain ⟨x43, rfl, hi12⟩ := eInt_elim hi11
  obtain ⟨rfl, hi13⟩ := eNil_elim hi12
  have hi := hi13
  exact ⟨a0, i4, o4, i5, o5, x42, x43, rfl, hi⟩
def K0 (Q : QT) : KT := andThen (fun env' h' => (match kp.find 4000015 with | some ks => Den pg fn.ntmps (C [1, 1, 1, 1]) (env'.keep ks) h' (KR Q) | none => den pg fn.ntmps kp (C [1, 1, 1, 1]) env' h' (KR Q))) (KR Q)
def K1 (Q : QT) : KT := onExit 0 (K0 Q)
def K2 (Q : QT) : KT := left kp 10 (K1 Q)
def K3 (Q : QT) (R10 : T10) : KT := rnd ((kp.find 1000010).getD []) (E10 R10) (K2 Q)
def L10 (Q : QT) (a0 : Pt) (i4 o4 i5 o5 : Nat) (x42 x43 : Int) (h : AHeap) : Prop := Loop (Den pg fn.ntmps (C [1, 1, 1, 0, 1, 0, 0])) ((kp.find 1000010).getD []) (K2 Q) [(0, .ptr a0), (4, .ptr (some (i4, o4))), (5, .ptr (some (i5, o5))), (42, .int .i64 x42), (43, .int .i64 x43)] h
def A10x0 (Q : QT) (h : AHeap) : Prop := At (K1 Q) (.exit 0) [(6, .undef)] h
def L10t (Q : QT) (R10 : T10) (a0 : Pt) (i4 o4 i5 o5 : Nat) (x42 x43 : Int) (h : AHeap) : Prop :=
 bcase (decide ((x43 : Int) < x42)) (xSl (hCell h (.ptr (some (i4, o4 + 1)))) fun a_56 n_57 c_58 e_59 => (0 ≤ (x43 : Int) ∧ (x43 : Int) < (n_57 : Nat)) ∧ (xSome a_56 fun i_60 o_61 => xRow (hRow h (.ptr (some (i_60, o_61 + (Int.toNat x43) * 2))) 2) fun cs_62 => xCons cs_62 fun c_63 r_64 => xInt .u8 (some c_63) fun x_65 => xCons r_64 fun c_66 r_67 => xSl (some c_66) fun a_68 n_69 c_70 e_71 => xNil r_67 (xSl (hCell h (.ptr (some (i5, o5 + 1)))) fun a_72 n_73 c_74 e_75 => (hRow h (.ptr (some (i_60, o_61 + (Int.toNat x43) * 2))) 2 = hRow h (.ptr (some (i_60, o_61 + (Int.toNat x43) * 2))) 2) ∧ (hCell h (.ptr (some (i4, o4 + 1))) = hCell h (.ptr (some (i4, o4 + 1)))) ∧ (0 ≤ (x43 : Int) ∧ (x43 : Int) < (n_73 : Nat)) ∧ (xSome a_72 fun i_76 o_77 => xRow (hRow h (.ptr (some (i_76, o_77 + (Int.toNat x43) * 2))) 2) fun cs_78 => xCons cs_78 fun c_79 r_80 => xInt .u8 (some c_79) fun x_81 => xCons r_80 fun c_82 r_83 => xSl (some c_82) fun a_84 n_85 c_86 e_87 => xNil r_83 ((hRow h (.ptr (some (i_60, o_61 + (Int.toNat x43) * 2))) 2 = hRow h (.ptr (some (i_60, o_61 + (Int.toNat x43) * 2))) 2) ∧ (hCell h (.ptr (some (i4, o4 + 1))) = hCell h (.ptr (some (i4, o4 + 1)))) ∧ SCall pg n_spec_l2Match [.ptr a0, .agg [.int .u8 x_65, .slice a_68 n_69 c_70 e_71], .agg [.int .u8 x_81, .slice a_84 n_85 c_86 e_87]] h fun v_88 h_89 =>
 xBool (some v_88) fun b_90 => (hCell h_89 (.ptr (some (i4, o4 + 1))) = hCell h (.ptr (some (i4, o4 + 1)))) ∧ bcase (!b_90) (Q (.bool false) h_89) (R10 a0 i4 o4 i5 o5 x42 (IntKind.wrap .i64 (x43 + 1)) h_89)))))) (A10x0 Q h)
theorem L10den (Q : QT) (R10 : T10) (a0 : Pt) (i4 o4 i5 o5 : Nat) (x42 x43 : Int) (h : AHeap) (ht : L10t Q R10 a0 i4 o4 i5 o5 x42 x43 h) : Den pg fn.ntmps (C [1, 1, 1, 0, 1, 0, 0]) [(0, .ptr a0), (4, .ptr (some (i4, o4))), (5, .ptr (some (i5, o5))), (42, .int .i64 x42), (43, .int .i64 x43)] h (K3 Q R10) :=
  den_Den (kp := kp) (@cast _ (den pg fn.ntmps kp (C [1, 1, 1, 0, 1, 0, 0]) [(0, .ptr a0), (4, .ptr (some (i4, o4))), (5, .ptr (some (i5, o5))), (42, .int .i64 x42), (43, .int .i64 x43)] h (K3 Q R10)) (by kernel_rfl) ht)
theorem L10ind (Q : QT) (a0 : Pt) (i4 o4 i5 o5 : Nat) (x42 : Int) {G : Type} (J : G → Int → AHeap → Prop) (m : G → Nat)
 (hr : ∀ (g : G) (x43 : Int) (h : AHeap), J g x43 h → ∀ (R10 : T10), (∀ g' (x43 : Int) (h : AHeap), m g' < m g → J g' x43 h → R10 a0 i4 o4 i5 o5 x42 x43 h) → L10t Q R10 a0 i4 o4 i5 o5 x42 x43 h)
 (g : G) (x43 : Int) (h : AHeap) (hj : J g x43 h) : L10 Q a0 i4 o4 i5 o5 x42 x43 h := by
  refine Loop.inv2 (fun g => E10 fun a0' i4' o4' i5' o5' x42' x43 h => a0 = a0' ∧ i4 = i4' ∧ o4 = o4' ∧ i5 = i5' ∧ o5 = o5' ∧ x42 = x42' ∧ J g x43 h) (fun g => E10 fun a0' i4' o4' i5' o5' x42' x43 h => a0 = a0' ∧ i4 = i4' ∧ o4 = o4' ∧ i5 = i5' ∧ o5 = o5' ∧ x42 = x42' ∧ ∃ g', m g' < m g ∧ J g' x43 h) m ?_ ?_ g ⟨rfl, rfl, rfl, rfl, rfl, rfl, hj⟩
  · intro g env h hi
    obtain ⟨a0', i4', o4', i5', o5', x42', x43, rfl, rfl, rfl, rfl, rfl, rfl, rfl, hj⟩ := E10elim hi
    exact L10den Q (fun a0' i4' o4' i5' o5' x42' x43 h => a0 = a0' ∧ i4 = i4' ∧ o4 = o4' ∧ i5 = i5' ∧ o5 = o5' ∧ x42 = x42' ∧ ∃ g', m g' < m g ∧ J g' x43 h) a0 i4 o4 i5 o5 x42 x43 h (hr g x43 h hj (fun a0' i4' o4' i5' o5' x42' x43 h => a0 = a0' ∧ i4 = i4' ∧ o4 = o4' ∧ i5 = i5' ∧ o5 = o5' ∧ x42 = x42' ∧ ∃ g', m g' < m g ∧ J g' x43 h) fun g' x43 h hlt hj => ⟨rfl, rfl, rfl, rfl, rfl, rfl, g', hlt, hj⟩)
  · intro g env h hi
    obtain ⟨a0', i4', o4', i5', o5', x42', x43, rfl, rfl, rfl, rfl, rfl, rfl, rfl, g', hlt, hj⟩ := E10elim hi
    exact ⟨g', hlt, rfl, rfl, rfl, rfl, rfl, rfl, hj⟩
theorem A10x0i (Q : QT) (h : AHeap) (ht :
 Q (.bool true) h) : A10x0 Q h :=
  At.mk (@cast _ ((K1 Q) (.exit 0) [(6, .undef)] h) (by kernel_rfl) ht)
theorem call (a0 : Pt) (x1x0 : Int) (a1x1 : Pt) (n1x1 c1x1 : Nat) (e1x1 : Bool) (x2x0 : Int) (a2x1 : Pt) (n2x1 c2x1 : Nat) (e2x1 : Bool) (h : AHeap) (Q : QT) (ht :
 letH (h ++ [.cells t_spec_l1Node [.int .u8 x1x0, .slice a1x1 n1x1 c1x1 e1x1] false]) fun h_0 => letH (h_0 ++ [.cells t_spec_l1Node [.int .u8 x2x0, .slice a2x1 n2x1 c2x1 e2x1] false]) fun h_1 => xInt .u8 (hCell h_1 (.ptr (some (List.length h, 0 + 0)))) fun x_2 => SCall pg n_spec_l2Index [.int .u8 x_2] h_1 fun v_3 h_4 =>
 xInt .i64 (some v_3) fun x_5 => bcase (decide ((x_5 : Int) ≥ 0)) (xSome a0 fun i_6 o_7 => (0 ≤ (x_5 : Int) ∧ (x_5 : Int) < (12 : Nat)) ∧ (xInt .u8 (hCell h_4 (.ptr (some (i_6, o_7 + (Int.toNat x_5) * 2 + 0)))) fun x_8 => bcase ((x_8 : Int) == 0) (xSome a0 fun i_9 o_10 => xRow (hRow h_4 (.ptr (some (List.length h_0, 0))) 2) fun cs_11 => xCons cs_11 fun c_12 r_13 => xInt .u8 (some c_12) fun x_14 => xCons r_13 fun c_15 r_16 => xSl (some c_15) fun a_17 n_18 c_19 e_20 => xNil r_16 ((0 ≤ (x_5 : Int) ∧ (x_5 : Int) < (12 : Nat)) ∧ (xHeap (hStore h_4 (.ptr (some (i_9, o_10 + (Int.toNat x_5) * 2))) [.int .u8 x_14, .slice a_17 n_18 c_19 e_20]) fun h_21 => Q (.bool true) h_21))) (xSome a0 fun i_22 o_23 => (0 ≤ (x_5 : Int) ∧ (x_5 : Int) < (12 : Nat)) ∧ (xRow (hRow h_4 (.ptr (some (i_22, o_23 + (Int.toNat x_5) * 2))) 2) fun cs_24 => xCons cs_24 fun c_25 r_26 => xInt .u8 (some c_25) fun x_27 => xCons r_26 fun c_28 r_29 => xSl (some c_28) fun a_30 n_31 c_32 e_33 => xNil r_29 (xRow (hRow h_4 (.ptr (some (List.length h_0, 0))) 2) fun cs_34 => xCons cs_34 fun c_35 r_36 => xInt .u8 (some c_35) fun x_37 => xCons r_36 fun c_38 r_39 => xSl (some c_38) fun a_40 n_41 c_42 e_43 => xNil r_39 (SCall pg n_spec_l1Text [.agg [.int .u8 x_27, .slice a_30 n_31 c_32 e_33]] h_4 fun v_44 h_45 =>
 xStr (some v_44) fun s_46 => (hRow h_45 (.ptr (some (List.length h_0, 0))) 2 = hRow h_4 (.ptr (some (List.length h_0, 0))) 2) ∧ SCall pg n_spec_l1Text [.agg [.int .u8 x_37, .slice a_40 n_41 c_42 e_43]] h_45 fun v_47 h_48 =>
 xStr (some v_47) fun s_49 => (hRow h_48 (.ptr (some (i_22, o_23 + (Int.toNat x_5) * 2))) 2 = hRow h_45 (.ptr (some (i_22, o_23 + (Int.toNat x_5) * 2))) 2) ∧ Q (.bool (decide (s_46 = s_49))) h_48)))))) (xInt .u8 (hCell h_4 (.ptr (some (List.length h, 0 + 0)))) fun x_50 => xInt .u8 (hCell h_4 (.ptr (some (List.length h_0, 0 + 0)))) fun x_51 => bcase (!((x_50 : Int) == x_51)) (Q (.bool false) h_4) (xSl (hCell h_4 (.ptr (some (List.length h, 0 + 1)))) fun a_52 n_53 c_54 e_55 => L10 Q a0 (List.length h) 0 (List.length h_0) 0 (((n_53 : Nat) : Int)) 0 h_4))) : SCall pg n_spec_l2Match [.ptr a0, .agg [.int .u8 x1x0, .slice a1x1 n1x1 c1x1 e1x1], .agg [.int .u8 x2x0, .slice a2x1 n2x1 c2x1 e2x1]] h Q :=
  SCall.of_body kp (c := cod fn) (fn := fn) Go.Proofs.Tryz.func116 (by kernel_rfl) (by kernel_rfl) (Nat.le_of_ble_eq_true (by kernel_rfl))
    (@cast _ (den pg fn.ntmps kp (cod fn) (Env.args 0 [.ptr a0, .agg [.int .u8 x1x0, .slice a1x1 n1x1 c1x1 e1x1], .agg [.int .u8 x2x0, .slice a2x1 n2x1 c2x1 e2x1]]) h (KR Q)) (by kernel_rfl) ht)
end F_spec_l2Match
end Go.Sim

/- Printed by wip/tool: what the functions' bodies do, in the words of 'den'. -/
set_option maxRecDepth 100000
set_option linter.unusedVariables false
namespace Go.Sim
open Go Go.RowKit
/-! Function loop.example/instancesearch/impl.bindings -/
namespace F_impl_bindings
noncomputable abbrev fn : Func := Go.Proofs.Tryz.f64
def kp : Keeps := [(3000003, [3]), (1000003, [0, 3, 9, 10, 11])]
noncomputable def C (p : List Nat) : Code := (cod fn).sub p
def KR (Q : QT) : KT := retA pg fn.results.toList Q
abbrev T3 := Option Nat → Pt → Nat → Nat → Bool → Pt → Nat → Nat → Bool → Int → Int → AHeap → Prop
def E3 (R3 : T3) (env : Env) (h : AHeap) : Prop := eVal 0 env fun v env => xMap (some v) fun m0 => eVal 3 env fun v env => xSl (some v) fun a3 n3 c3 e3 => eVal 9 env fun v env => xSl (some v) fun a9 n9 c9 e9 => eVal 10 env fun v env => eInt .i64 v fun x10 => eVal 11 env fun v env => eInt .i64 v fun x11 => eNil env (R3 m0 a3 n3 c3 e3 a9 n9 c9 e9 x10 x11 h)
theorem E3elim {R3 : T3} {env : Env} {h : AHeap} (hi : E3 R3 env h) : ∃ m0, ∃ a3, ∃ n3, ∃ c3, ∃ e3, ∃ a9, ∃ n9, ∃ c9, ∃ e9, ∃ x10, ∃ x11, env = [(0, .map m0), (3, .slice a3 n3 c3 e3), (9, .slice a9 n9 c9 e9), (10, .int .i64 x10), (11, .int .i64 x11)] ∧ R3 m0 a3 n3 c3 e3 a9 n9 c9 e9 x10 x11 h := by
  unfold E3 at hi
  have hi0 := hi
  clear hi
  obtain ⟨v, env, rfl, hi1⟩ := eVal_elim hi0
  obtain ⟨m0, rfl, hi2⟩ := xMap_elim hi1
  obtain ⟨v, env, rfl, hi3⟩ := eVal_elim hi2
  obtain ⟨a3, n3, c3, e3, rfl, hi4⟩ := xSl_elim hi3
  obtain ⟨v, env, rfl, hi5⟩ := eVal_elim hi4
  obtain ⟨a9, n9, c9, e9, rfl, hi6⟩ := xSl_elim hi5
  obtain ⟨v, env, rfl, hi7⟩ := eVal_elim hi6
  obtain ⟨x10, rfl, hi8⟩ := eInt_elim hi7
  obtain ⟨v, env, rfl, hi9⟩ := eVal_elim hi8
  obtain ⟨x11, rfl, hi10⟩ := eInt_elim hi9
  obtain ⟨rfl, hi11⟩ := eNil_elim hi10
  have hi := hi11
  exact ⟨m0, a3, n3, c3, e3, a9, n9, c9, e9, x10, x11, rfl, hi⟩
def K0 (Q : QT) : KT := andThen (fun env' h' => (match kp.find 4000007 with | some ks => Den pg fn.ntmps (C [1, 1, 1]) (env'.keep ks) h' (KR Q) | none => den pg fn.ntmps kp (C [1, 1, 1]) env' h' (KR Q))) (KR Q)
def K1 (Q : QT) : KT := onExit 0 (K0 Q)
def K2 (Q : QT) : KT := left kp 3 (K1 Q)
def K3 (Q : QT) (R3 : T3) : KT := rnd ((kp.find 1000003).getD []) (E3 R3) (K2 Q)
def L3 (Q : QT) (m0 : Option Nat) (a3 : Pt) (n3 c3 : Nat) (e3 : Bool) (a9 : Pt) (n9 c9 : Nat) (e9 : Bool) (x10 x11 : Int) (h : AHeap) : Prop := Loop (Den pg fn.ntmps (C [1, 1, 0, 1, 0, 0])) ((kp.find 1000003).getD []) (K2 Q) [(0, .map m0), (3, .slice a3 n3 c3 e3), (9, .slice a9 n9 c9 e9), (10, .int .i64 x10), (11, .int .i64 x11)] h
def A3x0 (Q : QT) (a3 : Pt) (n3 c3 : Nat) (e3 : Bool) (h : AHeap) : Prop := At (K1 Q) (.exit 0) [(3, .slice a3 n3 c3 e3)] h
def L3t (Q : QT) (R3 : T3) (m0 : Option Nat) (a3 : Pt) (n3 c3 : Nat) (e3 : Bool) (a9 : Pt) (n9 c9 : Nat) (e9 : Bool) (x10 x11 : Int) (h : AHeap) : Prop :=
 bcase (decide ((x11 : Int) < x10)) ((0 ≤ (x11 : Int) ∧ (x11 : Int) < (n9 : Nat)) ∧ (xSome a9 fun i_10 o_11 => xStr (hCell h (.ptr (some (i_10, o_11 + (Int.toNat x11) * 1)))) fun s_12 => xMapObj h m0 fun es_13 k_14 => lookS es_13 s_12 fun r_15 => xStr (some (Option.getD r_15 (.str []))) fun s_16 => letH (h ++ [.cells t_impl_Binding [.str s_12, .str s_16] false]) fun h_17 => appendA pg t_L_impl_Binding h_17 (.slice a3 n3 c3 e3) (.slice (some (List.length h, 0)) 1 1 true) fun v_18 h_19 => xSl (some v_18) fun a_20 n_21 c_22 e_23 => R3 m0 a_20 n_21 c_22 e_23 a9 n9 c9 e9 x10 (IntKind.wrap .i64 (x11 + 1)) h_19)) (A3x0 Q a3 n3 c3 e3 h)
theorem L3den (Q : QT) (R3 : T3) (m0 : Option Nat) (a3 : Pt) (n3 c3 : Nat) (e3 : Bool) (a9 : Pt) (n9 c9 : Nat) (e9 : Bool) (x10 x11 : Int) (h : AHeap) (ht : L3t Q R3 m0 a3 n3 c3 e3 a9 n9 c9 e9 x10 x11 h) : Den pg fn.ntmps (C [1, 1, 0, 1, 0, 0]) [(0, .map m0), (3, .slice a3 n3 c3 e3), (9, .slice a9 n9 c9 e9), (10, .int .i64 x10), (11, .int .i64 x11)] h (K3 Q R3) :=
  den_Den (kp := kp) (@cast _ (den pg fn.ntmps kp (C [1, 1, 0, 1, 0, 0]) [(0, .map m0), (3, .slice a3 n3 c3 e3), (9, .slice a9 n9 c9 e9), (10, .int .i64 x10), (11, .int .i64 x11)] h (K3 Q R3)) (by kernel_rfl) ht)
theorem L3ind (Q : QT) (m0 : Option Nat) (a9 : Pt) (n9 c9 : Nat) (e9 : Bool) (x10 : Int) {G : Type} (J : G → Pt → Nat → Nat → Bool → Int → AHeap → Prop) (m : G → Nat)
 (hr : ∀ (g : G) (a3 : Pt) (n3 c3 : Nat) (e3 : Bool) (x11 : Int) (h : AHeap), J g a3 n3 c3 e3 x11 h → ∀ (R3 : T3), (∀ g' (a3 : Pt) (n3 c3 : Nat) (e3 : Bool) (x11 : Int) (h : AHeap), m g' < m g → J g' a3 n3 c3 e3 x11 h → R3 m0 a3 n3 c3 e3 a9 n9 c9 e9 x10 x11 h) → L3t Q R3 m0 a3 n3 c3 e3 a9 n9 c9 e9 x10 x11 h)
 (g : G) (a3 : Pt) (n3 c3 : Nat) (e3 : Bool) (x11 : Int) (h : AHeap) (hj : J g a3 n3 c3 e3 x11 h) : L3 Q m0 a3 n3 c3 e3 a9 n9 c9 e9 x10 x11 h := by
  refine Loop.inv2 (fun g => E3 fun m0' a3 n3 c3 e3 a9' n9' c9' e9' x10' x11 h => m0 = m0' ∧ a9 = a9' ∧ n9 = n9' ∧ c9 = c9' ∧ e9 = e9' ∧ x10 = x10' ∧ J g a3 n3 c3 e3 x11 h) (fun g => E3 fun m0' a3 n3 c3 e3 a9' n9' c9' e9' x10' x11 h => m0 = m0' ∧ a9 = a9' ∧ n9 = n9' ∧ c9 = c9' ∧ e9 = e9' ∧ x10 = x10' ∧ ∃ g', m g' < m g ∧ J g' a3 n3 c3 e3 x11 h) m ?_ ?_ g ⟨rfl, rfl, rfl, rfl, rfl, rfl, hj⟩
  · intro g env h hi
    obtain ⟨m0', a3, n3, c3, e3, a9', n9', c9', e9', x10', x11, rfl, rfl, rfl, rfl, rfl, rfl, rfl, hj⟩ := E3elim hi
    exact L3den Q (fun m0' a3 n3 c3 e3 a9' n9' c9' e9' x10' x11 h => m0 = m0' ∧ a9 = a9' ∧ n9 = n9' ∧ c9 = c9' ∧ e9 = e9' ∧ x10 = x10' ∧ ∃ g', m g' < m g ∧ J g' a3 n3 c3 e3 x11 h) m0 a3 n3 c3 e3 a9 n9 c9 e9 x10 x11 h (hr g a3 n3 c3 e3 x11 h hj (fun m0' a3 n3 c3 e3 a9' n9' c9' e9' x10' x11 h => m0 = m0' ∧ a9 = a9' ∧ n9 = n9' ∧ c9 = c9' ∧ e9 = e9' ∧ x10 = x10' ∧ ∃ g', m g' < m g ∧ J g' a3 n3 c3 e3 x11 h) fun g' a3 n3 c3 e3 x11 h hlt hj => ⟨rfl, rfl, rfl, rfl, rfl, rfl, g', hlt, hj⟩)
  · intro g env h hi
    obtain ⟨m0', a3, n3, c3, e3, a9', n9', c9', e9', x10', x11, rfl, rfl, rfl, rfl, rfl, rfl, rfl, g', hlt, hj⟩ := E3elim hi
    exact ⟨g', hlt, rfl, rfl, rfl, rfl, rfl, rfl, hj⟩
theorem A3x0i (Q : QT) (a3 : Pt) (n3 c3 : Nat) (e3 : Bool) (h : AHeap) (ht :
 Q (.slice a3 n3 c3 e3) h) : A3x0 Q a3 n3 c3 e3 h :=
  At.mk (@cast _ ((K1 Q) (.exit 0) [(3, .slice a3 n3 c3 e3)] h) (by kernel_rfl) ht)
theorem call (m0 : Option Nat) (h : AHeap) (Q : QT) (ht :
 letH (h ++ [.cells t_impl_Binding [] false]) fun h_0 => SCall pg n_maps_Keys_map_string_string_string_string [.map m0] h_0 fun v_1 h_2 =>
 xAny (some v_1) fun v_3 => SCall pg n_slices_Sorted_string [v_3] h_2 fun v_4 h_5 =>
 xSl (some v_4) fun a_6 n_7 c_8 e_9 => L3 Q m0 (some (List.length h, 0)) 0 0 true a_6 n_7 c_8 e_9 (((n_7 : Nat) : Int)) 0 h_5) : SCall pg n_impl_bindings [.map m0] h Q :=
  SCall.of_body kp (c := cod fn) (fn := fn) Go.Proofs.Tryz.func64 (by kernel_rfl) (by kernel_rfl) (Nat.le_of_ble_eq_true (by kernel_rfl))
    (@cast _ (den pg fn.ntmps kp (cod fn) (Env.args 0 [.map m0]) h (KR Q)) (by kernel_rfl) ht)
end F_impl_bindings
/-! Function loop.example/instancesearch/impl.MatchType -/
namespace F_impl_MatchType
noncomputable abbrev fn : Func := Go.Proofs.Tryz.f29
def kp : Keeps := [(4000004, [8])]
noncomputable def C (p : List Nat) : Code := (cod fn).sub p
def KR (Q : QT) : KT := retA pg fn.results.toList Q
def J4 (Q : QT) (m8 : Option Nat) (h : AHeap) : Prop := Den pg fn.ntmps (C [1, 1, 1]) [(8, .map m8)] h (KR Q)
theorem J4i (Q : QT) (m8 : Option Nat) (h : AHeap) (ht :
 SCall pg n_impl_bindings [.map m8] h fun v_10 h_11 =>
 xSl (some v_10) fun a_12 n_13 c_14 e_15 => Q (.tup [.slice a_12 n_13 c_14 e_15, .bool true]) h_11) : J4 Q m8 h :=
  den_Den (kp := kp) (@cast _ (den pg fn.ntmps kp (C [1, 1, 1]) [(8, .map m8)] h (KR Q)) (by kernel_rfl) ht)
theorem call (x0 x1 : List Nat) (h : AHeap) (Q : QT) (ht :
 SCall pg n_impl_typeOf [.str x0] h fun v_0 h_1 =>
 xPtr (some v_0) fun a_2 => SCall pg n_impl_typeOf [.str x1] h_1 fun v_3 h_4 =>
 xPtr (some v_3) fun a_5 => letH (h_4 ++ [.map [] 0]) fun h_6 => bcase (Option.isNone a_2) (Q (.tup [.slice none 0 0 true, .bool false]) h_6) (bcase (Option.isNone a_5) (Q (.tup [.slice none 0 0 true, .bool false]) h_6) (SCall pg n_impl_node_match [.ptr a_2, .ptr a_5, .map ((some (List.length h_4)))] h_6 fun v_7 h_8 =>
 xBool (some v_7) fun b_9 => bcase (!b_9) (Q (.tup [.slice none 0 0 true, .bool false]) h_8) (J4 Q ((some (List.length h_4))) h_8)))) : SCall pg n_impl_MatchType [.str x0, .str x1] h Q :=
  SCall.of_body kp (c := cod fn) (fn := fn) Go.Proofs.Tryz.func29 (by kernel_rfl) (by kernel_rfl) (Nat.le_of_ble_eq_true (by kernel_rfl))
    (@cast _ (den pg fn.ntmps kp (cod fn) (Env.args 0 [.str x0, .str x1]) h (KR Q)) (by kernel_rfl) ht)
end F_impl_MatchType
/-! Function loop.example/instancesearch/impl.IsInstance -/
namespace F_impl_IsInstance
noncomputable abbrev fn : Func := Go.Proofs.Tryz.f76
def kp : Keeps := []
noncomputable def C (p : List Nat) : Code := (cod fn).sub p
def KR (Q : QT) : KT := retA pg fn.results.toList Q
theorem call (x0 x1 : List Nat) (h : AHeap) (Q : QT) (ht :
 SCall pg n_impl_MatchType [.str x0, .str x1] h fun v_0 h_1 =>
 xTup v_0 fun cs_2 => xCons cs_2 fun c_3 r_4 => xSl (some c_3) fun a_5 n_6 c_7 e_8 => xCons r_4 fun c_9 r_10 => xBool (some c_9) fun b_11 => xNil r_10 (Q (.bool b_11) h_1)) : SCall pg n_impl_IsInstance [.str x0, .str x1] h Q :=
  SCall.of_body kp (c := cod fn) (fn := fn) Go.Proofs.Tryz.func76 (by kernel_rfl) (by kernel_rfl) (Nat.le_of_ble_eq_true (by kernel_rfl))
    (@cast _ (den pg fn.ntmps kp (cod fn) (Env.args 0 [.str x0, .str x1]) h (KR Q)) (by kernel_rfl) ht)
end F_impl_IsInstance
end Go.Sim

/- Printed by wip/tool: what the functions' bodies do, in the words of 'den'. -/
set_option maxRecDepth 100000
set_option linter.unusedVariables false
namespace Go.Sim
open Go Go.RowKit
/-! Function (*loop.example/instancesearch/impl.node).match -/
namespace F_impl_node_match
noncomputable abbrev fn : Func := Go.Proofs.Tryz.f63
def kp : Keeps := [(4000006, [2, 0, 7]), (2000008, [48, 0, 1, 2]), (3000011, [6]), (1000011, [1, 2, 52, 53, 54])]
noncomputable def C (p : List Nat) : Code := (cod fn).sub p
def KR (Q : QT) : KT := retA pg fn.results.toList Q
abbrev T11 := Pt → Option Nat → Pt → Nat → Nat → Bool → Int → Int → AHeap → Prop
def E11 (R11 : T11) (env : Env) (h : AHeap) : Prop := eVal 1 env fun v env => xPtr (some v) fun a1 => eVal 2 env fun v env => xMap (some v) fun m2 => eVal 52 env fun v env => xSl (some v) fun a52 n52 c52 e52 => eVal 53 env fun v env => eInt .i64 v fun x53 => eVal 54 env fun v env => eInt .i64 v fun x54 => eNil env (R11 a1 m2 a52 n52 c52 e52 x53 x54 h)
theorem E11elim {R11 : T11} {env : Env} {h : AHeap} (hi : E11 R11 env h) : ∃ a1, ∃ m2, ∃ a52, ∃ n52, ∃ c52, ∃ e52, ∃ x53, ∃ x54, env = [(1, .ptr a1), (2, .map m2), (52, .slice a52 n52 c52 e52), (53, .int .i64 x53), (54, .int .i64 x54)] ∧ R11 a1 m2 a52 n52 c52 e52 x53 x54 h := by
  unfold E11 at hi
  have hi0 := hi
  clear hi
  obtain ⟨v, env, rfl, hi1⟩ := eVal_elim hi0
  obtain ⟨a1, rfl, hi2⟩ := xPtr_elim hi1
  obtain ⟨v, env, rfl, hi3⟩ := eVal_elim hi2
  obtain ⟨m2, rfl, hi4⟩ := xMap_elim hi3
  obtain ⟨v, env, rfl, hi5⟩ := eVal_elim hi4
  obtain ⟨a52, n52, c52, e52, rfl, hi6⟩ := xSl_elim hi5
  obtain ⟨v, env, rfl, hi7⟩ := eVal_elim hi6
  obtain ⟨x53, rfl, hi8⟩ := eInt_elim hi7
  obtain ⟨v, env, rfl, hi9⟩ := eVal_elim hi8
  obtain ⟨x54, rfl, hi10⟩ := eInt_elim hi9
  obtain ⟨rfl, hi11⟩ := eNil_elim hi10
  have hi := hi11
  exact ⟨a1, m2, a52, n52, c52, e52, x53, x54, rfl, hi⟩
def K0 (Q : QT) : KT := andThen (fun env' h' => (match kp.find 4000008 with | some ks => Den pg fn.ntmps (C [1, 1]) (env'.keep ks) h' (KR Q) | none => den pg fn.ntmps kp (C [1, 1]) env' h' (KR Q))) (KR Q)
def K1 (Q : QT) : KT := andThen (fun env' h' => (match kp.find 4000016 with | some ks => Den pg fn.ntmps (C [1, 1, 1, 1]) (env'.keep ks) h' (KR Q) | none => den pg fn.ntmps kp (C [1, 1, 1, 1]) env' h' (KR Q))) (KR Q)
def K2 (Q : QT) : KT := onExit 0 (K1 Q)
def K3 (Q : QT) : KT := left kp 11 (K2 Q)
def K4 (Q : QT) (R11 : T11) : KT := rnd ((kp.find 1000011).getD []) (E11 R11) (K3 Q)
def J6 (Q : QT) (m2 : Option Nat) (a0 : Pt) (x7 : List Nat) (h : AHeap) : Prop := Den pg fn.ntmps (C [1, 0, 1, 0, 1, 1]) [(2, .map m2), (0, .ptr a0), (7, .str x7)] h (K0 Q)
def L11 (Q : QT) (a1 : Pt) (m2 : Option Nat) (a52 : Pt) (n52 c52 : Nat) (e52 : Bool) (x53 x54 : Int) (h : AHeap) : Prop := Loop (Den pg fn.ntmps (C [1, 1, 1, 0, 1, 0, 0])) ((kp.find 1000011).getD []) (K3 Q) [(1, .ptr a1), (2, .map m2), (52, .slice a52 n52 c52 e52), (53, .int .i64 x53), (54, .int .i64 x54)] h
def A11x0 (Q : QT) (h : AHeap) : Prop := At (K2 Q) (.exit 0) [(6, .undef)] h
theorem J6i (Q : QT) (m2 : Option Nat) (a0 : Pt) (x7 : List Nat) (h : AHeap) (ht :
 xSome a0 fun i_28 o_29 => xStr (hCell h (.ptr (some (i_28, o_29 + 0)))) fun s_30 => xMp m2 fun i_31 => xMapObj h (some i_31) fun es_32 k_33 => putS es_32 k_33 s_30 (.str x7) fun es_34 k_35 => letH (List.set h i_31 (.map es_34 k_35)) fun h_36 => Q (.bool true) h_36) : J6 Q m2 a0 x7 h :=
  den_Den (kp := kp) (@cast _ (den pg fn.ntmps kp (C [1, 0, 1, 0, 1, 1]) [(2, .map m2), (0, .ptr a0), (7, .str x7)] h (K0 Q)) (by kernel_rfl) ht)
def L11t (Q : QT) (R11 : T11) (a1 : Pt) (m2 : Option Nat) (a52 : Pt) (n52 c52 : Nat) (e52 : Bool) (x53 x54 : Int) (h : AHeap) : Prop :=
 bcase (decide ((x54 : Int) < x53)) ((0 ≤ (x54 : Int) ∧ (x54 : Int) < (n52 : Nat)) ∧ (xSome a52 fun i_37 o_38 => xPtr (hCell h (.ptr (some (i_37, o_38 + (Int.toNat x54) * 1)))) fun a_39 => xSome a1 fun i_40 o_41 => xSl (hCell h (.ptr (some (i_40, o_41 + 1)))) fun a_42 n_43 c_44 e_45 => (0 ≤ (x54 : Int) ∧ (x54 : Int) < (n_43 : Nat)) ∧ (xSome a_42 fun i_46 o_47 => xPtr (hCell h (.ptr (some (i_46, o_47 + (Int.toNat x54) * 1)))) fun a_48 => SCall pg n_impl_node_match [.ptr a_39, .ptr a_48, .map m2] h fun v_49 h_50 =>
 xBool (some v_49) fun b_51 => bcase (!b_51) (Q (.bool false) h_50) (R11 a1 m2 a52 n52 c52 e52 x53 (IntKind.wrap .i64 (x54 + 1)) h_50)))) (A11x0 Q h)
theorem L11den (Q : QT) (R11 : T11) (a1 : Pt) (m2 : Option Nat) (a52 : Pt) (n52 c52 : Nat) (e52 : Bool) (x53 x54 : Int) (h : AHeap) (ht : L11t Q R11 a1 m2 a52 n52 c52 e52 x53 x54 h) : Den pg fn.ntmps (C [1, 1, 1, 0, 1, 0, 0]) [(1, .ptr a1), (2, .map m2), (52, .slice a52 n52 c52 e52), (53, .int .i64 x53), (54, .int .i64 x54)] h (K4 Q R11) :=
  den_Den (kp := kp) (@cast _ (den pg fn.ntmps kp (C [1, 1, 1, 0, 1, 0, 0]) [(1, .ptr a1), (2, .map m2), (52, .slice a52 n52 c52 e52), (53, .int .i64 x53), (54, .int .i64 x54)] h (K4 Q R11)) (by kernel_rfl) ht)
theorem L11ind (Q : QT) (a1 : Pt) (m2 : Option Nat) (a52 : Pt) (n52 c52 : Nat) (e52 : Bool) (x53 : Int) {G : Type} (J : G → Int → AHeap → Prop) (m : G → Nat)
 (hr : ∀ (g : G) (x54 : Int) (h : AHeap), J g x54 h → ∀ (R11 : T11), (∀ g' (x54 : Int) (h : AHeap), m g' < m g → J g' x54 h → R11 a1 m2 a52 n52 c52 e52 x53 x54 h) → L11t Q R11 a1 m2 a52 n52 c52 e52 x53 x54 h)
 (g : G) (x54 : Int) (h : AHeap) (hj : J g x54 h) : L11 Q a1 m2 a52 n52 c52 e52 x53 x54 h := by
  refine Loop.inv2 (fun g => E11 fun a1' m2' a52' n52' c52' e52' x53' x54 h => a1 = a1' ∧ m2 = m2' ∧ a52 = a52' ∧ n52 = n52' ∧ c52 = c52' ∧ e52 = e52' ∧ x53 = x53' ∧ J g x54 h) (fun g => E11 fun a1' m2' a52' n52' c52' e52' x53' x54 h => a1 = a1' ∧ m2 = m2' ∧ a52 = a52' ∧ n52 = n52' ∧ c52 = c52' ∧ e52 = e52' ∧ x53 = x53' ∧ ∃ g', m g' < m g ∧ J g' x54 h) m ?_ ?_ g ⟨rfl, rfl, rfl, rfl, rfl, rfl, rfl, hj⟩
  · intro g env h hi
    obtain ⟨a1', m2', a52', n52', c52', e52', x53', x54, rfl, rfl, rfl, rfl, rfl, rfl, rfl, rfl, hj⟩ := E11elim hi
    exact L11den Q (fun a1' m2' a52' n52' c52' e52' x53' x54 h => a1 = a1' ∧ m2 = m2' ∧ a52 = a52' ∧ n52 = n52' ∧ c52 = c52' ∧ e52 = e52' ∧ x53 = x53' ∧ ∃ g', m g' < m g ∧ J g' x54 h) a1 m2 a52 n52 c52 e52 x53 x54 h (hr g x54 h hj (fun a1' m2' a52' n52' c52' e52' x53' x54 h => a1 = a1' ∧ m2 = m2' ∧ a52 = a52' ∧ n52 = n52' ∧ c52 = c52' ∧ e52 = e52' ∧ x53 = x53' ∧ ∃ g', m g' < m g ∧ J g' x54 h) fun g' x54 h hlt hj => ⟨rfl, rfl, rfl, rfl, rfl, rfl, rfl, g', hlt, hj⟩)
  · intro g env h hi
    obtain ⟨a1', m2', a52', n52', c52', e52', x53', x54, rfl, rfl, rfl, rfl, rfl, rfl, rfl, rfl, g', hlt, hj⟩ := E11elim hi
    exact ⟨g', hlt, rfl, rfl, rfl, rfl, rfl, rfl, rfl, hj⟩
theorem A11x0i (Q : QT) (h : AHeap) (ht :
 Q (.bool true) h) : A11x0 Q h :=
  At.mk (@cast _ ((K2 Q) (.exit 0) [(6, .undef)] h) (by kernel_rfl) ht)
theorem call (a0 a1 : Pt) (m2 : Option Nat) (h : AHeap) (Q : QT) (ht :
 xSome a0 fun i_0 o_1 => xStr (hCell h (.ptr (some (i_0, o_1 + 0)))) fun s_2 => SCall pg n_impl_isVar [.str s_2] h fun v_3 h_4 =>
 xBool (some v_3) fun b_5 => bcase b_5 (SCall pg n_impl_node_text [.ptr a1] h_4 fun v_6 h_7 =>
 xStr (some v_6) fun s_8 => xSome a0 fun i_9 o_10 => xStr (hCell h_7 (.ptr (some (i_9, o_10 + 0)))) fun s_11 => xMapObj h_7 m2 fun es_12 k_13 => lookS es_12 s_11 fun r_14 => xStr (some (Option.getD r_14 (.str []))) fun s_15 => bcase (Option.isSome r_14) (bcase (!(decide (s_15 = s_8))) (Q (.bool false) h_7) (J6 Q m2 a0 s_8 h_7)) (J6 Q m2 a0 s_8 h_7)) (xSome a0 fun i_16 o_17 => xSome a1 fun i_18 o_19 => xStr (hCell h_4 (.ptr (some (i_16, o_17 + 0)))) fun s_20 => xStr (hCell h_4 (.ptr (some (i_18, o_19 + 0)))) fun s_21 => (hCell h_4 (.ptr (some (i_16, o_17 + 0))) = hCell h_4 (.ptr (some (i_16, o_17 + 0)))) ∧ bcase (!(decide (s_20 = s_21))) (Q (.bool false) h_4) (xSome a0 fun i_22 o_23 => xSl (hCell h_4 (.ptr (some (i_22, o_23 + 1)))) fun a_24 n_25 c_26 e_27 => L11 Q a1 m2 a_24 n_25 c_26 e_27 (((n_25 : Nat) : Int)) 0 h_4))) : SCall pg n_impl_node_match [.ptr a0, .ptr a1, .map m2] h Q :=
  SCall.of_body kp (c := cod fn) (fn := fn) Go.Proofs.Tryz.func63 (by kernel_rfl) (by kernel_rfl) (Nat.le_of_ble_eq_true (by kernel_rfl))
    (@cast _ (den pg fn.ntmps kp (cod fn) (Env.args 0 [.ptr a0, .ptr a1, .map m2]) h (KR Q)) (by kernel_rfl) ht)
end F_impl_node_match
end Go.Sim

/- Printed by wip/tool: what the functions' bodies do, in the words of 'den'. -/
set_option maxRecDepth 100000
set_option linter.unusedVariables false
namespace Go.Sim
open Go Go.RowKit
/-! Function (*loop.example/instancesearch/impl.node).text -/
namespace F_impl_node_text
noncomputable abbrev fn : Func := Go.Proofs.Tryz.f103
def kp : Keeps := [(3000005, [0, 3]), (1000005, [0, 3, 20, 21, 22]), (2000009, [2])]
noncomputable def C (p : List Nat) : Code := (cod fn).sub p
def KR (Q : QT) : KT := retA pg fn.results.toList Q
abbrev T5 := Pt → Pt → Nat → Nat → Bool → Pt → Nat → Nat → Bool → Int → Int → AHeap → Prop
def E5 (R5 : T5) (env : Env) (h : AHeap) : Prop := eVal 0 env fun v env => xPtr (some v) fun a0 => eVal 3 env fun v env => xSl (some v) fun a3 n3 c3 e3 => eVal 20 env fun v env => xSl (some v) fun a20 n20 c20 e20 => eVal 21 env fun v env => eInt .i64 v fun x21 => eVal 22 env fun v env => eInt .i64 v fun x22 => eNil env (R5 a0 a3 n3 c3 e3 a20 n20 c20 e20 x21 x22 h)
theorem E5elim {R5 : T5} {env : Env} {h : AHeap} (hi : E5 R5 env h) : ∃ a0, ∃ a3, ∃ n3, ∃ c3, ∃ e3, ∃ a20, ∃ n20, ∃ c20, ∃ e20, ∃ x21, ∃ x22, env = [(0, .ptr a0), (3, .slice a3 n3 c3 e3), (20, .slice a20 n20 c20 e20), (21, .int .i64 x21), (22, .int .i64 x22)] ∧ R5 a0 a3 n3 c3 e3 a20 n20 c20 e20 x21 x22 h := by
  unfold E5 at hi
  have hi0 := hi
  clear hi
  obtain ⟨v, env, rfl, hi1⟩ := eVal_elim hi0
  obtain ⟨a0, rfl, hi2⟩ := xPtr_elim hi1
  obtain ⟨v, env, rfl, hi3⟩ := eVal_elim hi2
  obtain ⟨a3, n3, c3, e3, rfl, hi4⟩ := xSl_elim hi3
  obtain ⟨v, env, rfl, hi5⟩ := eVal_elim hi4
  obtain ⟨a20, n20, c20, e20, rfl, hi6⟩ := xSl_elim hi5
  obtain ⟨v, env, rfl, hi7⟩ := eVal_elim hi6
  obtain ⟨x21, rfl, hi8⟩ := eInt_elim hi7
  obtain ⟨v, env, rfl, hi9⟩ := eVal_elim hi8
  obtain ⟨x22, rfl, hi10⟩ := eInt_elim hi9
  obtain ⟨rfl, hi11⟩ := eNil_elim hi10
  have hi := hi11
  exact ⟨a0, a3, n3, c3, e3, a20, n20, c20, e20, x21, x22, rfl, hi⟩
def K0 (Q : QT) : KT := andThen (fun env' h' => (match kp.find 4000009 with | some ks => Den pg fn.ntmps (C [1, 1, 1, 1]) (env'.keep ks) h' (KR Q) | none => den pg fn.ntmps kp (C [1, 1, 1, 1]) env' h' (KR Q))) (KR Q)
def K1 (Q : QT) : KT := onExit 0 (K0 Q)
def K2 (Q : QT) : KT := left kp 5 (K1 Q)
def K3 (Q : QT) (R5 : T5) : KT := rnd ((kp.find 1000005).getD []) (E5 R5) (K2 Q)
def L5 (Q : QT) (a0 a3 : Pt) (n3 c3 : Nat) (e3 : Bool) (a20 : Pt) (n20 c20 : Nat) (e20 : Bool) (x21 x22 : Int) (h : AHeap) : Prop := Loop (Den pg fn.ntmps (C [1, 1, 1, 0, 1, 0, 0])) ((kp.find 1000005).getD []) (K2 Q) [(0, .ptr a0), (3, .slice a3 n3 c3 e3), (20, .slice a20 n20 c20 e20), (21, .int .i64 x21), (22, .int .i64 x22)] h
def A5x0 (Q : QT) (a0 a3 : Pt) (n3 c3 : Nat) (e3 : Bool) (h : AHeap) : Prop := At (K1 Q) (.exit 0) [(0, .ptr a0), (3, .slice a3 n3 c3 e3)] h
def L5t (Q : QT) (R5 : T5) (a0 a3 : Pt) (n3 c3 : Nat) (e3 : Bool) (a20 : Pt) (n20 c20 : Nat) (e20 : Bool) (x21 x22 : Int) (h : AHeap) : Prop :=
 bcase (decide ((x22 : Int) < x21)) ((0 ≤ (x22 : Int) ∧ (x22 : Int) < (n20 : Nat)) ∧ (xSome a20 fun i_16 o_17 => xPtr (hCell h (.ptr (some (i_16, o_17 + (Int.toNat x22) * 1)))) fun a_18 => SCall pg n_impl_node_text [.ptr a_18] h fun v_19 h_20 =>
 xStr (some v_19) fun s_21 => letH (h_20 ++ [.cells t_string [.str s_21] false]) fun h_22 => appendA pg t_L_string h_22 (.slice a3 n3 c3 e3) (.slice (some (List.length h_20, 0)) 1 1 true) fun v_23 h_24 => xSl (some v_23) fun a_25 n_26 c_27 e_28 => R5 a0 a_25 n_26 c_27 e_28 a20 n20 c20 e20 x21 (IntKind.wrap .i64 (x22 + 1)) h_24)) (A5x0 Q a0 a3 n3 c3 e3 h)
theorem L5den (Q : QT) (R5 : T5) (a0 a3 : Pt) (n3 c3 : Nat) (e3 : Bool) (a20 : Pt) (n20 c20 : Nat) (e20 : Bool) (x21 x22 : Int) (h : AHeap) (ht : L5t Q R5 a0 a3 n3 c3 e3 a20 n20 c20 e20 x21 x22 h) : Den pg fn.ntmps (C [1, 1, 1, 0, 1, 0, 0]) [(0, .ptr a0), (3, .slice a3 n3 c3 e3), (20, .slice a20 n20 c20 e20), (21, .int .i64 x21), (22, .int .i64 x22)] h (K3 Q R5) :=
  den_Den (kp := kp) (@cast _ (den pg fn.ntmps kp (C [1, 1, 1, 0, 1, 0, 0]) [(0, .ptr a0), (3, .slice a3 n3 c3 e3), (20, .slice a20 n20 c20 e20), (21, .int .i64 x21), (22, .int .i64 x22)] h (K3 Q R5)) (by kernel_rfl) ht)
theorem L5ind (Q : QT) (a0 a20 : Pt) (n20 c20 : Nat) (e20 : Bool) (x21 : Int) {G : Type} (J : G → Pt → Nat → Nat → Bool → Int → AHeap → Prop) (m : G → Nat)
 (hr : ∀ (g : G) (a3 : Pt) (n3 c3 : Nat) (e3 : Bool) (x22 : Int) (h : AHeap), J g a3 n3 c3 e3 x22 h → ∀ (R5 : T5), (∀ g' (a3 : Pt) (n3 c3 : Nat) (e3 : Bool) (x22 : Int) (h : AHeap), m g' < m g → J g' a3 n3 c3 e3 x22 h → R5 a0 a3 n3 c3 e3 a20 n20 c20 e20 x21 x22 h) → L5t Q R5 a0 a3 n3 c3 e3 a20 n20 c20 e20 x21 x22 h)
 (g : G) (a3 : Pt) (n3 c3 : Nat) (e3 : Bool) (x22 : Int) (h : AHeap) (hj : J g a3 n3 c3 e3 x22 h) : L5 Q a0 a3 n3 c3 e3 a20 n20 c20 e20 x21 x22 h := by
  refine Loop.inv2 (fun g => E5 fun a0' a3 n3 c3 e3 a20' n20' c20' e20' x21' x22 h => a0 = a0' ∧ a20 = a20' ∧ n20 = n20' ∧ c20 = c20' ∧ e20 = e20' ∧ x21 = x21' ∧ J g a3 n3 c3 e3 x22 h) (fun g => E5 fun a0' a3 n3 c3 e3 a20' n20' c20' e20' x21' x22 h => a0 = a0' ∧ a20 = a20' ∧ n20 = n20' ∧ c20 = c20' ∧ e20 = e20' ∧ x21 = x21' ∧ ∃ g', m g' < m g ∧ J g' a3 n3 c3 e3 x22 h) m ?_ ?_ g ⟨rfl, rfl, rfl, rfl, rfl, rfl, hj⟩
  · intro g env h hi
    obtain ⟨a0', a3, n3, c3, e3, a20', n20', c20', e20', x21', x22, rfl, rfl, rfl, rfl, rfl, rfl, rfl, hj⟩ := E5elim hi
    exact L5den Q (fun a0' a3 n3 c3 e3 a20' n20' c20' e20' x21' x22 h => a0 = a0' ∧ a20 = a20' ∧ n20 = n20' ∧ c20 = c20' ∧ e20 = e20' ∧ x21 = x21' ∧ ∃ g', m g' < m g ∧ J g' a3 n3 c3 e3 x22 h) a0 a3 n3 c3 e3 a20 n20 c20 e20 x21 x22 h (hr g a3 n3 c3 e3 x22 h hj (fun a0' a3 n3 c3 e3 a20' n20' c20' e20' x21' x22 h => a0 = a0' ∧ a20 = a20' ∧ n20 = n20' ∧ c20 = c20' ∧ e20 = e20' ∧ x21 = x21' ∧ ∃ g', m g' < m g ∧ J g' a3 n3 c3 e3 x22 h) fun g' a3 n3 c3 e3 x22 h hlt hj => ⟨rfl, rfl, rfl, rfl, rfl, rfl, g', hlt, hj⟩)
  · intro g env h hi
    obtain ⟨a0', a3, n3, c3, e3, a20', n20', c20', e20', x21', x22, rfl, rfl, rfl, rfl, rfl, rfl, rfl, g', hlt, hj⟩ := E5elim hi
    exact ⟨g', hlt, rfl, rfl, rfl, rfl, rfl, rfl, hj⟩
theorem A5x0i (Q : QT) (a0 a3 : Pt) (n3 c3 : Nat) (e3 : Bool) (h : AHeap) (ht :
 xSome a0 fun i_29 o_30 => xStr (hCell h (.ptr (some (i_29, o_30 + 0)))) fun s_31 => List.length s_31 + List.length [40] ≤ 9223372036854775807 ∧ (SCall pg n_strings_Join [.slice a3 n3 c3 e3, .str [44]] h fun v_32 h_33 =>
 xStr (some v_32) fun s_34 => (hCell h_33 (.ptr (some (i_29, o_30 + 0))) = hCell h (.ptr (some (i_29, o_30 + 0)))) ∧ List.length (s_31 ++ [40]) + List.length s_34 ≤ 9223372036854775807 ∧ (List.length ((s_31 ++ [40]) ++ s_34) + List.length [41] ≤ 9223372036854775807 ∧ (Q (.str (((s_31 ++ [40]) ++ s_34) ++ [41])) h_33)))) : A5x0 Q a0 a3 n3 c3 e3 h :=
  At.mk (@cast _ ((K1 Q) (.exit 0) [(0, .ptr a0), (3, .slice a3 n3 c3 e3)] h) (by kernel_rfl) ht)
theorem call (a0 : Pt) (h : AHeap) (Q : QT) (ht :
 xSome a0 fun i_0 o_1 => xSl (hCell h (.ptr (some (i_0, o_1 + 1)))) fun a_2 n_3 c_4 e_5 => bcase ((((n_3 : Nat) : Int) : Int) == 0) (xSome a0 fun i_6 o_7 => xStr (hCell h (.ptr (some (i_6, o_7 + 0)))) fun s_8 => Q (.str s_8) h) (letH (h ++ [.cells t_string [] false]) fun h_9 => xSome a0 fun i_10 o_11 => xSl (hCell h_9 (.ptr (some (i_10, o_11 + 1)))) fun a_12 n_13 c_14 e_15 => L5 Q a0 (some (List.length h, 0)) 0 0 true a_12 n_13 c_14 e_15 (((n_13 : Nat) : Int)) 0 h_9)) : SCall pg n_impl_node_text [.ptr a0] h Q :=
  SCall.of_body kp (c := cod fn) (fn := fn) Go.Proofs.Tryz.func103 (by kernel_rfl) (by kernel_rfl) (Nat.le_of_ble_eq_true (by kernel_rfl))
    (@cast _ (den pg fn.ntmps kp (cod fn) (Env.args 0 [.ptr a0]) h (KR Q)) (by kernel_rfl) ht)
end F_impl_node_text
/-! Function loop.example/instancesearch/spec.l1Text -/
namespace F_spec_l1Text
noncomputable abbrev fn : Func := Go.Proofs.Tryz.f99
def kp : Keeps := [(3000003, [1, 3]), (1000003, [1, 3, 11, 12, 13]), (2000005, [13, 12, 11, 3, 1]), (4000009, [3])]
noncomputable def C (p : List Nat) : Code := (cod fn).sub p
def KR (Q : QT) : KT := retA pg fn.results.toList Q
abbrev T3 := Nat → Nat → List Nat → Pt → Nat → Nat → Bool → Int → Int → AHeap → Prop
def E3 (R3 : T3) (env : Env) (h : AHeap) : Prop := eVal 1 env fun v env => xPtr (some v) fun a => xSome a fun i1 o1 => eVal 3 env fun v env => xStr (some v) fun x3 => eVal 11 env fun v env => xSl (some v) fun a11 n11 c11 e11 => eVal 12 env fun v env => eInt .i64 v fun x12 => eVal 13 env fun v env => eInt .i64 v fun x13 => eNil env (R3 i1 o1 x3 a11 n11 c11 e11 x12 x13 h)
theorem E3elim {R3 : T3} {env : Env} {h : AHeap} (hi : E3 R3 env h) : ∃ i1, ∃ o1, ∃ x3, ∃ a11, ∃ n11, ∃ c11, ∃ e11, ∃ x12, ∃ x13, env = [(1, .ptr (some (i1, o1))), (3, .str x3), (11, .slice a11 n11 c11 e11), (12, .int .i64 x12), (13, .int .i64 x13)] ∧ R3 i1 o1 x3 a11 n11 c11 e11 x12 x13 h := by
  unfold E3 at hi
  have hi0 := hi
  clear hi
  obtain ⟨v, env, rfl, hi1⟩ := eVal_elim hi0
  obtain ⟨a, rfl, hi2⟩ := xPtr_elim hi1
  obtain ⟨i1, o1, rfl, hi3⟩ := xSome_elim hi2
  obtain ⟨v, env, rfl, hi4⟩ := eVal_elim hi3
  obtain ⟨x3, rfl, hi5⟩ := xStr_elim hi4
  obtain ⟨v, env, rfl, hi6⟩ := eVal_elim hi5
  obtain ⟨a11, n11, c11, e11, rfl, hi7⟩ := xSl_elim hi6
  obtain ⟨v, env, rfl, hi8⟩ := eVal_elim hi7
  obtain ⟨x12, rfl, hi9⟩ := eInt_elim hi8
  obtain ⟨v, env, rfl, hi10⟩ := eVal_elim hi9
  obtain ⟨x13, rfl, hi11⟩ := eInt_elim hi10
  obtain ⟨rfl, hi12⟩ := eNil_elim hi11
  have hi := hi12
  exact ⟨i1, o1, x3, a11, n11, c11, e11, x12, x13, rfl, hi⟩
def K0 (Q : QT) : KT := andThen (fun env' h' => (match kp.find 4000007 with | some ks => Den pg fn.ntmps (C [1, 1, 1]) (env'.keep ks) h' (KR Q) | none => den pg fn.ntmps kp (C [1, 1, 1]) env' h' (KR Q))) (KR Q)
def K1 (Q : QT) : KT := onExit 0 (K0 Q)
def K2 (Q : QT) : KT := left kp 3 (K1 Q)
def K3 (Q : QT) (R3 : T3) : KT := rnd ((kp.find 1000003).getD []) (E3 R3) (K2 Q)
def L3 (Q : QT) (i1 o1 : Nat) (x3 : List Nat) (a11 : Pt) (n11 c11 : Nat) (e11 : Bool) (x12 x13 : Int) (h : AHeap) : Prop := Loop (Den pg fn.ntmps (C [1, 1, 0, 1, 0, 0])) ((kp.find 1000003).getD []) (K2 Q) [(1, .ptr (some (i1, o1))), (3, .str x3), (11, .slice a11 n11 c11 e11), (12, .int .i64 x12), (13, .int .i64 x13)] h
def A3x0 (Q : QT) (i1 o1 : Nat) (x3 : List Nat) (h : AHeap) : Prop := At (K1 Q) (.exit 0) [(1, .ptr (some (i1, o1))), (3, .str x3)] h
def J9 (Q : QT) (x3 : List Nat) (h : AHeap) : Prop := Den pg fn.ntmps (C [1, 1, 1, 1]) [(3, .str x3)] h (KR Q)
def L3t (Q : QT) (R3 : T3) (i1 o1 : Nat) (x3 : List Nat) (a11 : Pt) (n11 c11 : Nat) (e11 : Bool) (x12 x13 : Int) (h : AHeap) : Prop :=
 bcase (decide ((x13 : Int) < x12)) ((0 ≤ (x13 : Int) ∧ (x13 : Int) < (n11 : Nat)) ∧ (xSome a11 fun i_9 o_10 => xRow (hRow h (.ptr (some (i_9, o_10 + (Int.toNat x13) * 2))) 2) fun cs_11 => xCons cs_11 fun c_12 r_13 => xInt .u8 (some c_12) fun x_14 => xCons r_13 fun c_15 r_16 => xSl (some c_15) fun a_17 n_18 c_19 e_20 => xNil r_16 (letH (h ++ [.cells t_spec_l1Node [.int .u8 0, .slice none 0 0 true] false]) fun h_21 => xHeap (hStore h_21 (.ptr (some (List.length h, 0))) [.int .u8 x_14, .slice a_17 n_18 c_19 e_20]) fun h_22 => (0 ≤ (x13 : Int) ∧ (x13 : Int) ≤ IntKind.wrap .i64 (x13 + 1) ∧ (IntKind.wrap .i64 (x13 + 1) : Int) ≤ (List.length ([40, 44]) : Nat)) ∧ (List.length x3 + List.length (sub ([40, 44]) x13 (IntKind.wrap .i64 (x13 + 1))) ≤ 9223372036854775807 ∧ (xRow (hRow h_22 (.ptr (some (List.length h, 0))) 2) fun cs_23 => xCons cs_23 fun c_24 r_25 => xInt .u8 (some c_24) fun x_26 => xCons r_25 fun c_27 r_28 => xSl (some c_27) fun a_29 n_30 c_31 e_32 => xNil r_28 (SCall pg n_spec_l1Text [.agg [.int .u8 x_26, .slice a_29 n_30 c_31 e_32]] h_22 fun v_33 h_34 =>
 xStr (some v_33) fun s_35 => List.length (x3 ++ (sub ([40, 44]) x13 (IntKind.wrap .i64 (x13 + 1)))) + List.length s_35 ≤ 9223372036854775807 ∧ (R3 i1 o1 ((x3 ++ (sub ([40, 44]) x13 (IntKind.wrap .i64 (x13 + 1)))) ++ s_35) a11 n11 c11 e11 x12 (IntKind.wrap .i64 (x13 + 1)) h_34))))))) (A3x0 Q i1 o1 x3 h)
theorem L3den (Q : QT) (R3 : T3) (i1 o1 : Nat) (x3 : List Nat) (a11 : Pt) (n11 c11 : Nat) (e11 : Bool) (x12 x13 : Int) (h : AHeap) (ht : L3t Q R3 i1 o1 x3 a11 n11 c11 e11 x12 x13 h) : Den pg fn.ntmps (C [1, 1, 0, 1, 0, 0]) [(1, .ptr (some (i1, o1))), (3, .str x3), (11, .slice a11 n11 c11 e11), (12, .int .i64 x12), (13, .int .i64 x13)] h (K3 Q R3) :=
  den_Den (kp := kp) (@cast _ (den pg fn.ntmps kp (C [1, 1, 0, 1, 0, 0]) [(1, .ptr (some (i1, o1))), (3, .str x3), (11, .slice a11 n11 c11 e11), (12, .int .i64 x12), (13, .int .i64 x13)] h (K3 Q R3)) (by kernel_rfl) ht)
theorem L3ind (Q : QT) (i1 o1 : Nat) (a11 : Pt) (n11 c11 : Nat) (e11 : Bool) (x12 : Int) {G : Type} (J : G → List Nat → Int → AHeap → Prop) (m : G → Nat)
 (hr : ∀ (g : G) (x3 : List Nat) (x13 : Int) (h : AHeap), J g x3 x13 h → ∀ (R3 : T3), (∀ g' (x3 : List Nat) (x13 : Int) (h : AHeap), m g' < m g → J g' x3 x13 h → R3 i1 o1 x3 a11 n11 c11 e11 x12 x13 h) → L3t Q R3 i1 o1 x3 a11 n11 c11 e11 x12 x13 h)
 (g : G) (x3 : List Nat) (x13 : Int) (h : AHeap) (hj : J g x3 x13 h) : L3 Q i1 o1 x3 a11 n11 c11 e11 x12 x13 h := by
  refine Loop.inv2 (fun g => E3 fun i1' o1' x3 a11' n11' c11' e11' x12' x13 h => i1 = i1' ∧ o1 = o1' ∧ a11 = a11' ∧ n11 = n11' ∧ c11 = c11' ∧ e11 = e11' ∧ x12 = x12' ∧ J g x3 x13 h) (fun g => E3 fun i1' o1' x3 a11' n11' c11' e11' x12' x13 h => i1 = i1' ∧ o1 = o1' ∧ a11 = a11' ∧ n11 = n11' ∧ c11 = c11' ∧ e11 = e11' ∧ x12 = x12' ∧ ∃ g', m g' < m g ∧ J g' x3 x13 h) m ?_ ?_ g ⟨rfl, rfl, rfl, rfl, rfl, rfl, rfl, hj⟩
  · intro g env h hi
    obtain ⟨i1', o1', x3, a11', n11', c11', e11', x12', x13, rfl, rfl, rfl, rfl, rfl, rfl, rfl, rfl, hj⟩ := E3elim hi
    exact L3den Q (fun i1' o1' x3 a11' n11' c11' e11' x12' x13 h => i1 = i1' ∧ o1 = o1' ∧ a11 = a11' ∧ n11 = n11' ∧ c11 = c11' ∧ e11 = e11' ∧ x12 = x12' ∧ ∃ g', m g' < m g ∧ J g' x3 x13 h) i1 o1 x3 a11 n11 c11 e11 x12 x13 h (hr g x3 x13 h hj (fun i1' o1' x3 a11' n11' c11' e11' x12' x13 h => i1 = i1' ∧ o1 = o1' ∧ a11 = a11' ∧ n11 = n11' ∧ c11 = c11' ∧ e11 = e11' ∧ x12 = x12' ∧ ∃ g', m g' < m g ∧ J g' x3 x13 h) fun g' x3 x13 h hlt hj => ⟨rfl, rfl, rfl, rfl, rfl, rfl, rfl, g', hlt, hj⟩)
  · intro g env h hi
    obtain ⟨i1', o1', x3, a11', n11', c11', e11', x12', x13, rfl, rfl, rfl, rfl, rfl, rfl, rfl, rfl, g', hlt, hj⟩ := E3elim hi
    exact ⟨g', hlt, rfl, rfl, rfl, rfl, rfl, rfl, rfl, hj⟩
theorem A3x0i (Q : QT) (i1 o1 : Nat) (x3 : List Nat) (h : AHeap) (ht :
 xSl (hCell h (.ptr (some (i1, o1 + 1)))) fun a_36 n_37 c_38 e_39 => bcase (decide (((((n_37 : Nat) : Int)) : Int) > 0)) (List.length x3 + List.length [41] ≤ 9223372036854775807 ∧ (J9 Q (x3 ++ [41]) h)) (J9 Q x3 h)) : A3x0 Q i1 o1 x3 h :=
  At.mk (@cast _ ((K1 Q) (.exit 0) [(1, .ptr (some (i1, o1))), (3, .str x3)] h) (by kernel_rfl) ht)
theorem J9i (Q : QT) (x3 : List Nat) (h : AHeap) (ht :
 Q (.str x3) h) : J9 Q x3 h :=
  den_Den (kp := kp) (@cast _ (den pg fn.ntmps kp (C [1, 1, 1, 1]) [(3, .str x3)] h (KR Q)) (by kernel_rfl) ht)
theorem call (x0x0 : Int) (a0x1 : Pt) (n0x1 c0x1 : Nat) (e0x1 : Bool) (h : AHeap) (Q : QT) (ht :
 letH (h ++ [.cells t_spec_l1Node [.int .u8 x0x0, .slice a0x1 n0x1 c0x1 e0x1] false]) fun h_0 => xInt .u8 (hCell h_0 (.ptr (some (List.length h, 0 + 0)))) fun x_1 => letH (h_0 ++ [.cells t_uint8 [.int .u8 x_1] false]) fun h_2 => xRow (rowOf h_2 (some (List.length h_0, 0)) 1) fun cs_3 => bytesA cs_3 fun s_4 => xSl (hCell h_2 (.ptr (some (List.length h, 0 + 1)))) fun a_5 n_6 c_7 e_8 => L3 Q (List.length h) 0 s_4 a_5 n_6 c_7 e_8 (((n_6 : Nat) : Int)) 0 h_2) : SCall pg n_spec_l1Text [.agg [.int .u8 x0x0, .slice a0x1 n0x1 c0x1 e0x1]] h Q :=
  SCall.of_body kp (c := cod fn) (fn := fn) Go.Proofs.Tryz.func99 (by kernel_rfl) (by kernel_rfl) (Nat.le_of_ble_eq_true (by kernel_rfl))
    (@cast _ (den pg fn.ntmps kp (cod fn) (Env.args 0 [.agg [.int .u8 x0x0, .slice a0x1 n0x1 c0x1 e0x1]]) h (KR Q)) (by kernel_rfl) ht)
end F_spec_l1Text
end Go.Sim

/- Printed by wip/tool: what the functions' bodies do, in the words of 'den'. -/
set_option maxRecDepth 100000
set_option linter.unusedVariables false
namespace Go.Sim
open Go Go.RowKit
/-! Function loop.example/instancesearch/laws.toInstanceS -/
namespace F_laws_toInstanceS
noncomputable abbrev fn : Func := Go.Proofs.Tryz.f39
def kp : Keeps := [(3000003, [3]), (1000003, [0, 3, 4])]
noncomputable def C (p : List Nat) : Code := (cod fn).sub p
def KR (Q : QT) : KT := retA pg fn.results.toList Q
abbrev T3 := Pt → Nat → Nat → Bool → Pt → Nat → Nat → Bool → Int → AHeap → Prop
def E3 (R3 : T3) (env : Env) (h : AHeap) : Prop := eVal 0 env fun v env => xSl (some v) fun a0 n0 c0 e0 => eVal 3 env fun v env => xSl (some v) fun a3 n3 c3 e3 => eVal 4 env fun v env => eInt .i64 v fun x4 => eNil env (R3 a0 n0 c0 e0 a3 n3 c3 e3 x4 h)
theorem E3elim {R3 : T3} {env : Env} {h : AHeap} (hi : E3 R3 env h) : ∃ a0, ∃ n0, ∃ c0, ∃ e0, ∃ a3, ∃ n3, ∃ c3, ∃ e3, ∃ x4, env = [(0, .slice a0 n0 c0 e0), (3, .slice a3 n3 c3 e3), (4, .int .i64 x4)] ∧ R3 a0 n0 c0 e0 a3 n3 c3 e3 x4 h := by
  unfold E3 at hi
  have hi0 := hi
  clear hi
  obtain ⟨v, env, rfl, hi1⟩ := eVal_elim hi0
  obtain ⟨a0, n0, c0, e0, rfl, hi2⟩ := xSl_elim hi1
  obtain ⟨v, env, rfl, hi3⟩ := eVal_elim hi2
  obtain ⟨a3, n3, c3, e3, rfl, hi4⟩ := xSl_elim hi3
  obtain ⟨v, env, rfl, hi5⟩ := eVal_elim hi4
  obtain ⟨x4, rfl, hi6⟩ := eInt_elim hi5
  obtain ⟨rfl, hi7⟩ := eNil_elim hi6
  have hi := hi7
  exact ⟨a0, n0, c0, e0, a3, n3, c3, e3, x4, rfl, hi⟩
def K0 (Q : QT) : KT := andThen (fun env' h' => (match kp.find 4000006 with | some ks => Den pg fn.ntmps (C [1, 1, 1]) (env'.keep ks) h' (KR Q) | none => den pg fn.ntmps kp (C [1, 1, 1]) env' h' (KR Q))) (KR Q)
def K1 (Q : QT) : KT := onExit 0 (K0 Q)
def K2 (Q : QT) : KT := left kp 3 (K1 Q)
def K3 (Q : QT) (R3 : T3) : KT := rnd ((kp.find 1000003).getD []) (E3 R3) (K2 Q)
def L3 (Q : QT) (a0 : Pt) (n0 c0 : Nat) (e0 : Bool) (a3 : Pt) (n3 c3 : Nat) (e3 : Bool) (x4 : Int) (h : AHeap) : Prop := Loop (Den pg fn.ntmps (C [1, 1, 0, 1, 0, 0])) ((kp.find 1000003).getD []) (K2 Q) [(0, .slice a0 n0 c0 e0), (3, .slice a3 n3 c3 e3), (4, .int .i64 x4)] h
def A3x0 (Q : QT) (a3 : Pt) (n3 c3 : Nat) (e3 : Bool) (h : AHeap) : Prop := At (K1 Q) (.exit 0) [(3, .slice a3 n3 c3 e3)] h
def L3t (Q : QT) (R3 : T3) (a0 : Pt) (n0 c0 : Nat) (e0 : Bool) (a3 : Pt) (n3 c3 : Nat) (e3 : Bool) (x4 : Int) (h : AHeap) : Prop :=
 bcase (decide ((x4 : Int) < (((n0 : Nat) : Int)))) ((0 ≤ (x4 : Int) ∧ (x4 : Int) < (n0 : Nat)) ∧ (xSome a0 fun i_1 o_2 => xRow (hRow h (.ptr (some (i_1, o_2 + (Int.toNat x4) * 3))) 3) fun cs_3 => xCons cs_3 fun c_4 r_5 => xStr (some c_4) fun s_6 => xCons r_5 fun c_7 r_8 => xStr (some c_7) fun s_9 => xCons r_8 fun c_10 r_11 => xSl (some c_10) fun a_12 n_13 c_14 e_15 => xNil r_11 (SCall pg n_laws_toInstance [.agg [.str s_6, .str s_9, .slice a_12 n_13 c_14 e_15]] h fun v_16 h_17 =>
 xAgg v_16 fun cs_18 => xCons cs_18 fun c_19 r_20 => xStr (some c_19) fun s_21 => xCons r_20 fun c_22 r_23 => xStr (some c_22) fun s_24 => xCons r_23 fun c_25 r_26 => xSl (some c_25) fun a_27 n_28 c_29 e_30 => xNil r_26 ((0 ≤ (x4 : Int) ∧ (x4 : Int) < (n3 : Nat)) ∧ (xSome a3 fun i_31 o_32 => xHeap (hStore h_17 (.ptr (some (i_31, o_32 + (Int.toNat x4) * 3))) [.str s_21, .str s_24, .slice a_27 n_28 c_29 e_30]) fun h_33 => R3 a0 n0 c0 e0 a3 n3 c3 e3 (IntKind.wrap .i64 (x4 + 1)) h_33))))) (A3x0 Q a3 n3 c3 e3 h)
theorem L3den (Q : QT) (R3 : T3) (a0 : Pt) (n0 c0 : Nat) (e0 : Bool) (a3 : Pt) (n3 c3 : Nat) (e3 : Bool) (x4 : Int) (h : AHeap) (ht : L3t Q R3 a0 n0 c0 e0 a3 n3 c3 e3 x4 h) : Den pg fn.ntmps (C [1, 1, 0, 1, 0, 0]) [(0, .slice a0 n0 c0 e0), (3, .slice a3 n3 c3 e3), (4, .int .i64 x4)] h (K3 Q R3) :=
  den_Den (kp := kp) (@cast _ (den pg fn.ntmps kp (C [1, 1, 0, 1, 0, 0]) [(0, .slice a0 n0 c0 e0), (3, .slice a3 n3 c3 e3), (4, .int .i64 x4)] h (K3 Q R3)) (by kernel_rfl) ht)
theorem L3ind (Q : QT) (a0 : Pt) (n0 c0 : Nat) (e0 : Bool) (a3 : Pt) (n3 c3 : Nat) (e3 : Bool) {G : Type} (J : G → Int → AHeap → Prop) (m : G → Nat)
 (hr : ∀ (g : G) (x4 : Int) (h : AHeap), J g x4 h → ∀ (R3 : T3), (∀ g' (x4 : Int) (h : AHeap), m g' < m g → J g' x4 h → R3 a0 n0 c0 e0 a3 n3 c3 e3 x4 h) → L3t Q R3 a0 n0 c0 e0 a3 n3 c3 e3 x4 h)
 (g : G) (x4 : Int) (h : AHeap) (hj : J g x4 h) : L3 Q a0 n0 c0 e0 a3 n3 c3 e3 x4 h := by
  refine Loop.inv2 (fun g => E3 fun a0' n0' c0' e0' a3' n3' c3' e3' x4 h => a0 = a0' ∧ n0 = n0' ∧ c0 = c0' ∧ e0 = e0' ∧ a3 = a3' ∧ n3 = n3' ∧ c3 = c3' ∧ e3 = e3' ∧ J g x4 h) (fun g => E3 fun a0' n0' c0' e0' a3' n3' c3' e3' x4 h => a0 = a0' ∧ n0 = n0' ∧ c0 = c0' ∧ e0 = e0' ∧ a3 = a3' ∧ n3 = n3' ∧ c3 = c3' ∧ e3 = e3' ∧ ∃ g', m g' < m g ∧ J g' x4 h) m ?_ ?_ g ⟨rfl, rfl, rfl, rfl, rfl, rfl, rfl, rfl, hj⟩
  · intro g env h hi
    obtain ⟨a0', n0', c0', e0', a3', n3', c3', e3', x4, rfl, rfl, rfl, rfl, rfl, rfl, rfl, rfl, rfl, hj⟩ := E3elim hi
    exact L3den Q (fun a0' n0' c0' e0' a3' n3' c3' e3' x4 h => a0 = a0' ∧ n0 = n0' ∧ c0 = c0' ∧ e0 = e0' ∧ a3 = a3' ∧ n3 = n3' ∧ c3 = c3' ∧ e3 = e3' ∧ ∃ g', m g' < m g ∧ J g' x4 h) a0 n0 c0 e0 a3 n3 c3 e3 x4 h (hr g x4 h hj (fun a0' n0' c0' e0' a3' n3' c3' e3' x4 h => a0 = a0' ∧ n0 = n0' ∧ c0 = c0' ∧ e0 = e0' ∧ a3 = a3' ∧ n3 = n3' ∧ c3 = c3' ∧ e3 = e3' ∧ ∃ g', m g' < m g ∧ J g' x4 h) fun g' x4 h hlt hj => ⟨rfl, rfl, rfl, rfl, rfl, rfl, rfl, rfl, g', hlt, hj⟩)
  · intro g env h hi
    obtain ⟨a0', n0', c0', e0', a3', n3', c3', e3', x4, rfl, rfl, rfl, rfl, rfl, rfl, rfl, rfl, rfl, g', hlt, hj⟩ := E3elim hi
    exact ⟨g', hlt, rfl, rfl, rfl, rfl, rfl, rfl, rfl, rfl, hj⟩
theorem A3x0i (Q : QT) (a3 : Pt) (n3 c3 : Nat) (e3 : Bool) (h : AHeap) (ht :
 Q (.slice a3 n3 c3 e3) h) : A3x0 Q a3 n3 c3 e3 h :=
  At.mk (@cast _ ((K1 Q) (.exit 0) [(3, .slice a3 n3 c3 e3)] h) (by kernel_rfl) ht)
theorem call (a0 : Pt) (n0 c0 : Nat) (e0 : Bool) (h : AHeap) (Q : QT) (ht :
 IntKind.i64 = IntKind.i64 ∧ (IntKind.i64 = IntKind.i64 ∧ ((0 ≤ ((((n0 : Nat) : Int)) : Int) ∧ ((((n0 : Nat) : Int)) : Int) ≤ (((n0 : Nat) : Int)) ∧ ((((n0 : Nat) : Int)) : Int) * (((56 : Nat) : Int) + 1) ≤ 140737488355328) ∧ (letH (h ++ [.cells t_impl_Instance (reps (Int.toNat ((((n0 : Nat) : Int)))) [.str [], .str [], .slice none 0 0 true]) false]) fun h_0 => L3 Q a0 n0 c0 e0 (some (List.length h, 0)) (Int.toNat ((((n0 : Nat) : Int)))) (Int.toNat ((((n0 : Nat) : Int)))) true 0 h_0)))) : SCall pg n_laws_toInstanceS [.slice a0 n0 c0 e0] h Q :=
  SCall.of_body kp (c := cod fn) (fn := fn) Go.Proofs.Tryz.func39 (by kernel_rfl) (by kernel_rfl) (Nat.le_of_ble_eq_true (by kernel_rfl))
    (@cast _ (den pg fn.ntmps kp (cod fn) (Env.args 0 [.slice a0 n0 c0 e0]) h (KR Q)) (by kernel_rfl) ht)
end F_laws_toInstanceS
/-! Function loop.example/instancesearch/laws.toWorld -/
namespace F_laws_toWorld
noncomputable abbrev fn : Func := Go.Proofs.Tryz.f10
def kp : Keeps := []
noncomputable def C (p : List Nat) : Code := (cod fn).sub p
def KR (Q : QT) : KT := retA pg fn.results.toList Q
theorem call (a0x0 : Pt) (n0x0 c0x0 : Nat) (e0x0 : Bool) (a0x1 : Pt) (n0x1 c0x1 : Nat) (e0x1 : Bool) (h : AHeap) (Q : QT) (ht :
 letH (h ++ [.cells t_laws_World [.slice a0x0 n0x0 c0x0 e0x0, .slice a0x1 n0x1 c0x1 e0x1] false]) fun h_0 => letH (h_0 ++ [.cells t_impl_World [.slice none 0 0 true, .slice none 0 0 true] false]) fun h_1 => letH (h_1 ++ [.cells t_impl_World [.slice none 0 0 true, .slice none 0 0 true] false]) fun h_2 => xSl (hCell h_2 (.ptr (some (List.length h, 0 + 0)))) fun a_3 n_4 c_5 e_6 => SCall pg n_laws_toClassS [.slice a_3 n_4 c_5 e_6] h_2 fun v_7 h_8 =>
 xSl (some v_7) fun a_9 n_10 c_11 e_12 => xHeap (hStore h_8 (.ptr (some (List.length h_1, 0 + 0))) [.slice a_9 n_10 c_11 e_12]) fun h_13 => xSl (hCell h_13 (.ptr (some (List.length h, 0 + 1)))) fun a_14 n_15 c_16 e_17 => SCall pg n_laws_toInstanceS [.slice a_14 n_15 c_16 e_17] h_13 fun v_18 h_19 =>
 xSl (some v_18) fun a_20 n_21 c_22 e_23 => xHeap (hStore h_19 (.ptr (some (List.length h_1, 0 + 1))) [.slice a_20 n_21 c_22 e_23]) fun h_24 => xRow (hRow h_24 (.ptr (some (List.length h_1, 0))) 2) fun cs_25 => xCons cs_25 fun c_26 r_27 => xSl (some c_26) fun a_28 n_29 c_30 e_31 => xCons r_27 fun c_32 r_33 => xSl (some c_32) fun a_34 n_35 c_36 e_37 => xNil r_33 (xHeap (hStore h_24 (.ptr (some (List.length h_0, 0))) [.slice a_28 n_29 c_30 e_31, .slice a_34 n_35 c_36 e_37]) fun h_38 => xRow (hRow h_38 (.ptr (some (List.length h_0, 0))) 2) fun cs_39 => xCons cs_39 fun c_40 r_41 => xSl (some c_40) fun a_42 n_43 c_44 e_45 => xCons r_41 fun c_46 r_47 => xSl (some c_46) fun a_48 n_49 c_50 e_51 => xNil r_47 (Q (.agg [.slice a_42 n_43 c_44 e_45, .slice a_48 n_49 c_50 e_51]) h_38))) : SCall pg n_laws_toWorld [.agg [.slice a0x0 n0x0 c0x0 e0x0, .slice a0x1 n0x1 c0x1 e0x1]] h Q :=
  SCall.of_body kp (c := cod fn) (fn := fn) Go.Proofs.Tryz.func10 (by kernel_rfl) (by kernel_rfl) (Nat.le_of_ble_eq_true (by kernel_rfl))
    (@cast _ (den pg fn.ntmps kp (cod fn) (Env.args 0 [.agg [.slice a0x0 n0x0 c0x0 e0x0, .slice a0x1 n0x1 c0x1 e0x1]]) h (KR Q)) (by kernel_rfl) ht)
end F_laws_toWorld
/-! Function loop.example/instancesearch/laws.eqInstance -/
namespace F_laws_eqInstance
noncomputable abbrev fn : Func := Go.Proofs.Tryz.f78
def kp : Keeps := []
noncomputable def C (p : List Nat) : Code := (cod fn).sub p
def KR (Q : QT) : KT := retA pg fn.results.toList Q
theorem call (x0x0 x0x1 : List Nat) (a0x2 : Pt) (n0x2 c0x2 : Nat) (e0x2 : Bool) (x1x0 x1x1 : List Nat) (a1x2 : Pt) (n1x2 c1x2 : Nat) (e1x2 : Bool) (h : AHeap) (Q : QT) (ht :
 letH (h ++ [.cells t_impl_Instance [.str x0x0, .str x0x1, .slice a0x2 n0x2 c0x2 e0x2] false]) fun h_0 => letH (h_0 ++ [.cells t_impl_Instance [.str x1x0, .str x1x1, .slice a1x2 n1x2 c1x2 e1x2] false]) fun h_1 => xRow (hRow h_1 (.ptr (some (List.length h, 0 + 0))) 2) fun cs_2 => xCons cs_2 fun c_3 r_4 => xStr (some c_3) fun s_5 => xCons r_4 fun c_6 r_7 => xStr (some c_6) fun s_8 => xNil r_7 (xRow (hRow h_1 (.ptr (some (List.length h_0, 0 + 0))) 2) fun cs_9 => xCons cs_9 fun c_10 r_11 => xStr (some c_10) fun s_12 => xCons r_11 fun c_13 r_14 => xStr (some c_13) fun s_15 => xNil r_14 (SCall pg n_laws_eqNeed [.agg [.str s_5, .str s_8], .agg [.str s_12, .str s_15]] h_1 fun v_16 h_17 =>
 xBool (some v_16) fun b_18 => bcase (!b_18) (Q (.bool false) h_17) (xSl (hCell h_17 (.ptr (some (List.length h, 0 + 2)))) fun a_19 n_20 c_21 e_22 => xSl (hCell h_17 (.ptr (some (List.length h_0, 0 + 2)))) fun a_23 n_24 c_25 e_26 => SCall pg n_laws_eqNeedS [.slice a_19 n_20 c_21 e_22, .slice a_23 n_24 c_25 e_26] h_17 fun v_27 h_28 =>
 xBool (some v_27) fun b_29 => bcase (!b_29) (Q (.bool false) h_28) (Q (.bool true) h_28))))) : SCall pg n_laws_eqInstance [.agg [.str x0x0, .str x0x1, .slice a0x2 n0x2 c0x2 e0x2], .agg [.str x1x0, .str x1x1, .slice a1x2 n1x2 c1x2 e1x2]] h Q :=
  SCall.of_body kp (c := cod fn) (fn := fn) Go.Proofs.Tryz.func78 (by kernel_rfl) (by kernel_rfl) (Nat.le_of_ble_eq_true (by kernel_rfl))
    (@cast _ (den pg fn.ntmps kp (cod fn) (Env.args 0 [.agg [.str x0x0, .str x0x1, .slice a0x2 n0x2 c0x2 e0x2], .agg [.str x1x0, .str x1x1, .slice a1x2 n1x2 c1x2 e1x2]]) h (KR Q)) (by kernel_rfl) ht)
end F_laws_eqInstance
/-! Function loop.example/instancesearch/laws.eqInstanceS -/
namespace F_laws_eqInstanceS
noncomputable abbrev fn : Func := Go.Proofs.Tryz.f42
def kp : Keeps := [(3000004, [4]), (1000004, [0, 1, 5]), (2000006, [26, 5, 0, 1])]
noncomputable def C (p : List Nat) : Code := (cod fn).sub p
def KR (Q : QT) : KT := retA pg fn.results.toList Q
abbrev T4 := Pt → Nat → Nat → Bool → Pt → Nat → Nat → Bool → Int → AHeap → Prop
def E4 (R4 : T4) (env : Env) (h : AHeap) : Prop := eVal 0 env fun v env => xSl (some v) fun a0 n0 c0 e0 => eVal 1 env fun v env => xSl (some v) fun a1 n1 c1 e1 => eVal 5 env fun v env => eInt .i64 v fun x5 => eNil env (R4 a0 n0 c0 e0 a1 n1 c1 e1 x5 h)
theorem E4elim {R4 : T4} {env : Env} {h : AHeap} (hi : E4 R4 env h) : ∃ a0, ∃ n0, ∃ c0, ∃ e0, ∃ a1, ∃ n1, ∃ c1, ∃ e1, ∃ x5, env = [(0, .slice a0 n0 c0 e0), (1, .slice a1 n1 c1 e1), (5, .int .i64 x5)] ∧ R4 a0 n0 c0 e0 a1 n1 c1 e1 x5 h := by
  unfold E4 at hi
  have hi0 := hi
  clear hi
  obtain ⟨v, env, rfl, hi1⟩ := eVal_elim hi0
  obtain ⟨a0, n0, c0, e0, rfl, hi2⟩ := xSl_elim hi1
  obtain ⟨v, env, rfl, hi3⟩ := eVal_elim hi2
  obtain ⟨a1, n1, c1, e1, rfl, hi4⟩ := xSl_elim hi3
  obtain ⟨v, env, rfl, hi5⟩ := eVal_elim hi4
  obtain ⟨x5, rfl, hi6⟩ := eInt_elim hi5
  obtain ⟨rfl, hi7⟩ := eNil_elim hi6
  have hi := hi7
  exact ⟨a0, n0, c0, e0, a1, n1, c1, e1, x5, rfl, hi⟩
def K0 (Q : QT) : KT := andThen (fun env' h' => (match kp.find 4000008 with | some ks => Den pg fn.ntmps (C [1, 1, 1]) (env'.keep ks) h' (KR Q) | none => den pg fn.ntmps kp (C [1, 1, 1]) env' h' (KR Q))) (KR Q)
def K1 (Q : QT) : KT := onExit 0 (K0 Q)
def K2 (Q : QT) : KT := left kp 4 (K1 Q)
def K3 (Q : QT) (R4 : T4) : KT := rnd ((kp.find 1000004).getD []) (E4 R4) (K2 Q)
def L4 (Q : QT) (a0 : Pt) (n0 c0 : Nat) (e0 : Bool) (a1 : Pt) (n1 c1 : Nat) (e1 : Bool) (x5 : Int) (h : AHeap) : Prop := Loop (Den pg fn.ntmps (C [1, 1, 0, 1, 0, 0])) ((kp.find 1000004).getD []) (K2 Q) [(0, .slice a0 n0 c0 e0), (1, .slice a1 n1 c1 e1), (5, .int .i64 x5)] h
def A4x0 (Q : QT) (h : AHeap) : Prop := At (K1 Q) (.exit 0) [(4, .undef)] h
def L4t (Q : QT) (R4 : T4) (a0 : Pt) (n0 c0 : Nat) (e0 : Bool) (a1 : Pt) (n1 c1 : Nat) (e1 : Bool) (x5 : Int) (h : AHeap) : Prop :=
 bcase (decide ((x5 : Int) < (((n0 : Nat) : Int)))) ((0 ≤ (x5 : Int) ∧ (x5 : Int) < (n0 : Nat)) ∧ (xSome a0 fun i_0 o_1 => (0 ≤ (x5 : Int) ∧ (x5 : Int) < (n1 : Nat)) ∧ (xSome a1 fun i_2 o_3 => xRow (hRow h (.ptr (some (i_0, o_1 + (Int.toNat x5) * 3))) 3) fun cs_4 => xCons cs_4 fun c_5 r_6 => xStr (some c_5) fun s_7 => xCons r_6 fun c_8 r_9 => xStr (some c_8) fun s_10 => xCons r_9 fun c_11 r_12 => xSl (some c_11) fun a_13 n_14 c_15 e_16 => xNil r_12 (xRow (hRow h (.ptr (some (i_2, o_3 + (Int.toNat x5) * 3))) 3) fun cs_17 => xCons cs_17 fun c_18 r_19 => xStr (some c_18) fun s_20 => xCons r_19 fun c_21 r_22 => xStr (some c_21) fun s_23 => xCons r_22 fun c_24 r_25 => xSl (some c_24) fun a_26 n_27 c_28 e_29 => xNil r_25 ((hRow h (.ptr (some (i_0, o_1 + (Int.toNat x5) * 3))) 3 = hRow h (.ptr (some (i_0, o_1 + (Int.toNat x5) * 3))) 3) ∧ SCall pg n_laws_eqInstance [.agg [.str s_7, .str s_10, .slice a_13 n_14 c_15 e_16], .agg [.str s_20, .str s_23, .slice a_26 n_27 c_28 e_29]] h fun v_30 h_31 =>
 xBool (some v_30) fun b_32 => bcase (!b_32) (Q (.bool false) h_31) (R4 a0 n0 c0 e0 a1 n1 c1 e1 (IntKind.wrap .i64 (x5 + 1)) h_31)))))) (A4x0 Q h)
theorem L4den (Q : QT) (R4 : T4) (a0 : Pt) (n0 c0 : Nat) (e0 : Bool) (a1 : Pt) (n1 c1 : Nat) (e1 : Bool) (x5 : Int) (h : AHeap) (ht : L4t Q R4 a0 n0 c0 e0 a1 n1 c1 e1 x5 h) : Den pg fn.ntmps (C [1, 1, 0, 1, 0, 0]) [(0, .slice a0 n0 c0 e0), (1, .slice a1 n1 c1 e1), (5, .int .i64 x5)] h (K3 Q R4) :=
  den_Den (kp := kp) (@cast _ (den pg fn.ntmps kp (C [1, 1, 0, 1, 0, 0]) [(0, .slice a0 n0 c0 e0), (1, .slice a1 n1 c1 e1), (5, .int .i64 x5)] h (K3 Q R4)) (by kernel_rfl) ht)
theorem L4ind (Q : QT) (a0 : Pt) (n0 c0 : Nat) (e0 : Bool) (a1 : Pt) (n1 c1 : Nat) (e1 : Bool) {G : Type} (J : G → Int → AHeap → Prop) (m : G → Nat)
 (hr : ∀ (g : G) (x5 : Int) (h : AHeap), J g x5 h → ∀ (R4 : T4), (∀ g' (x5 : Int) (h : AHeap), m g' < m g → J g' x5 h → R4 a0 n0 c0 e0 a1 n1 c1 e1 x5 h) → L4t Q R4 a0 n0 c0 e0 a1 n1 c1 e1 x5 h)
 (g : G) (x5 : Int) (h : AHeap) (hj : J g x5 h) : L4 Q a0 n0 c0 e0 a1 n1 c1 e1 x5 h := by
  refine Loop.inv2 (fun g => E4 fun a0' n0' c0' e0' a1' n1' c1' e1' x5 h => a0 = a0' ∧ n0 = n0' ∧ c0 = c0' ∧ e0 = e0' ∧ a1 = a1' ∧ n1 = n1' ∧ c1 = c1' ∧ e1 = e1' ∧ J g x5 h) (fun g => E4 fun a0' n0' c0' e0' a1' n1' c1' e1' x5 h => a0 = a0' ∧ n0 = n0' ∧ c0 = c0' ∧ e0 = e0' ∧ a1 = a1' ∧ n1 = n1' ∧ c1 = c1' ∧ e1 = e1' ∧ ∃ g', m g' < m g ∧ J g' x5 h) m ?_ ?_ g ⟨rfl, rfl, rfl, rfl, rfl, rfl, rfl, rfl, hj⟩
  · intro g env h hi
    obtain ⟨a0', n0', c0', e0', a1', n1', c1', e1', x5, rfl, rfl, rfl, rfl, rfl, rfl, rfl, rfl, rfl, hj⟩ := E4elim hi
    exact L4den Q (fun a0' n0' c0' e0' a1' n1' c1' e1' x5 h => a0 = a0' ∧ n0 = n0' ∧ c0 = c0' ∧ e0 = e0' ∧ a1 = a1' ∧ n1 = n1' ∧ c1 = c1' ∧ e1 = e1' ∧ ∃ g', m g' < m g ∧ J g' x5 h) a0 n0 c0 e0 a1 n1 c1 e1 x5 h (hr g x5 h hj (fun a0' n0' c0' e0' a1' n1' c1' e1' x5 h => a0 = a0' ∧ n0 = n0' ∧ c0 = c0' ∧ e0 = e0' ∧ a1 = a1' ∧ n1 = n1' ∧ c1 = c1' ∧ e1 = e1' ∧ ∃ g', m g' < m g ∧ J g' x5 h) fun g' x5 h hlt hj => ⟨rfl, rfl, rfl, rfl, rfl, rfl, rfl, rfl, g', hlt, hj⟩)
  · intro g env h hi
    obtain ⟨a0', n0', c0', e0', a1', n1', c1', e1', x5, rfl, rfl, rfl, rfl, rfl, rfl, rfl, rfl, rfl, g', hlt, hj⟩ := E4elim hi
    exact ⟨g', hlt, rfl, rfl, rfl, rfl, rfl, rfl, rfl, rfl, hj⟩
theorem A4x0i (Q : QT) (h : AHeap) (ht :
 Q (.bool true) h) : A4x0 Q h :=
  At.mk (@cast _ ((K1 Q) (.exit 0) [(4, .undef)] h) (by kernel_rfl) ht)
theorem call (a0 : Pt) (n0 c0 : Nat) (e0 : Bool) (a1 : Pt) (n1 c1 : Nat) (e1 : Bool) (h : AHeap) (Q : QT) (ht :
 bcase (!((((n0 : Nat) : Int) : Int) == (((n1 : Nat) : Int)))) (Q (.bool false) h) (L4 Q a0 n0 c0 e0 a1 n1 c1 e1 0 h)) : SCall pg n_laws_eqInstanceS [.slice a0 n0 c0 e0, .slice a1 n1 c1 e1] h Q :=
  SCall.of_body kp (c := cod fn) (fn := fn) Go.Proofs.Tryz.func42 (by kernel_rfl) (by kernel_rfl) (Nat.le_of_ble_eq_true (by kernel_rfl))
    (@cast _ (den pg fn.ntmps kp (cod fn) (Env.args 0 [.slice a0 n0 c0 e0, .slice a1 n1 c1 e1]) h (KR Q)) (by kernel_rfl) ht)
end F_laws_eqInstanceS
/-! Function loop.example/instancesearch/laws.eqWorld -/
namespace F_laws_eqWorld
noncomputable abbrev fn : Func := Go.Proofs.Tryz.f12
def kp : Keeps := []
noncomputable def C (p : List Nat) : Code := (cod fn).sub p
def KR (Q : QT) : KT := retA pg fn.results.toList Q
theorem call (a0x0 : Pt) (n0x0 c0x0 : Nat) (e0x0 : Bool) (a0x1 : Pt) (n0x1 c0x1 : Nat) (e0x1 : Bool) (a1x0 : Pt) (n1x0 c1x0 : Nat) (e1x0 : Bool) (a1x1 : Pt) (n1x1 c1x1 : Nat) (e1x1 : Bool) (h : AHeap) (Q : QT) (ht :
 letH (h ++ [.cells t_impl_World [.slice a0x0 n0x0 c0x0 e0x0, .slice a0x1 n0x1 c0x1 e0x1] false]) fun h_0 => letH (h_0 ++ [.cells t_impl_World [.slice a1x0 n1x0 c1x0 e1x0, .slice a1x1 n1x1 c1x1 e1x1] false]) fun h_1 => xSl (hCell h_1 (.ptr (some (List.length h, 0 + 0)))) fun a_2 n_3 c_4 e_5 => xSl (hCell h_1 (.ptr (some (List.length h_0, 0 + 0)))) fun a_6 n_7 c_8 e_9 => SCall pg n_laws_eqClassS [.slice a_2 n_3 c_4 e_5, .slice a_6 n_7 c_8 e_9] h_1 fun v_10 h_11 =>
 xBool (some v_10) fun b_12 => bcase (!b_12) (Q (.bool false) h_11) (xSl (hCell h_11 (.ptr (some (List.length h, 0 + 1)))) fun a_13 n_14 c_15 e_16 => xSl (hCell h_11 (.ptr (some (List.length h_0, 0 + 1)))) fun a_17 n_18 c_19 e_20 => SCall pg n_laws_eqInstanceS [.slice a_13 n_14 c_15 e_16, .slice a_17 n_18 c_19 e_20] h_11 fun v_21 h_22 =>
 xBool (some v_21) fun b_23 => bcase (!b_23) (Q (.bool false) h_22) (Q (.bool true) h_22))) : SCall pg n_laws_eqWorld [.agg [.slice a0x0 n0x0 c0x0 e0x0, .slice a0x1 n0x1 c0x1 e0x1], .agg [.slice a1x0 n1x0 c1x0 e1x0, .slice a1x1 n1x1 c1x1 e1x1]] h Q :=
  SCall.of_body kp (c := cod fn) (fn := fn) Go.Proofs.Tryz.func12 (by kernel_rfl) (by kernel_rfl) (Nat.le_of_ble_eq_true (by kernel_rfl))
    (@cast _ (den pg fn.ntmps kp (cod fn) (Env.args 0 [.agg [.slice a0x0 n0x0 c0x0 e0x0, .slice a0x1 n0x1 c0x1 e0x1], .agg [.slice a1x0 n1x0 c1x0 e1x0, .slice a1x1 n1x1 c1x1 e1x1]]) h (KR Q)) (by kernel_rfl) ht)
end F_laws_eqWorld
end Go.Sim

/- Printed by wip/tool: what the functions' bodies do, in the words of 'den'. -/
set_option maxRecDepth 100000
set_option linter.unusedVariables false
namespace Go.Sim
open Go Go.RowKit
/-! Function loop.example/instancesearch/laws.szInstance -/
namespace F_laws_szInstance
noncomputable abbrev fn : Func := Go.Proofs.Tryz.f70
def kp : Keeps := []
noncomputable def C (p : List Nat) : Code := (cod fn).sub p
def KR (Q : QT) : KT := retA pg fn.results.toList Q
theorem call (x0x0 x0x1 : List Nat) (a0x2 : Pt) (n0x2 c0x2 : Nat) (e0x2 : Bool) (x1 : Int) (h : AHeap) (Q : QT) (ht :
 letH (h ++ [.cells t_laws_Instance [.str x0x0, .str x0x1, .slice a0x2 n0x2 c0x2 e0x2] false]) fun h_0 => xRow (hRow h_0 (.ptr (some (List.length h, 0 + 0))) 2) fun cs_1 => xCons cs_1 fun c_2 r_3 => xStr (some c_2) fun s_4 => xCons r_3 fun c_5 r_6 => xStr (some c_5) fun s_7 => xNil r_6 (SCall pg n_laws_szNeed [.agg [.str s_4, .str s_7], .int .i64 x1] h_0 fun v_8 h_9 =>
 xInt .i64 (some v_8) fun x_10 => bcase (decide ((x_10 : Int) < 0)) (Q (.int .i64 (-1)) h_9) (xSl (hCell h_9 (.ptr (some (List.length h, 0 + 2)))) fun a_11 n_12 c_13 e_14 => SCall pg n_laws_szNeedS [.slice a_11 n_12 c_13 e_14, .int .i64 x_10] h_9 fun v_15 h_16 =>
 xInt .i64 (some v_15) fun x_17 => bcase (decide ((x_17 : Int) < 0)) (Q (.int .i64 (-1)) h_16) (Q (.int .i64 x_17) h_16)))) : SCall pg n_laws_szInstance [.agg [.str x0x0, .str x0x1, .slice a0x2 n0x2 c0x2 e0x2], .int .i64 x1] h Q :=
  SCall.of_body kp (c := cod fn) (fn := fn) Go.Proofs.Tryz.func70 (by kernel_rfl) (by kernel_rfl) (Nat.le_of_ble_eq_true (by kernel_rfl))
    (@cast _ (den pg fn.ntmps kp (cod fn) (Env.args 0 [.agg [.str x0x0, .str x0x1, .slice a0x2 n0x2 c0x2 e0x2], .int .i64 x1]) h (KR Q)) (by kernel_rfl) ht)
end F_laws_szInstance
/-! Function loop.example/instancesearch/laws.szInstanceS -/
namespace F_laws_szInstanceS
noncomputable abbrev fn : Func := Go.Proofs.Tryz.f34
def kp : Keeps := [(3000005, [1, 4]), (1000005, [0, 1, 5])]
noncomputable def C (p : List Nat) : Code := (cod fn).sub p
def KR (Q : QT) : KT := retA pg fn.results.toList Q
abbrev T5 := Pt → Nat → Nat → Bool → Int → Int → AHeap → Prop
def E5 (R5 : T5) (env : Env) (h : AHeap) : Prop := eVal 0 env fun v env => xSl (some v) fun a0 n0 c0 e0 => eVal 1 env fun v env => eInt .i64 v fun x1 => eVal 5 env fun v env => eInt .i64 v fun x5 => eNil env (R5 a0 n0 c0 e0 x1 x5 h)
theorem E5elim {R5 : T5} {env : Env} {h : AHeap} (hi : E5 R5 env h) : ∃ a0, ∃ n0, ∃ c0, ∃ e0, ∃ x1, ∃ x5, env = [(0, .slice a0 n0 c0 e0), (1, .int .i64 x1), (5, .int .i64 x5)] ∧ R5 a0 n0 c0 e0 x1 x5 h := by
  unfold E5 at hi
  have hi0 := hi
  clear hi
  obtain ⟨v, env, rfl, hi1⟩ := eVal_elim hi0
  obtain ⟨a0, n0, c0, e0, rfl, hi2⟩ := xSl_elim hi1
  obtain ⟨v, env, rfl, hi3⟩ := eVal_elim hi2
  obtain ⟨x1, rfl, hi4⟩ := eInt_elim hi3
  obtain ⟨v, env, rfl, hi5⟩ := eVal_elim hi4
  obtain ⟨x5, rfl, hi6⟩ := eInt_elim hi5
  obtain ⟨rfl, hi7⟩ := eNil_elim hi6
  have hi := hi7
  exact ⟨a0, n0, c0, e0, x1, x5, rfl, hi⟩
def K0 (Q : QT) : KT := andThen (fun env' h' => (match kp.find 4000010 with | some ks => Den pg fn.ntmps (C [1, 1, 1, 1]) (env'.keep ks) h' (KR Q) | none => den pg fn.ntmps kp (C [1, 1, 1, 1]) env' h' (KR Q))) (KR Q)
def K1 (Q : QT) : KT := onExit 0 (K0 Q)
def K2 (Q : QT) : KT := left kp 5 (K1 Q)
def K3 (Q : QT) (R5 : T5) : KT := rnd ((kp.find 1000005).getD []) (E5 R5) (K2 Q)
def L5 (Q : QT) (a0 : Pt) (n0 c0 : Nat) (e0 : Bool) (x1 x5 : Int) (h : AHeap) : Prop := Loop (Den pg fn.ntmps (C [1, 1, 1, 0, 1, 0, 0])) ((kp.find 1000005).getD []) (K2 Q) [(0, .slice a0 n0 c0 e0), (1, .int .i64 x1), (5, .int .i64 x5)] h
def A5x0 (Q : QT) (x1 : Int) (h : AHeap) : Prop := At (K1 Q) (.exit 0) [(1, .int .i64 x1), (4, .undef)] h
def L5t (Q : QT) (R5 : T5) (a0 : Pt) (n0 c0 : Nat) (e0 : Bool) (x1 x5 : Int) (h : AHeap) : Prop :=
 bcase (decide ((x5 : Int) < (((n0 : Nat) : Int)))) ((0 ≤ (x5 : Int) ∧ (x5 : Int) < (n0 : Nat)) ∧ (xSome a0 fun i_0 o_1 => xRow (hRow h (.ptr (some (i_0, o_1 + (Int.toNat x5) * 3))) 3) fun cs_2 => xCons cs_2 fun c_3 r_4 => xStr (some c_3) fun s_5 => xCons r_4 fun c_6 r_7 => xStr (some c_6) fun s_8 => xCons r_7 fun c_9 r_10 => xSl (some c_9) fun a_11 n_12 c_13 e_14 => xNil r_10 (SCall pg n_laws_szInstance [.agg [.str s_5, .str s_8, .slice a_11 n_12 c_13 e_14], .int .i64 x1] h fun v_15 h_16 =>
 xInt .i64 (some v_15) fun x_17 => bcase (decide ((x_17 : Int) < 0)) (Q (.int .i64 (-1)) h_16) (R5 a0 n0 c0 e0 x_17 (IntKind.wrap .i64 (x5 + 1)) h_16)))) (A5x0 Q x1 h)
theorem L5den (Q : QT) (R5 : T5) (a0 : Pt) (n0 c0 : Nat) (e0 : Bool) (x1 x5 : Int) (h : AHeap) (ht : L5t Q R5 a0 n0 c0 e0 x1 x5 h) : Den pg fn.ntmps (C [1, 1, 1, 0, 1, 0, 0]) [(0, .slice a0 n0 c0 e0), (1, .int .i64 x1), (5, .int .i64 x5)] h (K3 Q R5) :=
  den_Den (kp := kp) (@cast _ (den pg fn.ntmps kp (C [1, 1, 1, 0, 1, 0, 0]) [(0, .slice a0 n0 c0 e0), (1, .int .i64 x1), (5, .int .i64 x5)] h (K3 Q R5)) (by kernel_rfl) ht)
theorem L5ind (Q : QT) (a0 : Pt) (n0 c0 : Nat) (e0 : Bool) {G : Type} (J : G → Int → Int → AHeap → Prop) (m : G → Nat)
 (hr : ∀ (g : G) (x1 x5 : Int) (h : AHeap), J g x1 x5 h → ∀ (R5 : T5), (∀ g' (x1 x5 : Int) (h : AHeap), m g' < m g → J g' x1 x5 h → R5 a0 n0 c0 e0 x1 x5 h) → L5t Q R5 a0 n0 c0 e0 x1 x5 h)
 (g : G) (x1 x5 : Int) (h : AHeap) (hj : J g x1 x5 h) : L5 Q a0 n0 c0 e0 x1 x5 h := by
  refine Loop.inv2 (fun g => E5 fun a0' n0' c0' e0' x1 x5 h => a0 = a0' ∧ n0 = n0' ∧ c0 = c0' ∧ e0 = e0' ∧ J g x1 x5 h) (fun g => E5 fun a0' n0' c0' e0' x1 x5 h => a0 = a0' ∧ n0 = n0' ∧ c0 = c0' ∧ e0 = e0' ∧ ∃ g', m g' < m g ∧ J g' x1 x5 h) m ?_ ?_ g ⟨rfl, rfl, rfl, rfl, hj⟩
  · intro g env h hi
    obtain ⟨a0', n0', c0', e0', x1, x5, rfl, rfl, rfl, rfl, rfl, hj⟩ := E5elim hi
    exact L5den Q (fun a0' n0' c0' e0' x1 x5 h => a0 = a0' ∧ n0 = n0' ∧ c0 = c0' ∧ e0 = e0' ∧ ∃ g', m g' < m g ∧ J g' x1 x5 h) a0 n0 c0 e0 x1 x5 h (hr g x1 x5 h hj (fun a0' n0' c0' e0' x1 x5 h => a0 = a0' ∧ n0 = n0' ∧ c0 = c0' ∧ e0 = e0' ∧ ∃ g', m g' < m g ∧ J g' x1 x5 h) fun g' x1 x5 h hlt hj => ⟨rfl, rfl, rfl, rfl, g', hlt, hj⟩)
  · intro g env h hi
    obtain ⟨a0', n0', c0', e0', x1, x5, rfl, rfl, rfl, rfl, rfl, g', hlt, hj⟩ := E5elim hi
    exact ⟨g', hlt, rfl, rfl, rfl, rfl, hj⟩
theorem A5x0i (Q : QT) (x1 : Int) (h : AHeap) (ht :
 Q (.int .i64 x1) h) : A5x0 Q x1 h :=
  At.mk (@cast _ ((K1 Q) (.exit 0) [(1, .int .i64 x1), (4, .undef)] h) (by kernel_rfl) ht)
theorem call (a0 : Pt) (n0 c0 : Nat) (e0 : Bool) (x1 : Int) (h : AHeap) (Q : QT) (ht :
 bcase (decide (((IntKind.wrap .i64 (x1 - (((n0 : Nat) : Int)))) : Int) < 0)) (Q (.int .i64 (-1)) h) (L5 Q a0 n0 c0 e0 (IntKind.wrap .i64 (x1 - (((n0 : Nat) : Int)))) 0 h)) : SCall pg n_laws_szInstanceS [.slice a0 n0 c0 e0, .int .i64 x1] h Q :=
  SCall.of_body kp (c := cod fn) (fn := fn) Go.Proofs.Tryz.func34 (by kernel_rfl) (by kernel_rfl) (Nat.le_of_ble_eq_true (by kernel_rfl))
    (@cast _ (den pg fn.ntmps kp (cod fn) (Env.args 0 [.slice a0 n0 c0 e0, .int .i64 x1]) h (KR Q)) (by kernel_rfl) ht)
end F_laws_szInstanceS
/-! Function loop.example/instancesearch/laws.szWorld -/
namespace F_laws_szWorld
noncomputable abbrev fn : Func := Go.Proofs.Tryz.f8
def kp : Keeps := []
noncomputable def C (p : List Nat) : Code := (cod fn).sub p
def KR (Q : QT) : KT := retA pg fn.results.toList Q
theorem call (a0x0 : Pt) (n0x0 c0x0 : Nat) (e0x0 : Bool) (a0x1 : Pt) (n0x1 c0x1 : Nat) (e0x1 : Bool) (x1 : Int) (h : AHeap) (Q : QT) (ht :
 letH (h ++ [.cells t_laws_World [.slice a0x0 n0x0 c0x0 e0x0, .slice a0x1 n0x1 c0x1 e0x1] false]) fun h_0 => xSl (hCell h_0 (.ptr (some (List.length h, 0 + 0)))) fun a_1 n_2 c_3 e_4 => SCall pg n_laws_szClassS [.slice a_1 n_2 c_3 e_4, .int .i64 x1] h_0 fun v_5 h_6 =>
 xInt .i64 (some v_5) fun x_7 => bcase (decide ((x_7 : Int) < 0)) (Q (.int .i64 (-1)) h_6) (xSl (hCell h_6 (.ptr (some (List.length h, 0 + 1)))) fun a_8 n_9 c_10 e_11 => SCall pg n_laws_szInstanceS [.slice a_8 n_9 c_10 e_11, .int .i64 x_7] h_6 fun v_12 h_13 =>
 xInt .i64 (some v_12) fun x_14 => bcase (decide ((x_14 : Int) < 0)) (Q (.int .i64 (-1)) h_13) (Q (.int .i64 x_14) h_13))) : SCall pg n_laws_szWorld [.agg [.slice a0x0 n0x0 c0x0 e0x0, .slice a0x1 n0x1 c0x1 e0x1], .int .i64 x1] h Q :=
  SCall.of_body kp (c := cod fn) (fn := fn) Go.Proofs.Tryz.func8 (by kernel_rfl) (by kernel_rfl) (Nat.le_of_ble_eq_true (by kernel_rfl))
    (@cast _ (den pg fn.ntmps kp (cod fn) (Env.args 0 [.agg [.slice a0x0 n0x0 c0x0 e0x0, .slice a0x1 n0x1 c0x1 e0x1], .int .i64 x1]) h (KR Q)) (by kernel_rfl) ht)
end F_laws_szWorld
/-! Function loop.example/instancesearch/laws.toInstance -/
namespace F_laws_toInstance
noncomputable abbrev fn : Func := Go.Proofs.Tryz.f75
def kp : Keeps := []
noncomputable def C (p : List Nat) : Code := (cod fn).sub p
def KR (Q : QT) : KT := retA pg fn.results.toList Q
theorem call (x0x0 x0x1 : List Nat) (a0x2 : Pt) (n0x2 c0x2 : Nat) (e0x2 : Bool) (h : AHeap) (Q : QT) (ht :
 letH (h ++ [.cells t_laws_Instance [.str x0x0, .str x0x1, .slice a0x2 n0x2 c0x2 e0x2] false]) fun h_0 => letH (h_0 ++ [.cells t_impl_Instance [.str [], .str [], .slice none 0 0 true] false]) fun h_1 => letH (h_1 ++ [.cells t_impl_Instance [.str [], .str [], .slice none 0 0 true] false]) fun h_2 => xRow (hRow h_2 (.ptr (some (List.length h, 0 + 0))) 2) fun cs_3 => xCons cs_3 fun c_4 r_5 => xStr (some c_4) fun s_6 => xCons r_5 fun c_7 r_8 => xStr (some c_7) fun s_9 => xNil r_8 (SCall pg n_laws_toNeed [.agg [.str s_6, .str s_9]] h_2 fun v_10 h_11 =>
 xAgg v_10 fun cs_12 => xCons cs_12 fun c_13 r_14 => xStr (some c_13) fun s_15 => xCons r_14 fun c_16 r_17 => xStr (some c_16) fun s_18 => xNil r_17 (xHeap (hStore h_11 (.ptr (some (List.length h_1, 0 + 0))) [.str s_15, .str s_18]) fun h_19 => xSl (hCell h_19 (.ptr (some (List.length h, 0 + 2)))) fun a_20 n_21 c_22 e_23 => SCall pg n_laws_toNeedS [.slice a_20 n_21 c_22 e_23] h_19 fun v_24 h_25 =>
 xSl (some v_24) fun a_26 n_27 c_28 e_29 => xHeap (hStore h_25 (.ptr (some (List.length h_1, 0 + 2))) [.slice a_26 n_27 c_28 e_29]) fun h_30 => xRow (hRow h_30 (.ptr (some (List.length h_1, 0))) 3) fun cs_31 => xCons cs_31 fun c_32 r_33 => xStr (some c_32) fun s_34 => xCons r_33 fun c_35 r_36 => xStr (some c_35) fun s_37 => xCons r_36 fun c_38 r_39 => xSl (some c_38) fun a_40 n_41 c_42 e_43 => xNil r_39 (xHeap (hStore h_30 (.ptr (some (List.length h_0, 0))) [.str s_34, .str s_37, .slice a_40 n_41 c_42 e_43]) fun h_44 => xRow (hRow h_44 (.ptr (some (List.length h_0, 0))) 3) fun cs_45 => xCons cs_45 fun c_46 r_47 => xStr (some c_46) fun s_48 => xCons r_47 fun c_49 r_50 => xStr (some c_49) fun s_51 => xCons r_50 fun c_52 r_53 => xSl (some c_52) fun a_54 n_55 c_56 e_57 => xNil r_53 (Q (.agg [.str s_48, .str s_51, .slice a_54 n_55 c_56 e_57]) h_44))))) : SCall pg n_laws_toInstance [.agg [.str x0x0, .str x0x1, .slice a0x2 n0x2 c0x2 e0x2]] h Q :=
  SCall.of_body kp (c := cod fn) (fn := fn) Go.Proofs.Tryz.func75 (by kernel_rfl) (by kernel_rfl) (Nat.le_of_ble_eq_true (by kernel_rfl))
    (@cast _ (den pg fn.ntmps kp (cod fn) (Env.args 0 [.agg [.str x0x0, .str x0x1, .slice a0x2 n0x2 c0x2 e0x2]]) h (KR Q)) (by kernel_rfl) ht)
end F_laws_toInstance
end Go.Sim
