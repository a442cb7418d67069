/- A part of the proof of a statement of this seat: see the text that holds the theorem. No condition. -/
import Derived.Test.YtpbfjfcildpehaaGreatNm
set_option linter.unusedVariables false
set_option linter.unusedSimpArgs false
set_option linter.all false
/- Printed by wip/tool: what the functions' bodies do, in the words of 'den'. -/
set_option maxRecDepth 100000
set_option linter.unusedVariables false
namespace Go.Sim
open Go Go.RowKit
/-! Function loop.example/instancesearch/impl.WorldValid$1 -/
namespace F_impl_WorldValid_lit1
noncomputable abbrev fn : Func := Go.Proofs.Tryz.f64
def kp : Keeps := []
noncomputable def C (p : List Nat) : Code := (cod fn).sub p
def KR (Q : QT) : KT := retA pg fn.results.toList Q
theorem call (x0x0 x0x1 : List Nat) (a0x2 : Pt) (n0x2 c0x2 : Nat) (e0x2 : Bool) (v1 : AVal) (h : AHeap) (Q : QT) (ht :
 letH (h ++ [.cells t_impl_Instance [.str x0x0, .str x0x1, .slice a0x2 n0x2 c0x2 e0x2] false]) fun h_0 => xRow (hRow h_0 (v1) 2) fun cs_1 => xCons cs_1 fun c_2 r_3 => xSl (some c_2) fun a_4 n_5 c_6 e_7 => xCons r_3 fun c_8 r_9 => xSl (some c_8) fun a_10 n_11 c_12 e_13 => xNil r_9 (xRow (hRow h_0 (.ptr (some (List.length h, 0))) 3) fun cs_14 => xCons cs_14 fun c_15 r_16 => xStr (some c_15) fun s_17 => xCons r_16 fun c_18 r_19 => xStr (some c_18) fun s_20 => xCons r_19 fun c_21 r_22 => xSl (some c_21) fun a_23 n_24 c_25 e_26 => xNil r_22 (SCall pg n_impl_InstanceValid [.agg [.slice a_4 n_5 c_6 e_7, .slice a_10 n_11 c_12 e_13], .agg [.str s_17, .str s_20, .slice a_23 n_24 c_25 e_26]] h_0 fun v_27 h_28 =>
 xBool (some v_27) fun b_29 => Q (.bool (!b_29)) h_28))) : SCall pg n_impl_WorldValid_lit1 [.agg [.str x0x0, .str x0x1, .slice a0x2 n0x2 c0x2 e0x2], v1] h Q :=
  SCall.of_body kp (c := cod fn) (fn := fn) Go.Proofs.Tryz.func64 (by kernel_rfl) (by kernel_rfl) (Nat.le_of_ble_eq_true (by kernel_rfl))
    (@cast _ (den pg fn.ntmps kp (cod fn) (Env.args 0 [.agg [.str x0x0, .str x0x1, .slice a0x2 n0x2 c0x2 e0x2], v1]) h (KR Q)) (by kernel_rfl) ht)
end F_impl_WorldValid_lit1
/-! Function slices.IndexFunc[[]loop.example/instancesearch/impl.Instance,loop.example/instancesearch/impl.Instance] -/
namespace F_slices_IndexFunc_L_impl_Instance_impl_Instance__impl_WorldValid_lit1
noncomputable abbrev fn : Func := Go.Proofs.Tryz.f107
def kp : Keeps := [(3000002, [4]), (1000002, [0, 1, 7, 8])]
noncomputable def C (p : List Nat) : Code := (cod fn).sub p
def KR (Q : QT) : KT := retA pg fn.results.toList Q
abbrev T2 := Pt → Nat → Nat → Bool → AVal → Int → Int → AHeap → Prop
def E2 (R2 : T2) (env : Env) (h : AHeap) : Prop := eVal 0 env fun v env => xSl (some v) fun a0 n0 c0 e0 => eVal 1 env fun v env => eFn n_impl_WorldValid_lit1 v fun cs => xCons cs fun c cs' => xAny (some c) fun v1x0 => xNil cs' (eVal 7 env fun v env => eInt .i64 v fun x7 => eVal 8 env fun v env => eInt .i64 v fun x8 => eNil env (R2 a0 n0 c0 e0 v1x0 x7 x8 h))
theorem E2elim {R2 : T2} {env : Env} {h : AHeap} (hi : E2 R2 env h) : ∃ a0, ∃ n0, ∃ c0, ∃ e0, ∃ v1x0, ∃ x7, ∃ x8, env = [(0, .slice a0 n0 c0 e0), (1, .fn n_impl_WorldValid_lit1 [v1x0]), (7, .int .i64 x7), (8, .int .i64 x8)] ∧ R2 a0 n0 c0 e0 v1x0 x7 x8 h := by
  unfold E2 at hi
  have hi0 := hi
  clear hi
  obtain ⟨v, env, rfl, hi1⟩ := eVal_elim hi0
  obtain ⟨a0, n0, c0, e0, rfl, hi2⟩ := xSl_elim hi1
  obtain ⟨v, env, rfl, hi3⟩ := eVal_elim hi2
  obtain ⟨cs, rfl, hi4⟩ := eFn_elim hi3
  obtain ⟨c, cs', rfl, hi5⟩ := xCons_elim hi4
  obtain ⟨v1x0, hx, hi6⟩ := xAny_elim hi5
  replace hx := (Option.some.inj hx).symm
  subst hx
  obtain ⟨rfl, hi7⟩ := xNil_elim hi6
  obtain ⟨v, env, rfl, hi8⟩ := eVal_elim hi7
  obtain ⟨x7, rfl, hi9⟩ := eInt_elim hi8
  obtain ⟨v, env, rfl, hi10⟩ := eVal_elim hi9
  obtain ⟨x8, rfl, hi11⟩ := eInt_elim hi10
  obtain ⟨rfl, hi12⟩ := eNil_elim hi11
  have hi := hi12
  exact ⟨a0, n0, c0, e0, v1x0, x7, x8, rfl, hi⟩
def K0 (Q : QT) : KT := andThen (fun env' h' => (match kp.find 4000007 with | some ks => Den pg fn.ntmps (C [1, 1]) (env'.keep ks) h' (KR Q) | none => den pg fn.ntmps kp (C [1, 1]) env' h' (KR Q))) (KR Q)
def K1 (Q : QT) : KT := onExit 0 (K0 Q)
def K2 (Q : QT) : KT := left kp 2 (K1 Q)
def K3 (Q : QT) (R2 : T2) : KT := rnd ((kp.find 1000002).getD []) (E2 R2) (K2 Q)
def L2 (Q : QT) (a0 : Pt) (n0 c0 : Nat) (e0 : Bool) (v1x0 : AVal) (x7 x8 : Int) (h : AHeap) : Prop := Loop (Den pg fn.ntmps (C [1, 0, 1, 0, 0])) ((kp.find 1000002).getD []) (K2 Q) [(0, .slice a0 n0 c0 e0), (1, .fn n_impl_WorldValid_lit1 [v1x0]), (7, .int .i64 x7), (8, .int .i64 x8)] h
def A2x0 (Q : QT) (h : AHeap) : Prop := At (K1 Q) (.exit 0) [(4, .undef)] h
def L2t (Q : QT) (R2 : T2) (a0 : Pt) (n0 c0 : Nat) (e0 : Bool) (v1x0 : AVal) (x7 x8 : Int) (h : AHeap) : Prop :=
 bcase (decide ((x8 : Int) < x7)) ((0 ≤ (x8 : Int) ∧ (x8 : Int) < (n0 : Nat)) ∧ (xSome a0 fun i_0 o_1 => xRow (hRow h (.ptr (some (i_0, o_1 + (Int.toNat x8) * 3))) 3) fun cs_2 => xCons cs_2 fun c_3 r_4 => xStr (some c_3) fun s_5 => xCons r_4 fun c_6 r_7 => xStr (some c_6) fun s_8 => xCons r_7 fun c_9 r_10 => xSl (some c_9) fun a_11 n_12 c_13 e_14 => xNil r_10 (SCall pg n_impl_WorldValid_lit1 [.agg [.str s_5, .str s_8, .slice a_11 n_12 c_13 e_14], v1x0] h fun v_15 h_16 =>
 xBool (some v_15) fun b_17 => bcase b_17 (Q (.int .i64 x8) h_16) (R2 a0 n0 c0 e0 v1x0 x7 (IntKind.wrap .i64 (x8 + 1)) h_16)))) (A2x0 Q h)
theorem L2den (Q : QT) (R2 : T2) (a0 : Pt) (n0 c0 : Nat) (e0 : Bool) (v1x0 : AVal) (x7 x8 : Int) (h : AHeap) (ht : L2t Q R2 a0 n0 c0 e0 v1x0 x7 x8 h) : Den pg fn.ntmps (C [1, 0, 1, 0, 0]) [(0, .slice a0 n0 c0 e0), (1, .fn n_impl_WorldValid_lit1 [v1x0]), (7, .int .i64 x7), (8, .int .i64 x8)] h (K3 Q R2) :=
  den_Den (kp := kp) (@cast _ (den pg fn.ntmps kp (C [1, 0, 1, 0, 0]) [(0, .slice a0 n0 c0 e0), (1, .fn n_impl_WorldValid_lit1 [v1x0]), (7, .int .i64 x7), (8, .int .i64 x8)] h (K3 Q R2)) (by kernel_rfl) ht)
theorem L2ind (Q : QT) (a0 : Pt) (n0 c0 : Nat) (e0 : Bool) (v1x0 : AVal) (x7 : Int) {G : Type} (J : G → Int → AHeap → Prop) (m : G → Nat)
 (hr : ∀ (g : G) (x8 : Int) (h : AHeap), J g x8 h → ∀ (R2 : T2), (∀ g' (x8 : Int) (h : AHeap), m g' < m g → J g' x8 h → R2 a0 n0 c0 e0 v1x0 x7 x8 h) → L2t Q R2 a0 n0 c0 e0 v1x0 x7 x8 h)
 (g : G) (x8 : Int) (h : AHeap) (hj : J g x8 h) : L2 Q a0 n0 c0 e0 v1x0 x7 x8 h := by
  refine Loop.inv2 (fun g => E2 fun a0' n0' c0' e0' v1x0' x7' x8 h => a0 = a0' ∧ n0 = n0' ∧ c0 = c0' ∧ e0 = e0' ∧ v1x0 = v1x0' ∧ x7 = x7' ∧ J g x8 h) (fun g => E2 fun a0' n0' c0' e0' v1x0' x7' x8 h => a0 = a0' ∧ n0 = n0' ∧ c0 = c0' ∧ e0 = e0' ∧ v1x0 = v1x0' ∧ x7 = x7' ∧ ∃ g', m g' < m g ∧ J g' x8 h) m ?_ ?_ g ⟨rfl, rfl, rfl, rfl, rfl, rfl, hj⟩
  · intro g env h hi
    obtain ⟨a0', n0', c0', e0', v1x0', x7', x8, rfl, rfl, rfl, rfl, rfl, rfl, rfl, hj⟩ := E2elim hi
    exact L2den Q (fun a0' n0' c0' e0' v1x0' x7' x8 h => a0 = a0' ∧ n0 = n0' ∧ c0 = c0' ∧ e0 = e0' ∧ v1x0 = v1x0' ∧ x7 = x7' ∧ ∃ g', m g' < m g ∧ J g' x8 h) a0 n0 c0 e0 v1x0 x7 x8 h (hr g x8 h hj (fun a0' n0' c0' e0' v1x0' x7' x8 h => a0 = a0' ∧ n0 = n0' ∧ c0 = c0' ∧ e0 = e0' ∧ v1x0 = v1x0' ∧ x7 = x7' ∧ ∃ g', m g' < m g ∧ J g' x8 h) fun g' x8 h hlt hj => ⟨rfl, rfl, rfl, rfl, rfl, rfl, g', hlt, hj⟩)
  · intro g env h hi
    obtain ⟨a0', n0', c0', e0', v1x0', x7', x8, rfl, rfl, rfl, rfl, rfl, rfl, rfl, g', hlt, hj⟩ := E2elim hi
    exact ⟨g', hlt, rfl, rfl, rfl, rfl, rfl, rfl, hj⟩
theorem A2x0i (Q : QT) (h : AHeap) (ht :
 Q (.int .i64 (-1)) h) : A2x0 Q h :=
  At.mk (@cast _ ((K1 Q) (.exit 0) [(4, .undef)] h) (by kernel_rfl) ht)
theorem call (a0 : Pt) (n0 c0 : Nat) (e0 : Bool) (v1x0 : AVal) (h : AHeap) (Q : QT) (ht :
 L2 Q a0 n0 c0 e0 v1x0 (((n0 : Nat) : Int)) 0 h) : SCall pg n_slices_IndexFunc_L_impl_Instance_impl_Instance [.slice a0 n0 c0 e0, .fn n_impl_WorldValid_lit1 [v1x0]] h Q :=
  SCall.of_body kp (c := cod fn) (fn := fn) Go.Proofs.Tryz.func107 (by kernel_rfl) (by kernel_rfl) (Nat.le_of_ble_eq_true (by kernel_rfl))
    (@cast _ (den pg fn.ntmps kp (cod fn) (Env.args 0 [.slice a0 n0 c0 e0, .fn n_impl_WorldValid_lit1 [v1x0]]) h (KR Q)) (by kernel_rfl) ht)
end F_slices_IndexFunc_L_impl_Instance_impl_Instance__impl_WorldValid_lit1
/-! Function loop.example/instancesearch/impl.WorldValid -/
namespace F_impl_WorldValid
noncomputable abbrev fn : Func := Go.Proofs.Tryz.f33
def kp : Keeps := []
noncomputable def C (p : List Nat) : Code := (cod fn).sub p
def KR (Q : QT) : KT := retA pg fn.results.toList Q
theorem call (a0x0 : Pt) (n0x0 c0x0 : Nat) (e0x0 : Bool) (a0x1 : Pt) (n0x1 c0x1 : Nat) (e0x1 : Bool) (h : AHeap) (Q : QT) (ht :
 letH (h ++ [.cells t_impl_World [.slice a0x0 n0x0 c0x0 e0x0, .slice a0x1 n0x1 c0x1 e0x1] false]) fun h_0 => xRow (hRow h_0 (.ptr (some (List.length h, 0))) 2) fun cs_1 => xCons cs_1 fun c_2 r_3 => xSl (some c_2) fun a_4 n_5 c_6 e_7 => xCons r_3 fun c_8 r_9 => xSl (some c_8) fun a_10 n_11 c_12 e_13 => xNil r_9 (SCall pg n_impl_classesOk [.agg [.slice a_4 n_5 c_6 e_7, .slice a_10 n_11 c_12 e_13]] h_0 fun v_14 h_15 =>
 xBool (some v_14) fun b_16 => bcase b_16 (xSl (hCell h_15 (.ptr (some (List.length h, 0 + 1)))) fun a_17 n_18 c_19 e_20 => bcase (decide (((((n_18 : Nat) : Int)) : Int) ≤ 10)) (xSl (hCell h_15 (.ptr (some (List.length h, 0 + 1)))) fun a_21 n_22 c_23 e_24 => SCall pg n_slices_ContainsFunc_L_impl_Instance_impl_Instance [.slice a_21 n_22 c_23 e_24, .fn n_impl_WorldValid_lit1 [.ptr (some (List.length h, 0))]] h_15 fun v_25 h_26 =>
 xBool (some v_25) fun b_27 => Q (.bool (!b_27)) h_26) (Q (.bool false) h_15)) (Q (.bool false) h_15))) : SCall pg n_impl_WorldValid [.agg [.slice a0x0 n0x0 c0x0 e0x0, .slice a0x1 n0x1 c0x1 e0x1]] h Q :=
  SCall.of_body kp (c := cod fn) (fn := fn) Go.Proofs.Tryz.func33 (by kernel_rfl) (by kernel_rfl) (Nat.le_of_ble_eq_true (by kernel_rfl))
    (@cast _ (den pg fn.ntmps kp (cod fn) (Env.args 0 [.agg [.slice a0x0 n0x0 c0x0 e0x0, .slice a0x1 n0x1 c0x1 e0x1]]) h (KR Q)) (by kernel_rfl) ht)
end F_impl_WorldValid
/-! Function slices.ContainsFunc[[]loop.example/instancesearch/impl.Instance,loop.example/instancesearch/impl.Instance] -/
namespace F_slices_ContainsFunc_L_impl_Instance_impl_Instance__impl_WorldValid_lit1
noncomputable abbrev fn : Func := Go.Proofs.Tryz.f63
def kp : Keeps := []
noncomputable def C (p : List Nat) : Code := (cod fn).sub p
def KR (Q : QT) : KT := retA pg fn.results.toList Q
theorem call (a0 : Pt) (n0 c0 : Nat) (e0 : Bool) (v1x0 : AVal) (h : AHeap) (Q : QT) (ht :
 SCall pg n_slices_IndexFunc_L_impl_Instance_impl_Instance [.slice a0 n0 c0 e0, .fn n_impl_WorldValid_lit1 [v1x0]] h fun v_0 h_1 =>
 xInt .i64 (some v_0) fun x_2 => Q (.bool (decide ((x_2 : Int) ≥ 0))) h_1) : SCall pg n_slices_ContainsFunc_L_impl_Instance_impl_Instance [.slice a0 n0 c0 e0, .fn n_impl_WorldValid_lit1 [v1x0]] h Q :=
  SCall.of_body kp (c := cod fn) (fn := fn) Go.Proofs.Tryz.func63 (by kernel_rfl) (by kernel_rfl) (Nat.le_of_ble_eq_true (by kernel_rfl))
    (@cast _ (den pg fn.ntmps kp (cod fn) (Env.args 0 [.slice a0 n0 c0 e0, .fn n_impl_WorldValid_lit1 [v1x0]]) h (KR Q)) (by kernel_rfl) ht)
end F_slices_ContainsFunc_L_impl_Instance_impl_Instance__impl_WorldValid_lit1
/-! Function loop.example/instancesearch/spec.WorldValid -/
namespace F_spec_WorldValid
noncomputable abbrev fn : Func := Go.Proofs.Tryz.f28
def kp : Keeps := [(3000002, [1, 2]), (1000002, [1, 6, 7, 8])]
noncomputable def C (p : List Nat) : Code := (cod fn).sub p
def KR (Q : QT) : KT := retA pg fn.results.toList Q
abbrev T2 := Nat → Nat → Pt → Nat → Nat → Bool → Int → Int → AHeap → Prop
def E2 (R2 : T2) (env : Env) (h : AHeap) : Prop := eVal 1 env fun v env => xPtr (some v) fun a => xSome a fun i1 o1 => eVal 6 env fun v env => xSl (some v) fun a6 n6 c6 e6 => eVal 7 env fun v env => eInt .i64 v fun x7 => eVal 8 env fun v env => eInt .i64 v fun x8 => eNil env (R2 i1 o1 a6 n6 c6 e6 x7 x8 h)
theorem E2elim {R2 : T2} {env : Env} {h : AHeap} (hi : E2 R2 env h) : ∃ i1, ∃ o1, ∃ a6, ∃ n6, ∃ c6, ∃ e6, ∃ x7, ∃ x8, env = [(1, .ptr (some (i1, o1))), (6, .slice a6 n6 c6 e6), (7, .int .i64 x7), (8, .int .i64 x8)] ∧ R2 i1 o1 a6 n6 c6 e6 x7 x8 h := by
  unfold E2 at hi
  have hi0 := hi
  clear hi
  obtain ⟨v, env, rfl, hi1⟩ := eVal_elim hi0
  obtain ⟨a, rfl, hi2⟩ := xPtr_elim hi1
  obtain ⟨i1, o1, rfl, hi3⟩ := xSome_elim hi2
  obtain ⟨v, env, rfl, hi4⟩ := eVal_elim hi3
  obtain ⟨a6, n6, c6, e6, rfl, hi5⟩ := xSl_elim hi4
  obtain ⟨v, env, rfl, hi6⟩ := eVal_elim hi5
  obtain ⟨x7, rfl, hi7⟩ := eInt_elim hi6
  obtain ⟨v, env, rfl, hi8⟩ := eVal_elim hi7
  obtain ⟨x8, rfl, hi9⟩ := eInt_elim hi8
  obtain ⟨rfl, hi10⟩ := eNil_elim hi9
  have hi := hi10
  exact ⟨i1, o1, a6, n6, c6, e6, x7, x8, rfl, hi⟩
def K0 (Q : QT) : KT := andThen (fun env' h' => (match kp.find 4000007 with | some ks => Den pg fn.ntmps (C [1, 1]) (env'.keep ks) h' (KR Q) | none => den pg fn.ntmps kp (C [1, 1]) env' h' (KR Q))) (KR Q)
def K1 (Q : QT) : KT := onExit 0 (K0 Q)
def K2 (Q : QT) : KT := left kp 2 (K1 Q)
def K3 (Q : QT) (R2 : T2) : KT := rnd ((kp.find 1000002).getD []) (E2 R2) (K2 Q)
def L2 (Q : QT) (i1 o1 : Nat) (a6 : Pt) (n6 c6 : Nat) (e6 : Bool) (x7 x8 : Int) (h : AHeap) : Prop := Loop (Den pg fn.ntmps (C [1, 0, 1, 0, 0])) ((kp.find 1000002).getD []) (K2 Q) [(1, .ptr (some (i1, o1))), (6, .slice a6 n6 c6 e6), (7, .int .i64 x7), (8, .int .i64 x8)] h
def A2x0 (Q : QT) (i1 o1 : Nat) (h : AHeap) : Prop := At (K1 Q) (.exit 0) [(1, .ptr (some (i1, o1))), (2, .undef)] h
def L2t (Q : QT) (R2 : T2) (i1 o1 : Nat) (a6 : Pt) (n6 c6 : Nat) (e6 : Bool) (x7 x8 : Int) (h : AHeap) : Prop :=
 bcase (decide ((x8 : Int) < x7)) ((0 ≤ (x8 : Int) ∧ (x8 : Int) < (n6 : Nat)) ∧ (xSome a6 fun i_5 o_6 => xRow (hRow h (.ptr (some (i_5, o_6 + (Int.toNat x8) * 3))) 3) fun cs_7 => xCons cs_7 fun c_8 r_9 => xStr (some c_8) fun s_10 => xCons r_9 fun c_11 r_12 => xStr (some c_11) fun s_13 => xCons r_12 fun c_14 r_15 => xSl (some c_14) fun a_16 n_17 c_18 e_19 => xNil r_15 (letH (h ++ [.cells t_impl_Instance [.str [], .str [], .slice none 0 0 true] false]) fun h_20 => xHeap (hStore h_20 (.ptr (some (List.length h, 0))) [.str s_10, .str s_13, .slice a_16 n_17 c_18 e_19]) fun h_21 => xRow (hRow h_21 (.ptr (some (i1, o1))) 2) fun cs_22 => xCons cs_22 fun c_23 r_24 => xSl (some c_23) fun a_25 n_26 c_27 e_28 => xCons r_24 fun c_29 r_30 => xSl (some c_29) fun a_31 n_32 c_33 e_34 => xNil r_30 (xRow (hRow h_21 (.ptr (some (List.length h, 0))) 3) fun cs_35 => xCons cs_35 fun c_36 r_37 => xStr (some c_36) fun s_38 => xCons r_37 fun c_39 r_40 => xStr (some c_39) fun s_41 => xCons r_40 fun c_42 r_43 => xSl (some c_42) fun a_44 n_45 c_46 e_47 => xNil r_43 (SCall pg n_spec_InstanceValid [.agg [.slice a_25 n_26 c_27 e_28, .slice a_31 n_32 c_33 e_34], .agg [.str s_38, .str s_41, .slice a_44 n_45 c_46 e_47]] h_21 fun v_48 h_49 =>
 xBool (some v_48) fun b_50 => bcase (!b_50) (Q (.bool false) h_49) (R2 i1 o1 a6 n6 c6 e6 x7 (IntKind.wrap .i64 (x8 + 1)) h_49)))))) (A2x0 Q i1 o1 h)
theorem L2den (Q : QT) (R2 : T2) (i1 o1 : Nat) (a6 : Pt) (n6 c6 : Nat) (e6 : Bool) (x7 x8 : Int) (h : AHeap) (ht : L2t Q R2 i1 o1 a6 n6 c6 e6 x7 x8 h) : Den pg fn.ntmps (C [1, 0, 1, 0, 0]) [(1, .ptr (some (i1, o1))), (6, .slice a6 n6 c6 e6), (7, .int .i64 x7), (8, .int .i64 x8)] h (K3 Q R2) :=
  den_Den (kp := kp) (@cast _ (den pg fn.ntmps kp (C [1, 0, 1, 0, 0]) [(1, .ptr (some (i1, o1))), (6, .slice a6 n6 c6 e6), (7, .int .i64 x7), (8, .int .i64 x8)] h (K3 Q R2)) (by kernel_rfl) ht)
theorem L2ind (Q : QT) (i1 o1 : Nat) (a6 : Pt) (n6 c6 : Nat) (e6 : Bool) (x7 : Int) {G : Type} (J : G → Int → AHeap → Prop) (m : G → Nat)
 (hr : ∀ (g : G) (x8 : Int) (h : AHeap), J g x8 h → ∀ (R2 : T2), (∀ g' (x8 : Int) (h : AHeap), m g' < m g → J g' x8 h → R2 i1 o1 a6 n6 c6 e6 x7 x8 h) → L2t Q R2 i1 o1 a6 n6 c6 e6 x7 x8 h)
 (g : G) (x8 : Int) (h : AHeap) (hj : J g x8 h) : L2 Q i1 o1 a6 n6 c6 e6 x7 x8 h := by
  refine Loop.inv2 (fun g => E2 fun i1' o1' a6' n6' c6' e6' x7' x8 h => i1 = i1' ∧ o1 = o1' ∧ a6 = a6' ∧ n6 = n6' ∧ c6 = c6' ∧ e6 = e6' ∧ x7 = x7' ∧ J g x8 h) (fun g => E2 fun i1' o1' a6' n6' c6' e6' x7' x8 h => i1 = i1' ∧ o1 = o1' ∧ a6 = a6' ∧ n6 = n6' ∧ c6 = c6' ∧ e6 = e6' ∧ x7 = x7' ∧ ∃ g', m g' < m g ∧ J g' x8 h) m ?_ ?_ g ⟨rfl, rfl, rfl, rfl, rfl, rfl, rfl, hj⟩
  · intro g env h hi
    obtain ⟨i1', o1', a6', n6', c6', e6', x7', x8, rfl, rfl, rfl, rfl, rfl, rfl, rfl, rfl, hj⟩ := E2elim hi
    exact L2den Q (fun i1' o1' a6' n6' c6' e6' x7' x8 h => i1 = i1' ∧ o1 = o1' ∧ a6 = a6' ∧ n6 = n6' ∧ c6 = c6' ∧ e6 = e6' ∧ x7 = x7' ∧ ∃ g', m g' < m g ∧ J g' x8 h) i1 o1 a6 n6 c6 e6 x7 x8 h (hr g x8 h hj (fun i1' o1' a6' n6' c6' e6' x7' x8 h => i1 = i1' ∧ o1 = o1' ∧ a6 = a6' ∧ n6 = n6' ∧ c6 = c6' ∧ e6 = e6' ∧ x7 = x7' ∧ ∃ g', m g' < m g ∧ J g' x8 h) fun g' x8 h hlt hj => ⟨rfl, rfl, rfl, rfl, rfl, rfl, rfl, g', hlt, hj⟩)
  · intro g env h hi
    obtain ⟨i1', o1', a6', n6', c6', e6', x7', x8, rfl, rfl, rfl, rfl, rfl, rfl, rfl, rfl, g', hlt, hj⟩ := E2elim hi
    exact ⟨g', hlt, rfl, rfl, rfl, rfl, rfl, rfl, rfl, hj⟩
theorem A2x0i (Q : QT) (i1 o1 : Nat) (h : AHeap) (ht :
 xSl (hCell h (.ptr (some (i1, o1 + 0)))) fun a_51 n_52 c_53 e_54 => SCall pg n_spec_l3Classes [.slice a_51 n_52 c_53 e_54] h fun v_55 h_56 =>
 xBool (some v_55) fun b_57 => bcase b_57 (xSl (hCell h_56 (.ptr (some (i1, o1 + 1)))) fun a_58 n_59 c_60 e_61 => Q (.bool (decide (((((n_59 : Nat) : Int)) : Int) ≤ 10))) h_56) (Q (.bool false) h_56)) : A2x0 Q i1 o1 h :=
  At.mk (@cast _ ((K1 Q) (.exit 0) [(1, .ptr (some (i1, o1))), (2, .undef)] h) (by kernel_rfl) ht)
theorem call (a0x0 : Pt) (n0x0 c0x0 : Nat) (e0x0 : Bool) (a0x1 : Pt) (n0x1 c0x1 : Nat) (e0x1 : Bool) (h : AHeap) (Q : QT) (ht :
 letH (h ++ [.cells t_impl_World [.slice a0x0 n0x0 c0x0 e0x0, .slice a0x1 n0x1 c0x1 e0x1] false]) fun h_0 => xSl (hCell h_0 (.ptr (some (List.length h, 0 + 1)))) fun a_1 n_2 c_3 e_4 => L2 Q (List.length h) 0 a_1 n_2 c_3 e_4 (((n_2 : Nat) : Int)) 0 h_0) : SCall pg n_spec_WorldValid [.agg [.slice a0x0 n0x0 c0x0 e0x0, .slice a0x1 n0x1 c0x1 e0x1]] h Q :=
  SCall.of_body kp (c := cod fn) (fn := fn) Go.Proofs.Tryz.func28 (by kernel_rfl) (by kernel_rfl) (Nat.le_of_ble_eq_true (by kernel_rfl))
    (@cast _ (den pg fn.ntmps kp (cod fn) (Env.args 0 [.agg [.slice a0x0 n0x0 c0x0 e0x0, .slice a0x1 n0x1 c0x1 e0x1]]) h (KR Q)) (by kernel_rfl) ht)
end F_spec_WorldValid
/-! Function loop.example/instancesearch/impl.needOk -/
namespace F_impl_needOk
noncomputable abbrev fn : Func := Go.Proofs.Tryz.f52
def kp : Keeps := []
noncomputable def C (p : List Nat) : Code := (cod fn).sub p
def KR (Q : QT) : KT := retA pg fn.results.toList Q
theorem call (a0x0 : Pt) (n0x0 c0x0 : Nat) (e0x0 : Bool) (a0x1 : Pt) (n0x1 c0x1 : Nat) (e0x1 : Bool) (x1x0 x1x1 : List Nat) (h : AHeap) (Q : QT) (ht :
 letH (h ++ [.cells t_impl_World [.slice a0x0 n0x0 c0x0 e0x0, .slice a0x1 n0x1 c0x1 e0x1] false]) fun h_0 => letH (h_0 ++ [.cells t_impl_Need [.str x1x0, .str x1x1] false]) fun h_1 => xSl (hCell h_1 (.ptr (some (List.length h, 0 + 0)))) fun a_2 n_3 c_4 e_5 => xStr (hCell h_1 (.ptr (some (List.length h_0, 0 + 0)))) fun s_6 => SCall pg n_impl_known [.slice a_2 n_3 c_4 e_5, .str s_6] h_1 fun v_7 h_8 =>
 xBool (some v_7) fun b_9 => bcase b_9 (xStr (hCell h_8 (.ptr (some (List.length h_0, 0 + 1)))) fun s_10 => SCall pg n_impl_TypeValid [.str s_10] h_8 fun v_11 h_12 =>
 xBool (some v_11) fun b_13 => Q (.bool b_13) h_12) (Q (.bool false) h_8)) : SCall pg n_impl_needOk [.agg [.slice a0x0 n0x0 c0x0 e0x0, .slice a0x1 n0x1 c0x1 e0x1], .agg [.str x1x0, .str x1x1]] h Q :=
  SCall.of_body kp (c := cod fn) (fn := fn) Go.Proofs.Tryz.func52 (by kernel_rfl) (by kernel_rfl) (Nat.le_of_ble_eq_true (by kernel_rfl))
    (@cast _ (den pg fn.ntmps kp (cod fn) (Env.args 0 [.agg [.slice a0x0 n0x0 c0x0 e0x0, .slice a0x1 n0x1 c0x1 e0x1], .agg [.str x1x0, .str x1x1]]) h (KR Q)) (by kernel_rfl) ht)
end F_impl_needOk
/-! Function loop.example/instancesearch/spec.l4Need -/
namespace F_spec_l4Need
noncomputable abbrev fn : Func := Go.Proofs.Tryz.f71
def kp : Keeps := []
noncomputable def C (p : List Nat) : Code := (cod fn).sub p
def KR (Q : QT) : KT := retA pg fn.results.toList Q
theorem call (a0x0 : Pt) (n0x0 c0x0 : Nat) (e0x0 : Bool) (a0x1 : Pt) (n0x1 c0x1 : Nat) (e0x1 : Bool) (x1x0 x1x1 : List Nat) (h : AHeap) (Q : QT) (ht :
 letH (h ++ [.cells t_impl_World [.slice a0x0 n0x0 c0x0 e0x0, .slice a0x1 n0x1 c0x1 e0x1] false]) fun h_0 => letH (h_0 ++ [.cells t_impl_Need [.str x1x0, .str x1x1] false]) fun h_1 => xRow (hRow h_1 (.ptr (some (List.length h, 0))) 2) fun cs_2 => xCons cs_2 fun c_3 r_4 => xSl (some c_3) fun a_5 n_6 c_7 e_8 => xCons r_4 fun c_9 r_10 => xSl (some c_9) fun a_11 n_12 c_13 e_14 => xNil r_10 (xStr (hCell h_1 (.ptr (some (List.length h_0, 0 + 0)))) fun s_15 => SCall pg n_spec_l3Class [.agg [.slice a_5 n_6 c_7 e_8, .slice a_11 n_12 c_13 e_14], .str s_15] h_1 fun v_16 h_17 =>
 xInt .i64 (some v_16) fun x_18 => bcase (decide ((x_18 : Int) ≥ 0)) (xStr (hCell h_17 (.ptr (some (List.length h_0, 0 + 1)))) fun s_19 => SCall pg n_spec_TypeValid [.str s_19] h_17 fun v_20 h_21 =>
 xBool (some v_20) fun b_22 => Q (.bool b_22) h_21) (Q (.bool false) h_17))) : SCall pg n_spec_l4Need [.agg [.slice a0x0 n0x0 c0x0 e0x0, .slice a0x1 n0x1 c0x1 e0x1], .agg [.str x1x0, .str x1x1]] h Q :=
  SCall.of_body kp (c := cod fn) (fn := fn) Go.Proofs.Tryz.func71 (by kernel_rfl) (by kernel_rfl) (Nat.le_of_ble_eq_true (by kernel_rfl))
    (@cast _ (den pg fn.ntmps kp (cod fn) (Env.args 0 [.agg [.slice a0x0 n0x0 c0x0 e0x0, .slice a0x1 n0x1 c0x1 e0x1], .agg [.str x1x0, .str x1x1]]) h (KR Q)) (by kernel_rfl) ht)
end F_spec_l4Need
/-! Function loop.example/instancesearch/spec.NeedValid -/
namespace F_spec_NeedValid
noncomputable abbrev fn : Func := Go.Proofs.Tryz.f42
def kp : Keeps := []
noncomputable def C (p : List Nat) : Code := (cod fn).sub p
def KR (Q : QT) : KT := retA pg fn.results.toList Q
theorem call (a0x0 : Pt) (n0x0 c0x0 : Nat) (e0x0 : Bool) (a0x1 : Pt) (n0x1 c0x1 : Nat) (e0x1 : Bool) (x1x0 x1x1 : List Nat) (h : AHeap) (Q : QT) (ht :
 letH (h ++ [.cells t_impl_World [.slice a0x0 n0x0 c0x0 e0x0, .slice a0x1 n0x1 c0x1 e0x1] false]) fun h_0 => letH (h_0 ++ [.cells t_impl_Need [.str x1x0, .str x1x1] false]) fun h_1 => xRow (hRow h_1 (.ptr (some (List.length h, 0))) 2) fun cs_2 => xCons cs_2 fun c_3 r_4 => xSl (some c_3) fun a_5 n_6 c_7 e_8 => xCons r_4 fun c_9 r_10 => xSl (some c_9) fun a_11 n_12 c_13 e_14 => xNil r_10 (SCall pg n_spec_WorldValid [.agg [.slice a_5 n_6 c_7 e_8, .slice a_11 n_12 c_13 e_14]] h_1 fun v_15 h_16 =>
 xBool (some v_15) fun b_17 => bcase b_17 (xRow (hRow h_16 (.ptr (some (List.length h, 0))) 2) fun cs_18 => xCons cs_18 fun c_19 r_20 => xSl (some c_19) fun a_21 n_22 c_23 e_24 => xCons r_20 fun c_25 r_26 => xSl (some c_25) fun a_27 n_28 c_29 e_30 => xNil r_26 (xRow (hRow h_16 (.ptr (some (List.length h_0, 0))) 2) fun cs_31 => xCons cs_31 fun c_32 r_33 => xStr (some c_32) fun s_34 => xCons r_33 fun c_35 r_36 => xStr (some c_35) fun s_37 => xNil r_36 (SCall pg n_spec_l4Need [.agg [.slice a_21 n_22 c_23 e_24, .slice a_27 n_28 c_29 e_30], .agg [.str s_34, .str s_37]] h_16 fun v_38 h_39 =>
 xBool (some v_38) fun b_40 => Q (.bool b_40) h_39))) (Q (.bool false) h_16))) : SCall pg n_spec_NeedValid [.agg [.slice a0x0 n0x0 c0x0 e0x0, .slice a0x1 n0x1 c0x1 e0x1], .agg [.str x1x0, .str x1x1]] h Q :=
  SCall.of_body kp (c := cod fn) (fn := fn) Go.Proofs.Tryz.func42 (by kernel_rfl) (by kernel_rfl) (Nat.le_of_ble_eq_true (by kernel_rfl))
    (@cast _ (den pg fn.ntmps kp (cod fn) (Env.args 0 [.agg [.slice a0x0 n0x0 c0x0 e0x0, .slice a0x1 n0x1 c0x1 e0x1], .agg [.str x1x0, .str x1x1]]) h (KR Q)) (by kernel_rfl) ht)
end F_spec_NeedValid
end Go.Sim

/- Printed by wip/tool: what the functions' bodies do, in the words of 'den'. -/
set_option maxRecDepth 100000
set_option linter.unusedVariables false
namespace Go.Sim
open Go Go.RowKit
/-! Function loop.example/instancesearch/spec.InstanceValid -/
namespace F_spec_InstanceValid
noncomputable abbrev fn : Func := Go.Proofs.Tryz.f56
def kp : Keeps := [(4000003, [3, 2]), (3000004, [4]), (1000004, [2, 3, 47, 48, 49]), (2000006, [80, 49, 48, 47, 2, 3]), (4000008, [49, 48, 47, 2, 3])]
noncomputable def C (p : List Nat) : Code := (cod fn).sub p
def KR (Q : QT) : KT := retA pg fn.results.toList Q
abbrev T4 := Nat → Nat → Nat → Nat → Pt → Nat → Nat → Bool → Int → Int → AHeap → Prop
def E4 (R4 : T4) (env : Env) (h : AHeap) : Prop := eVal 2 env fun v env => xPtr (some v) fun a => xSome a fun i2 o2 => eVal 3 env fun v env => xPtr (some v) fun a => xSome a fun i3 o3 => eVal 47 env fun v env => xSl (some v) fun a47 n47 c47 e47 => eVal 48 env fun v env => eInt .i64 v fun x48 => eVal 49 env fun v env => eInt .i64 v fun x49 => eNil env (R4 i2 o2 i3 o3 a47 n47 c47 e47 x48 x49 h)
theorem E4elim {R4 : T4} {env : Env} {h : AHeap} (hi : E4 R4 env h) : ∃ i2, ∃ o2, ∃ i3, ∃ o3, ∃ a47, ∃ n47, ∃ c47, ∃ e47, ∃ x48, ∃ x49, env = [(2, .ptr (some (i2, o2))), (3, .ptr (some (i3, o3))), (47, .slice a47 n47 c47 e47), (48, .int .i64 x48), (49, .int .i64 x49)] ∧ R4 i2 o2 i3 o3 a47 n47 c47 e47 x48 x49 h := by
  unfold E4 at hi
  have hi0 := hi
  clear hi
  obtain ⟨v, env, rfl, hi1⟩ := eVal_elim hi0
  obtain ⟨a, rfl, hi2⟩ := xPtr_elim hi1
  obtain ⟨i2, o2, rfl, hi3⟩ := xSome_elim hi2
  obtain ⟨v, env, rfl, hi4⟩ := eVal_elim hi3
  obtain ⟨a, rfl, hi5⟩ := xPtr_elim hi4
  obtain ⟨i3, o3, rfl, hi6⟩ := xSome_elim hi5
  obtain ⟨v, env, rfl, hi7⟩ := eVal_elim hi6
  obtain ⟨a47, n47, c47, e47, rfl, hi8⟩ := xSl_elim hi7
  obtain ⟨v, env, rfl, hi9⟩ := eVal_elim hi8
  obtain ⟨x48, rfl, hi10⟩ := eInt_elim hi9
  obtain ⟨v, env, rfl, hi11⟩ := eVal_elim hi10
  obtain ⟨x49, rfl, hi12⟩ := eInt_elim hi11
  obtain ⟨rfl, hi13⟩ := eNil_elim hi12
  have hi := hi13
  exact ⟨i2, o2, i3, o3, a47, n47, c47, e47, x48, x49, rfl, hi⟩
def K0 (Q : QT) : KT := andThen (fun env' h' => (match kp.find 4000009 with | some ks => Den pg fn.ntmps (C [1, 1, 1]) (env'.keep ks) h' (KR Q) | none => den pg fn.ntmps kp (C [1, 1, 1]) env' h' (KR Q))) (KR Q)
def K1 (Q : QT) : KT := onExit 0 (K0 Q)
def K2 (Q : QT) : KT := left kp 4 (K1 Q)
def K3 (Q : QT) (R4 : T4) : KT := rnd ((kp.find 1000004).getD []) (E4 R4) (K2 Q)
def J3 (Q : QT) (i3 o3 i2 o2 : Nat) (h : AHeap) : Prop := Den pg fn.ntmps (C [1, 1]) [(3, .ptr (some (i3, o3))), (2, .ptr (some (i2, o2)))] h (KR Q)
def L4 (Q : QT) (i2 o2 i3 o3 : Nat) (a47 : Pt) (n47 c47 : Nat) (e47 : Bool) (x48 x49 : Int) (h : AHeap) : Prop := Loop (Den pg fn.ntmps (C [1, 1, 0, 1, 0, 0])) ((kp.find 1000004).getD []) (K2 Q) [(2, .ptr (some (i2, o2))), (3, .ptr (some (i3, o3))), (47, .slice a47 n47 c47 e47), (48, .int .i64 x48), (49, .int .i64 x49)] h
def J8 (Q : QT) (R4 : T4) (x49 x48 : Int) (a47 : Pt) (n47 c47 : Nat) (e47 : Bool) (i2 o2 i3 o3 : Nat) (h : AHeap) : Prop := Den pg fn.ntmps (C [1, 1, 0, 1, 0, 0, 1, 1, 1]) [(49, .int .i64 x49), (48, .int .i64 x48), (47, .slice a47 n47 c47 e47), (2, .ptr (some (i2, o2))), (3, .ptr (some (i3, o3)))] h (K3 Q R4)
def A4x0 (Q : QT) (h : AHeap) : Prop := At (K1 Q) (.exit 0) [(4, .undef)] h
theorem J3i (Q : QT) (i3 o3 i2 o2 : Nat) (h : AHeap) (ht :
 xSl (hCell h (.ptr (some (i3, o3 + 2)))) fun a_40 n_41 c_42 e_43 => L4 Q i2 o2 i3 o3 a_40 n_41 c_42 e_43 (((n_41 : Nat) : Int)) 0 h) : J3 Q i3 o3 i2 o2 h :=
  den_Den (kp := kp) (@cast _ (den pg fn.ntmps kp (C [1, 1]) [(3, .ptr (some (i3, o3))), (2, .ptr (some (i2, o2)))] h (KR Q)) (by kernel_rfl) ht)
def L4t (Q : QT) (R4 : T4) (i2 o2 i3 o3 : Nat) (a47 : Pt) (n47 c47 : Nat) (e47 : Bool) (x48 x49 : Int) (h : AHeap) : Prop :=
 bcase (decide ((x49 : Int) < x48)) ((0 ≤ (x49 : Int) ∧ (x49 : Int) < (n47 : Nat)) ∧ (xSome a47 fun i_44 o_45 => xRow (hRow h (.ptr (some (i_44, o_45 + (Int.toNat x49) * 2))) 2) fun cs_46 => xCons cs_46 fun c_47 r_48 => xStr (some c_47) fun s_49 => xCons r_48 fun c_50 r_51 => xStr (some c_50) fun s_52 => xNil r_51 (letH (h ++ [.cells t_impl_Need [.str [], .str []] false]) fun h_53 => xHeap (hStore h_53 (.ptr (some (List.length h, 0))) [.str s_49, .str s_52]) fun h_54 => xRow (hRow h_54 (.ptr (some (i2, o2))) 2) fun cs_55 => xCons cs_55 fun c_56 r_57 => xSl (some c_56) fun a_58 n_59 c_60 e_61 => xCons r_57 fun c_62 r_63 => xSl (some c_62) fun a_64 n_65 c_66 e_67 => xNil r_63 (xStr (hCell h_54 (.ptr (some (List.length h, 0 + 0)))) fun s_68 => (hRow h_54 (.ptr (some (i2, o2))) 2 = hRow h_54 (.ptr (some (i2, o2))) 2) ∧ SCall pg n_spec_l3Class [.agg [.slice a_58 n_59 c_60 e_61, .slice a_64 n_65 c_66 e_67], .str s_68] h_54 fun v_69 h_70 =>
 xInt .i64 (some v_69) fun x_71 => bcase (decide ((x_71 : Int) < 0)) ((hRow h_70 (.ptr (some (i2, o2))) 2 = hRow h_70 (.ptr (some (i2, o2))) 2) ∧ (hRow h_70 (.ptr (some (i2, o2))) 2 = hRow h_70 (.ptr (some (i2, o2))) 2) ∧ (hRow h_70 (.ptr (some (i2, o2))) 2 = hRow h_70 (.ptr (some (i2, o2))) 2) ∧ (hCell h_70 (.tup []) = hCell h_70 (.tup [])) ∧ (hRow h_70 (.ptr (some (i2, o2))) 2 = hRow h_70 (.ptr (some (i2, o2))) 2) ∧ (hCell h_70 (.tup []) = hCell h_70 (.tup [])) ∧ (hRow h_70 (.ptr (some (i2, o2))) 2 = hRow h_70 (.ptr (some (i2, o2))) 2) ∧ (hCell h_70 (.tup []) = hCell h_70 (.tup [])) ∧ (hCell h_70 (.tup []) = hCell h_70 (.tup [])) ∧ (hRow h_70 (.ptr (some (i2, o2))) 2 = hRow h_70 (.ptr (some (i2, o2))) 2) ∧ Q (.bool false) h_70) (xStr (hCell h_70 (.ptr (some (List.length h, 0 + 1)))) fun s_72 => (hRow h_70 (.ptr (some (i2, o2))) 2 = hRow h_70 (.ptr (some (i2, o2))) 2) ∧ SCall pg n_spec_TypeValid [.str s_72] h_70 fun v_73 h_74 =>
 xBool (some v_73) fun b_75 => (hRow h_74 (.ptr (some (i2, o2))) 2 = hRow h_70 (.ptr (some (i2, o2))) 2) ∧ bcase (!b_75) ((hRow h_74 (.ptr (some (i2, o2))) 2 = hRow h_74 (.ptr (some (i2, o2))) 2) ∧ (hCell h_74 (.tup []) = hCell h_74 (.tup [])) ∧ (hRow h_74 (.ptr (some (i2, o2))) 2 = hRow h_74 (.ptr (some (i2, o2))) 2) ∧ (hCell h_74 (.tup []) = hCell h_74 (.tup [])) ∧ (hRow h_74 (.ptr (some (i2, o2))) 2 = hRow h_74 (.ptr (some (i2, o2))) 2) ∧ (hCell h_74 (.tup []) = hCell h_74 (.tup [])) ∧ (hCell h_74 (.tup []) = hCell h_74 (.tup [])) ∧ (hRow h_74 (.ptr (some (i2, o2))) 2 = hRow h_74 (.ptr (some (i2, o2))) 2) ∧ Q (.bool false) h_74) (xStr (hCell h_74 (.ptr (some (List.length h, 0 + 1)))) fun s_76 => (hRow h_74 (.ptr (some (i2, o2))) 2 = hRow h_74 (.ptr (some (i2, o2))) 2) ∧ bcase (decide (((((List.length s_76 : Nat) : Int)) : Int) > 20)) ((hCell h_74 (.tup []) = hCell h_74 (.tup [])) ∧ (hRow h_74 (.ptr (some (i2, o2))) 2 = hRow h_74 (.ptr (some (i2, o2))) 2) ∧ (hCell h_74 (.tup []) = hCell h_74 (.tup [])) ∧ (hRow h_74 (.ptr (some (i2, o2))) 2 = hRow h_74 (.ptr (some (i2, o2))) 2) ∧ (hCell h_74 (.tup []) = hCell h_74 (.tup [])) ∧ (hCell h_74 (.tup []) = hCell h_74 (.tup [])) ∧ (hRow h_74 (.ptr (some (i2, o2))) 2 = hRow h_74 (.ptr (some (i2, o2))) 2) ∧ Q (.bool false) h_74) (xStr (hCell h_74 (.ptr (some (List.length h, 0 + 1)))) fun s_77 => xStr (hCell h_74 (.ptr (some (i3, o3 + 0 + 1)))) fun s_78 => SCall pg n_spec_VarsOf [.str s_77] h_74 fun v_79 h_80 =>
 xStr (some v_79) fun s_81 => (hCell h_80 (.ptr (some (i3, o3 + 0 + 1))) = hCell h_74 (.ptr (some (i3, o3 + 0 + 1)))) ∧ (hRow h_80 (.ptr (some (i2, o2))) 2 = hRow h_74 (.ptr (some (i2, o2))) 2) ∧ SCall pg n_spec_VarsOf [.str s_78] h_80 fun v_82 h_83 =>
 xStr (some v_82) fun s_84 => (hCell h_83 (.ptr (some (List.length h, 0 + 1))) = hCell h_80 (.ptr (some (List.length h, 0 + 1)))) ∧ (hRow h_83 (.ptr (some (i2, o2))) 2 = hRow h_80 (.ptr (some (i2, o2))) 2) ∧ SCall pg n_spec_l3Within [.str s_81, .str s_84] h_83 fun v_85 h_86 =>
 xBool (some v_85) fun b_87 => (hCell h_86 (.ptr (some (i3, o3 + 0 + 1))) = hCell h_83 (.ptr (some (i3, o3 + 0 + 1)))) ∧ (hCell h_86 (.ptr (some (List.length h, 0 + 1))) = hCell h_83 (.ptr (some (List.length h, 0 + 1)))) ∧ (hRow h_86 (.ptr (some (i2, o2))) 2 = hRow h_83 (.ptr (some (i2, o2))) 2) ∧ bcase (!b_87) (Q (.bool false) h_86) (J8 Q R4 x49 x48 a47 n47 c47 e47 i2 o2 i3 o3 h_86)))))))) (A4x0 Q h)
theorem L4den (Q : QT) (R4 : T4) (i2 o2 i3 o3 : Nat) (a47 : Pt) (n47 c47 : Nat) (e47 : Bool) (x48 x49 : Int) (h : AHeap) (ht : L4t Q R4 i2 o2 i3 o3 a47 n47 c47 e47 x48 x49 h) : Den pg fn.ntmps (C [1, 1, 0, 1, 0, 0]) [(2, .ptr (some (i2, o2))), (3, .ptr (some (i3, o3))), (47, .slice a47 n47 c47 e47), (48, .int .i64 x48), (49, .int .i64 x49)] h (K3 Q R4) :=
  den_Den (kp := kp) (@cast _ (den pg fn.ntmps kp (C [1, 1, 0, 1, 0, 0]) [(2, .ptr (some (i2, o2))), (3, .ptr (some (i3, o3))), (47, .slice a47 n47 c47 e47), (48, .int .i64 x48), (49, .int .i64 x49)] h (K3 Q R4)) (by kernel_rfl) ht)
theorem L4ind (Q : QT) (i2 o2 i3 o3 : Nat) (a47 : Pt) (n47 c47 : Nat) (e47 : Bool) (x48 : Int) {G : Type} (J : G → Int → AHeap → Prop) (m : G → Nat)
 (hr : ∀ (g : G) (x49 : Int) (h : AHeap), J g x49 h → ∀ (R4 : T4), (∀ g' (x49 : Int) (h : AHeap), m g' < m g → J g' x49 h → R4 i2 o2 i3 o3 a47 n47 c47 e47 x48 x49 h) → L4t Q R4 i2 o2 i3 o3 a47 n47 c47 e47 x48 x49 h)
 (g : G) (x49 : Int) (h : AHeap) (hj : J g x49 h) : L4 Q i2 o2 i3 o3 a47 n47 c47 e47 x48 x49 h := by
  refine Loop.inv2 (fun g => E4 fun i2' o2' i3' o3' a47' n47' c47' e47' x48' x49 h => i2 = i2' ∧ o2 = o2' ∧ i3 = i3' ∧ o3 = o3' ∧ a47 = a47' ∧ n47 = n47' ∧ c47 = c47' ∧ e47 = e47' ∧ x48 = x48' ∧ J g x49 h) (fun g => E4 fun i2' o2' i3' o3' a47' n47' c47' e47' x48' x49 h => i2 = i2' ∧ o2 = o2' ∧ i3 = i3' ∧ o3 = o3' ∧ a47 = a47' ∧ n47 = n47' ∧ c47 = c47' ∧ e47 = e47' ∧ x48 = x48' ∧ ∃ g', m g' < m g ∧ J g' x49 h) m ?_ ?_ g ⟨rfl, rfl, rfl, rfl, rfl, rfl, rfl, rfl, rfl, hj⟩
  · intro g env h hi
    obtain ⟨i2', o2', i3', o3', a47', n47', c47', e47', x48', x49, rfl, rfl, rfl, rfl, rfl, rfl, rfl, rfl, rfl, rfl, hj⟩ := E4elim hi
    exact L4den Q (fun i2' o2' i3' o3' a47' n47' c47' e47' x48' x49 h => i2 = i2' ∧ o2 = o2' ∧ i3 = i3' ∧ o3 = o3' ∧ a47 = a47' ∧ n47 = n47' ∧ c47 = c47' ∧ e47 = e47' ∧ x48 = x48' ∧ ∃ g', m g' < m g ∧ J g' x49 h) i2 o2 i3 o3 a47 n47 c47 e47 x48 x49 h (hr g x49 h hj (fun i2' o2' i3' o3' a47' n47' c47' e47' x48' x49 h => i2 = i2' ∧ o2 = o2' ∧ i3 = i3' ∧ o3 = o3' ∧ a47 = a47' ∧ n47 = n47' ∧ c47 = c47' ∧ e47 = e47' ∧ x48 = x48' ∧ ∃ g', m g' < m g ∧ J g' x49 h) fun g' x49 h hlt hj => ⟨rfl, rfl, rfl, rfl, rfl, rfl, rfl, rfl, rfl, g', hlt, hj⟩)
  · intro g env h hi
    obtain ⟨i2', o2', i3', o3', a47', n47', c47', e47', x48', x49, rfl, rfl, rfl, rfl, rfl, rfl, rfl, rfl, rfl, rfl, g', hlt, hj⟩ := E4elim hi
    exact ⟨g', hlt, rfl, rfl, rfl, rfl, rfl, rfl, rfl, rfl, rfl, hj⟩
theorem J8i (Q : QT) (R4 : T4) (x49 x48 : Int) (a47 : Pt) (n47 c47 : Nat) (e47 : Bool) (i2 o2 i3 o3 : Nat) (h : AHeap) (ht :
 R4 i2 o2 i3 o3 a47 n47 c47 e47 x48 (IntKind.wrap .i64 (x49 + 1)) h) : J8 Q R4 x49 x48 a47 n47 c47 e47 i2 o2 i3 o3 h :=
  den_Den (kp := kp) (@cast _ (den pg fn.ntmps kp (C [1, 1, 0, 1, 0, 0, 1, 1, 1]) [(49, .int .i64 x49), (48, .int .i64 x48), (47, .slice a47 n47 c47 e47), (2, .ptr (some (i2, o2))), (3, .ptr (some (i3, o3)))] h (K3 Q R4)) (by kernel_rfl) ht)
theorem A4x0i (Q : QT) (h : AHeap) (ht :
 Q (.bool true) h) : A4x0 Q h :=
  At.mk (@cast _ ((K1 Q) (.exit 0) [(4, .undef)] h) (by kernel_rfl) ht)
theorem call (a0x0 : Pt) (n0x0 c0x0 : Nat) (e0x0 : Bool) (a0x1 : Pt) (n0x1 c0x1 : Nat) (e0x1 : Bool) (x1x0 x1x1 : List Nat) (a1x2 : Pt) (n1x2 c1x2 : Nat) (e1x2 : Bool) (h : AHeap) (Q : QT) (ht :
 letH (h ++ [.cells t_impl_World [.slice a0x0 n0x0 c0x0 e0x0, .slice a0x1 n0x1 c0x1 e0x1] false]) fun h_0 => letH (h_0 ++ [.cells t_impl_Instance [.str x1x0, .str x1x1, .slice a1x2 n1x2 c1x2 e1x2] false]) fun h_1 => xSl (hCell h_1 (.ptr (some (List.length h, 0 + 0)))) fun a_2 n_3 c_4 e_5 => SCall pg n_spec_l3Classes [.slice a_2 n_3 c_4 e_5] h_1 fun v_6 h_7 =>
 xBool (some v_6) fun b_8 => bcase (!b_8) (Q (.bool false) h_7) (xRow (hRow h_7 (.ptr (some (List.length h, 0))) 2) fun cs_9 => xCons cs_9 fun c_10 r_11 => xSl (some c_10) fun a_12 n_13 c_14 e_15 => xCons r_11 fun c_16 r_17 => xSl (some c_16) fun a_18 n_19 c_20 e_21 => xNil r_17 (xStr (hCell h_7 (.ptr (some (List.length h_0, 0 + 0 + 0)))) fun s_22 => SCall pg n_spec_l3Class [.agg [.slice a_12 n_13 c_14 e_15, .slice a_18 n_19 c_20 e_21], .str s_22] h_7 fun v_23 h_24 =>
 xInt .i64 (some v_23) fun x_25 => bcase (decide ((x_25 : Int) < 0)) (Q (.bool false) h_24) (xStr (hCell h_24 (.ptr (some (List.length h_0, 0 + 0 + 1)))) fun s_26 => SCall pg n_spec_TypeValid [.str s_26] h_24 fun v_27 h_28 =>
 xBool (some v_27) fun b_29 => bcase (!b_29) (Q (.bool false) h_28) (xStr (hCell h_28 (.ptr (some (List.length h_0, 0 + 0 + 1)))) fun s_30 => bcase (decide (((((List.length s_30 : Nat) : Int)) : Int) > 20)) (Q (.bool false) h_28) (xStr (hCell h_28 (.ptr (some (List.length h_0, 0 + 0 + 1)))) fun s_31 => byteAt s_31 0 fun b_32 => SCall pg n_spec_l1Variable [.int .u8 (((b_32 : Nat) : Int))] h_28 fun v_33 h_34 =>
 xBool (some v_33) fun b_35 => bcase b_35 (Q (.bool false) h_34) (xSl (hCell h_34 (.ptr (some (List.length h_0, 0 + 2)))) fun a_36 n_37 c_38 e_39 => bcase (decide (((((n_37 : Nat) : Int)) : Int) > 3)) (Q (.bool false) h_34) (J3 Q (List.length h_0) 0 (List.length h) 0 h_34)))))))) : SCall pg n_spec_InstanceValid [.agg [.slice a0x0 n0x0 c0x0 e0x0, .slice a0x1 n0x1 c0x1 e0x1], .agg [.str x1x0, .str x1x1, .slice a1x2 n1x2 c1x2 e1x2]] h Q :=
  SCall.of_body kp (c := cod fn) (fn := fn) Go.Proofs.Tryz.func56 (by kernel_rfl) (by kernel_rfl) (Nat.le_of_ble_eq_true (by kernel_rfl))
    (@cast _ (den pg fn.ntmps kp (cod fn) (Env.args 0 [.agg [.slice a0x0 n0x0 c0x0 e0x0, .slice a0x1 n0x1 c0x1 e0x1], .agg [.str x1x0, .str x1x1, .slice a1x2 n1x2 c1x2 e1x2]]) h (KR Q)) (by kernel_rfl) ht)
end F_spec_InstanceValid
end Go.Sim

/- Printed by wip/tool: what the functions' bodies do, in the words of 'den'. -/
set_option maxRecDepth 100000
set_option linter.unusedVariables false
namespace Go.Sim
open Go Go.RowKit
/-! Function loop.example/instancesearch/impl.isVar -/
namespace F_impl_isVar
noncomputable abbrev fn : Func := Go.Proofs.Tryz.f78
def kp : Keeps := []
noncomputable def C (p : List Nat) : Code := (cod fn).sub p
def KR (Q : QT) : KT := retA pg fn.results.toList Q
theorem call (x0 : List Nat) (h : AHeap) (Q : QT) (ht :
 bcase ((((List.length x0 : Nat) : Int) : Int) == 1) (SCall pg n_strings_Contains [.str ([120, 121, 122, 88, 89, 90]), .str x0] h fun v_0 h_1 =>
 xBool (some v_0) fun b_2 => Q (.bool b_2) h_1) (Q (.bool false) h)) : SCall pg n_impl_isVar [.str x0] h Q :=
  SCall.of_body kp (c := cod fn) (fn := fn) Go.Proofs.Tryz.func78 (by kernel_rfl) (by kernel_rfl) (Nat.le_of_ble_eq_true (by kernel_rfl))
    (@cast _ (den pg fn.ntmps kp (cod fn) (Env.args 0 [.str x0]) h (KR Q)) (by kernel_rfl) ht)
end F_impl_isVar
/-! Function loop.example/instancesearch/spec.l1Variable -/
namespace F_spec_l1Variable
noncomputable abbrev fn : Func := Go.Proofs.Tryz.f75
def kp : Keeps := []
noncomputable def C (p : List Nat) : Code := (cod fn).sub p
def KR (Q : QT) : KT := retA pg fn.results.toList Q
theorem call (x0 : Int) (h : AHeap) (Q : QT) (ht :
 SCall pg n_spec_l13Find [.str ([105, 98, 117, 108, 109, 112, 120, 121, 122, 88, 89, 90]), .int .u8 x0] h fun v_0 h_1 =>
 xInt .i64 (some v_0) fun x_2 => Q (.bool (decide ((x_2 : Int) ≥ 6))) h_1) : SCall pg n_spec_l1Variable [.int .u8 x0] h Q :=
  SCall.of_body kp (c := cod fn) (fn := fn) Go.Proofs.Tryz.func75 (by kernel_rfl) (by kernel_rfl) (Nat.le_of_ble_eq_true (by kernel_rfl))
    (@cast _ (den pg fn.ntmps kp (cod fn) (Env.args 0 [.int .u8 x0]) h (KR Q)) (by kernel_rfl) ht)
end F_spec_l1Variable
/-! Function loop.example/instancesearch/spec.CountVar -/
namespace F_spec_CountVar
noncomputable abbrev fn : Func := Go.Proofs.Tryz.f126
def kp : Keeps := [(4000003, [0, 1]), (3000005, [5]), (1000005, [0, 1, 5, 22, 23]), (2000007, [31, 5, 23, 22, 0, 1]), (4000009, [23, 22, 0, 1, 5])]
noncomputable def C (p : List Nat) : Code := (cod fn).sub p
def KR (Q : QT) : KT := retA pg fn.results.toList Q
abbrev T5 := List Nat → List Nat → Int → Int → Int → AHeap → Prop
def E5 (R5 : T5) (env : Env) (h : AHeap) : Prop := eVal 0 env fun v env => xStr (some v) fun x0 => eVal 1 env fun v env => xStr (some v) fun x1 => eVal 5 env fun v env => eInt .i64 v fun x5 => eVal 22 env fun v env => eInt .i64 v fun x22 => eVal 23 env fun v env => eInt .i64 v fun x23 => eNil env (R5 x0 x1 x5 x22 x23 h)
theorem E5elim {R5 : T5} {env : Env} {h : AHeap} (hi : E5 R5 env h) : ∃ x0, ∃ x1, ∃ x5, ∃ x22, ∃ x23, env = [(0, .str x0), (1, .str x1), (5, .int .i64 x5), (22, .int .i64 x22), (23, .int .i64 x23)] ∧ R5 x0 x1 x5 x22 x23 h := by
  unfold E5 at hi
  have hi0 := hi
  clear hi
  obtain ⟨v, env, rfl, hi1⟩ := eVal_elim hi0
  obtain ⟨x0, rfl, hi2⟩ := xStr_elim hi1
  obtain ⟨v, env, rfl, hi3⟩ := eVal_elim hi2
  obtain ⟨x1, rfl, hi4⟩ := xStr_elim hi3
  obtain ⟨v, env, rfl, hi5⟩ := eVal_elim hi4
  obtain ⟨x5, rfl, hi6⟩ := eInt_elim hi5
  obtain ⟨v, env, rfl, hi7⟩ := eVal_elim hi6
  obtain ⟨x22, rfl, hi8⟩ := eInt_elim hi7
  obtain ⟨v, env, rfl, hi9⟩ := eVal_elim hi8
  obtain ⟨x23, rfl, hi10⟩ := eInt_elim hi9
  obtain ⟨rfl, hi11⟩ := eNil_elim hi10
  have hi := hi11
  exact ⟨x0, x1, x5, x22, x23, rfl, hi⟩
def K0 (Q : QT) : KT := andThen (fun env' h' => (match kp.find 4000010 with | some ks => Den pg fn.ntmps (C [1, 1, 1, 1]) (env'.keep ks) h' (KR Q) | none => den pg fn.ntmps kp (C [1, 1, 1, 1]) env' h' (KR Q))) (KR Q)
def K1 (Q : QT) : KT := onExit 0 (K0 Q)
def K2 (Q : QT) : KT := left kp 5 (K1 Q)
def K3 (Q : QT) (R5 : T5) : KT := rnd ((kp.find 1000005).getD []) (E5 R5) (K2 Q)
def J3 (Q : QT) (x0 x1 : List Nat) (h : AHeap) : Prop := Den pg fn.ntmps (C [1, 1]) [(0, .str x0), (1, .str x1)] h (KR Q)
def L5 (Q : QT) (x0 x1 : List Nat) (x5 x22 x23 : Int) (h : AHeap) : Prop := Loop (Den pg fn.ntmps (C [1, 1, 1, 0, 1, 0, 0])) ((kp.find 1000005).getD []) (K2 Q) [(0, .str x0), (1, .str x1), (5, .int .i64 x5), (22, .int .i64 x22), (23, .int .i64 x23)] h
def J9 (Q : QT) (R5 : T5) (x23 x22 : Int) (x0 x1 : List Nat) (x5 : Int) (h : AHeap) : Prop := Den pg fn.ntmps (C [1, 1, 1, 0, 1, 0, 0, 1, 1, 1]) [(23, .int .i64 x23), (22, .int .i64 x22), (0, .str x0), (1, .str x1), (5, .int .i64 x5)] h (K3 Q R5)
def A5x0 (Q : QT) (x5 : Int) (h : AHeap) : Prop := At (K1 Q) (.exit 0) [(5, .int .i64 x5)] h
theorem J3i (Q : QT) (x0 x1 : List Nat) (h : AHeap) (ht :
 L5 Q x0 x1 0 (((List.length x0 : Nat) : Int)) 0 h) : J3 Q x0 x1 h :=
  den_Den (kp := kp) (@cast _ (den pg fn.ntmps kp (C [1, 1]) [(0, .str x0), (1, .str x1)] h (KR Q)) (by kernel_rfl) ht)
def L5t (Q : QT) (R5 : T5) (x0 x1 : List Nat) (x5 x22 x23 : Int) (h : AHeap) : Prop :=
 bcase (decide ((x23 : Int) < x22)) (byteAt x0 x23 fun b_7 => byteAt x1 0 fun b_8 => bcase ((((b_7 : Nat) : Int) : Int) == (((b_8 : Nat) : Int))) (J9 Q R5 x23 x22 x0 x1 (IntKind.wrap .i64 (x5 + 1)) h) (J9 Q R5 x23 x22 x0 x1 x5 h)) (A5x0 Q x5 h)
theorem L5den (Q : QT) (R5 : T5) (x0 x1 : List Nat) (x5 x22 x23 : Int) (h : AHeap) (ht : L5t Q R5 x0 x1 x5 x22 x23 h) : Den pg fn.ntmps (C [1, 1, 1, 0, 1, 0, 0]) [(0, .str x0), (1, .str x1), (5, .int .i64 x5), (22, .int .i64 x22), (23, .int .i64 x23)] h (K3 Q R5) :=
  den_Den (kp := kp) (@cast _ (den pg fn.ntmps kp (C [1, 1, 1, 0, 1, 0, 0]) [(0, .str x0), (1, .str x1), (5, .int .i64 x5), (22, .int .i64 x22), (23, .int .i64 x23)] h (K3 Q R5)) (by kernel_rfl) ht)
theorem L5ind (Q : QT) (x0 x1 : List Nat) (x22 : Int) {G : Type} (J : G → Int → Int → AHeap → Prop) (m : G → Nat)
 (hr : ∀ (g : G) (x5 x23 : Int) (h : AHeap), J g x5 x23 h → ∀ (R5 : T5), (∀ g' (x5 x23 : Int) (h : AHeap), m g' < m g → J g' x5 x23 h → R5 x0 x1 x5 x22 x23 h) → L5t Q R5 x0 x1 x5 x22 x23 h)
 (g : G) (x5 x23 : Int) (h : AHeap) (hj : J g x5 x23 h) : L5 Q x0 x1 x5 x22 x23 h := by
  refine Loop.inv2 (fun g => E5 fun x0' x1' x5 x22' x23 h => x0 = x0' ∧ x1 = x1' ∧ x22 = x22' ∧ J g x5 x23 h) (fun g => E5 fun x0' x1' x5 x22' x23 h => x0 = x0' ∧ x1 = x1' ∧ x22 = x22' ∧ ∃ g', m g' < m g ∧ J g' x5 x23 h) m ?_ ?_ g ⟨rfl, rfl, rfl, hj⟩
  · intro g env h hi
    obtain ⟨x0', x1', x5, x22', x23, rfl, rfl, rfl, rfl, hj⟩ := E5elim hi
    exact L5den Q (fun x0' x1' x5 x22' x23 h => x0 = x0' ∧ x1 = x1' ∧ x22 = x22' ∧ ∃ g', m g' < m g ∧ J g' x5 x23 h) x0 x1 x5 x22 x23 h (hr g x5 x23 h hj (fun x0' x1' x5 x22' x23 h => x0 = x0' ∧ x1 = x1' ∧ x22 = x22' ∧ ∃ g', m g' < m g ∧ J g' x5 x23 h) fun g' x5 x23 h hlt hj => ⟨rfl, rfl, rfl, g', hlt, hj⟩)
  · intro g env h hi
    obtain ⟨x0', x1', x5, x22', x23, rfl, rfl, rfl, rfl, g', hlt, hj⟩ := E5elim hi
    exact ⟨g', hlt, rfl, rfl, rfl, hj⟩
theorem J9i (Q : QT) (R5 : T5) (x23 x22 : Int) (x0 x1 : List Nat) (x5 : Int) (h : AHeap) (ht :
 R5 x0 x1 x5 x22 (IntKind.wrap .i64 (x23 + 1)) h) : J9 Q R5 x23 x22 x0 x1 x5 h :=
  den_Den (kp := kp) (@cast _ (den pg fn.ntmps kp (C [1, 1, 1, 0, 1, 0, 0, 1, 1, 1]) [(23, .int .i64 x23), (22, .int .i64 x22), (0, .str x0), (1, .str x1), (5, .int .i64 x5)] h (K3 Q R5)) (by kernel_rfl) ht)
theorem A5x0i (Q : QT) (x5 : Int) (h : AHeap) (ht :
 Q (.int .i64 x5) h) : A5x0 Q x5 h :=
  At.mk (@cast _ ((K1 Q) (.exit 0) [(5, .int .i64 x5)] h) (by kernel_rfl) ht)
theorem call (x0 x1 : List Nat) (h : AHeap) (Q : QT) (ht :
 SCall pg n_spec_TypeValid [.str x0] h fun v_0 h_1 =>
 xBool (some v_0) fun b_2 => bcase (!b_2) (Q (.int .i64 (-1)) h_1) (bcase (!((((List.length x1 : Nat) : Int) : Int) == 1)) (Q (.int .i64 (-1)) h_1) (byteAt x1 0 fun b_3 => SCall pg n_spec_l1Variable [.int .u8 (((b_3 : Nat) : Int))] h_1 fun v_4 h_5 =>
 xBool (some v_4) fun b_6 => bcase (!b_6) (Q (.int .i64 (-1)) h_5) (J3 Q x0 x1 h_5)))) : SCall pg n_spec_CountVar [.str x0, .str x1] h Q :=
  SCall.of_body kp (c := cod fn) (fn := fn) Go.Proofs.Tryz.func126 (by kernel_rfl) (by kernel_rfl) (Nat.le_of_ble_eq_true (by kernel_rfl))
    (@cast _ (den pg fn.ntmps kp (cod fn) (Env.args 0 [.str x0, .str x1]) h (KR Q)) (by kernel_rfl) ht)
end F_spec_CountVar
/-! Function loop.example/instancesearch/spec.VarsOf -/
namespace F_spec_VarsOf
noncomputable abbrev fn : Func := Go.Proofs.Tryz.f97
def kp : Keeps := [(3000003, [3]), (1000003, [0, 3, 6, 7, 8]), (4000007, [8, 7, 6, 0, 3])]
noncomputable def C (p : List Nat) : Code := (cod fn).sub p
def KR (Q : QT) : KT := retA pg fn.results.toList Q
abbrev T3 := List Nat → List Nat → Pt → Nat → Nat → Bool → Int → Int → AHeap → Prop
def E3 (R3 : T3) (env : Env) (h : AHeap) : Prop := eVal 0 env fun v env => xStr (some v) fun x0 => eVal 3 env fun v env => xStr (some v) fun x3 => eVal 6 env fun v env => xSl (some v) fun a6 n6 c6 e6 => eVal 7 env fun v env => eInt .i64 v fun x7 => eVal 8 env fun v env => eInt .i64 v fun x8 => eNil env (R3 x0 x3 a6 n6 c6 e6 x7 x8 h)
theorem E3elim {R3 : T3} {env : Env} {h : AHeap} (hi : E3 R3 env h) : ∃ x0, ∃ x3, ∃ a6, ∃ n6, ∃ c6, ∃ e6, ∃ x7, ∃ x8, env = [(0, .str x0), (3, .str x3), (6, .slice a6 n6 c6 e6), (7, .int .i64 x7), (8, .int .i64 x8)] ∧ R3 x0 x3 a6 n6 c6 e6 x7 x8 h := by
  unfold E3 at hi
  have hi0 := hi
  clear hi
  obtain ⟨v, env, rfl, hi1⟩ := eVal_elim hi0
  obtain ⟨x0, rfl, hi2⟩ := xStr_elim hi1
  obtain ⟨v, env, rfl, hi3⟩ := eVal_elim hi2
  obtain ⟨x3, rfl, hi4⟩ := xStr_elim hi3
  obtain ⟨v, env, rfl, hi5⟩ := eVal_elim hi4
  obtain ⟨a6, n6, c6, e6, rfl, hi6⟩ := xSl_elim hi5
  obtain ⟨v, env, rfl, hi7⟩ := eVal_elim hi6
  obtain ⟨x7, rfl, hi8⟩ := eInt_elim hi7
  obtain ⟨v, env, rfl, hi9⟩ := eVal_elim hi8
  obtain ⟨x8, rfl, hi10⟩ := eInt_elim hi9
  obtain ⟨rfl, hi11⟩ := eNil_elim hi10
  have hi := hi11
  exact ⟨x0, x3, a6, n6, c6, e6, x7, x8, rfl, hi⟩
def K0 (Q : QT) : KT := andThen (fun env' h' => (match kp.find 4000008 with | some ks => Den pg fn.ntmps (C [1, 1, 1]) (env'.keep ks) h' (KR Q) | none => den pg fn.ntmps kp (C [1, 1, 1]) env' h' (KR Q))) (KR Q)
def K1 (Q : QT) : KT := onExit 0 (K0 Q)
def K2 (Q : QT) : KT := left kp 3 (K1 Q)
def K3 (Q : QT) (R3 : T3) : KT := rnd ((kp.find 1000003).getD []) (E3 R3) (K2 Q)
def L3 (Q : QT) (x0 x3 : List Nat) (a6 : Pt) (n6 c6 : Nat) (e6 : Bool) (x7 x8 : Int) (h : AHeap) : Prop := Loop (Den pg fn.ntmps (C [1, 1, 0, 1, 0, 0])) ((kp.find 1000003).getD []) (K2 Q) [(0, .str x0), (3, .str x3), (6, .slice a6 n6 c6 e6), (7, .int .i64 x7), (8, .int .i64 x8)] h
def J7 (Q : QT) (R3 : T3) (x8 x7 : Int) (a6 : Pt) (n6 c6 : Nat) (e6 : Bool) (x0 x3 : List Nat) (h : AHeap) : Prop := Den pg fn.ntmps (C [1, 1, 0, 1, 0, 0, 1, 1, 1]) [(8, .int .i64 x8), (7, .int .i64 x7), (6, .slice a6 n6 c6 e6), (0, .str x0), (3, .str x3)] h (K3 Q R3)
def A3x0 (Q : QT) (x3 : List Nat) (h : AHeap) : Prop := At (K1 Q) (.exit 0) [(3, .str x3)] h
def L3t (Q : QT) (R3 : T3) (x0 x3 : List Nat) (a6 : Pt) (n6 c6 : Nat) (e6 : Bool) (x7 x8 : Int) (h : AHeap) : Prop :=
 bcase (decide ((x8 : Int) < x7)) ((0 ≤ (x8 : Int) ∧ (x8 : Int) < (n6 : Nat)) ∧ (xSome a6 fun i_1 o_2 => xStr (hCell h (.ptr (some (i_1, o_2 + (Int.toNat x8) * 1)))) fun s_3 => SCall pg n_spec_CountVar [.str x0, .str s_3] h fun v_4 h_5 =>
 xInt .i64 (some v_4) fun x_6 => bcase (decide ((x_6 : Int) > 0)) (List.length x3 + List.length s_3 ≤ 9223372036854775807 ∧ (J7 Q R3 x8 x7 a6 n6 c6 e6 x0 (x3 ++ s_3) h_5)) (J7 Q R3 x8 x7 a6 n6 c6 e6 x0 x3 h_5))) (A3x0 Q x3 h)
theorem L3den (Q : QT) (R3 : T3) (x0 x3 : List Nat) (a6 : Pt) (n6 c6 : Nat) (e6 : Bool) (x7 x8 : Int) (h : AHeap) (ht : L3t Q R3 x0 x3 a6 n6 c6 e6 x7 x8 h) : Den pg fn.ntmps (C [1, 1, 0, 1, 0, 0]) [(0, .str x0), (3, .str x3), (6, .slice a6 n6 c6 e6), (7, .int .i64 x7), (8, .int .i64 x8)] h (K3 Q R3) :=
  den_Den (kp := kp) (@cast _ (den pg fn.ntmps kp (C [1, 1, 0, 1, 0, 0]) [(0, .str x0), (3, .str x3), (6, .slice a6 n6 c6 e6), (7, .int .i64 x7), (8, .int .i64 x8)] h (K3 Q R3)) (by kernel_rfl) ht)
theorem L3ind (Q : QT) (x0 : List Nat) (a6 : Pt) (n6 c6 : Nat) (e6 : Bool) (x7 : Int) {G : Type} (J : G → List Nat → Int → AHeap → Prop) (m : G → Nat)
 (hr : ∀ (g : G) (x3 : List Nat) (x8 : Int) (h : AHeap), J g x3 x8 h → ∀ (R3 : T3), (∀ g' (x3 : List Nat) (x8 : Int) (h : AHeap), m g' < m g → J g' x3 x8 h → R3 x0 x3 a6 n6 c6 e6 x7 x8 h) → L3t Q R3 x0 x3 a6 n6 c6 e6 x7 x8 h)
 (g : G) (x3 : List Nat) (x8 : Int) (h : AHeap) (hj : J g x3 x8 h) : L3 Q x0 x3 a6 n6 c6 e6 x7 x8 h := by
  refine Loop.inv2 (fun g => E3 fun x0' x3 a6' n6' c6' e6' x7' x8 h => x0 = x0' ∧ a6 = a6' ∧ n6 = n6' ∧ c6 = c6' ∧ e6 = e6' ∧ x7 = x7' ∧ J g x3 x8 h) (fun g => E3 fun x0' x3 a6' n6' c6' e6' x7' x8 h => x0 = x0' ∧ a6 = a6' ∧ n6 = n6' ∧ c6 = c6' ∧ e6 = e6' ∧ x7 = x7' ∧ ∃ g', m g' < m g ∧ J g' x3 x8 h) m ?_ ?_ g ⟨rfl, rfl, rfl, rfl, rfl, rfl, hj⟩
  · intro g env h hi
    obtain ⟨x0', x3, a6', n6', c6', e6', x7', x8, rfl, rfl, rfl, rfl, rfl, rfl, rfl, hj⟩ := E3elim hi
    exact L3den Q (fun x0' x3 a6' n6' c6' e6' x7' x8 h => x0 = x0' ∧ a6 = a6' ∧ n6 = n6' ∧ c6 = c6' ∧ e6 = e6' ∧ x7 = x7' ∧ ∃ g', m g' < m g ∧ J g' x3 x8 h) x0 x3 a6 n6 c6 e6 x7 x8 h (hr g x3 x8 h hj (fun x0' x3 a6' n6' c6' e6' x7' x8 h => x0 = x0' ∧ a6 = a6' ∧ n6 = n6' ∧ c6 = c6' ∧ e6 = e6' ∧ x7 = x7' ∧ ∃ g', m g' < m g ∧ J g' x3 x8 h) fun g' x3 x8 h hlt hj => ⟨rfl, rfl, rfl, rfl, rfl, rfl, g', hlt, hj⟩)
  · intro g env h hi
    obtain ⟨x0', x3, a6', n6', c6', e6', x7', x8, rfl, rfl, rfl, rfl, rfl, rfl, rfl, g', hlt, hj⟩ := E3elim hi
    exact ⟨g', hlt, rfl, rfl, rfl, rfl, rfl, rfl, hj⟩
theorem J7i (Q : QT) (R3 : T3) (x8 x7 : Int) (a6 : Pt) (n6 c6 : Nat) (e6 : Bool) (x0 x3 : List Nat) (h : AHeap) (ht :
 R3 x0 x3 a6 n6 c6 e6 x7 (IntKind.wrap .i64 (x8 + 1)) h) : J7 Q R3 x8 x7 a6 n6 c6 e6 x0 x3 h :=
  den_Den (kp := kp) (@cast _ (den pg fn.ntmps kp (C [1, 1, 0, 1, 0, 0, 1, 1, 1]) [(8, .int .i64 x8), (7, .int .i64 x7), (6, .slice a6 n6 c6 e6), (0, .str x0), (3, .str x3)] h (K3 Q R3)) (by kernel_rfl) ht)
theorem A3x0i (Q : QT) (x3 : List Nat) (h : AHeap) (ht :
 Q (.str x3) h) : A3x0 Q x3 h :=
  At.mk (@cast _ ((K1 Q) (.exit 0) [(3, .str x3)] h) (by kernel_rfl) ht)
theorem call (x0 : List Nat) (h : AHeap) (Q : QT) (ht :
 letH (h ++ [.cells t_string [.str [88], .str [89], .str [90], .str [120], .str [121], .str [122]] false]) fun h_0 => L3 Q x0 [] (some (List.length h, 0)) 6 6 true (((6 : Nat) : Int)) 0 h_0) : SCall pg n_spec_VarsOf [.str x0] h Q :=
  SCall.of_body kp (c := cod fn) (fn := fn) Go.Proofs.Tryz.func97 (by kernel_rfl) (by kernel_rfl) (Nat.le_of_ble_eq_true (by kernel_rfl))
    (@cast _ (den pg fn.ntmps kp (cod fn) (Env.args 0 [.str x0]) h (KR Q)) (by kernel_rfl) ht)
end F_spec_VarsOf
/-! Function loop.example/instancesearch/spec.l3Within -/
namespace F_spec_l3Within
noncomputable abbrev fn : Func := Go.Proofs.Tryz.f96
def kp : Keeps := [(3000002, [4]), (1000002, [0, 1, 7, 8])]
noncomputable def C (p : List Nat) : Code := (cod fn).sub p
def KR (Q : QT) : KT := retA pg fn.results.toList Q
abbrev T2 := List Nat → List Nat → Int → Int → AHeap → Prop
def E2 (R2 : T2) (env : Env) (h : AHeap) : Prop := eVal 0 env fun v env => xStr (some v) fun x0 => eVal 1 env fun v env => xStr (some v) fun x1 => eVal 7 env fun v env => eInt .i64 v fun x7 => eVal 8 env fun v env => eInt .i64 v fun x8 => eNil env (R2 x0 x1 x7 x8 h)
theorem E2elim {R2 : T2} {env : Env} {h : AHeap} (hi : E2 R2 env h) : ∃ x0, ∃ x1, ∃ x7, ∃ x8, env = [(0, .str x0), (1, .str x1), (7, .int .i64 x7), (8, .int .i64 x8)] ∧ R2 x0 x1 x7 x8 h := by
  unfold E2 at hi
  have hi0 := hi
  clear hi
  obtain ⟨v, env, rfl, hi1⟩ := eVal_elim hi0
  obtain ⟨x0, rfl, hi2⟩ := xStr_elim hi1
  obtain ⟨v, env, rfl, hi3⟩ := eVal_elim hi2
  obtain ⟨x1, rfl, hi4⟩ := xStr_elim hi3
  obtain ⟨v, env, rfl, hi5⟩ := eVal_elim hi4
  obtain ⟨x7, rfl, hi6⟩ := eInt_elim hi5
  obtain ⟨v, env, rfl, hi7⟩ := eVal_elim hi6
  obtain ⟨x8, rfl, hi8⟩ := eInt_elim hi7
  obtain ⟨rfl, hi9⟩ := eNil_elim hi8
  have hi := hi9
  exact ⟨x0, x1, x7, x8, rfl, hi⟩
def K0 (Q : QT) : KT := andThen (fun env' h' => (match kp.find 4000007 with | some ks => Den pg fn.ntmps (C [1, 1]) (env'.keep ks) h' (KR Q) | none => den pg fn.ntmps kp (C [1, 1]) env' h' (KR Q))) (KR Q)
def K1 (Q : QT) : KT := onExit 0 (K0 Q)
def K2 (Q : QT) : KT := left kp 2 (K1 Q)
def K3 (Q : QT) (R2 : T2) : KT := rnd ((kp.find 1000002).getD []) (E2 R2) (K2 Q)
def L2 (Q : QT) (x0 x1 : List Nat) (x7 x8 : Int) (h : AHeap) : Prop := Loop (Den pg fn.ntmps (C [1, 0, 1, 0, 0])) ((kp.find 1000002).getD []) (K2 Q) [(0, .str x0), (1, .str x1), (7, .int .i64 x7), (8, .int .i64 x8)] h
def A2x0 (Q : QT) (h : AHeap) : Prop := At (K1 Q) (.exit 0) [(4, .undef)] h
def L2t (Q : QT) (R2 : T2) (x0 x1 : List Nat) (x7 x8 : Int) (h : AHeap) : Prop :=
 bcase (decide ((x8 : Int) < x7)) (byteAt x0 x8 fun b_0 => SCall pg n_spec_l13Find [.str x1, .int .u8 (((b_0 : Nat) : Int))] h fun v_1 h_2 =>
 xInt .i64 (some v_1) fun x_3 => bcase (decide ((x_3 : Int) < 0)) (Q (.bool false) h_2) (R2 x0 x1 x7 (IntKind.wrap .i64 (x8 + 1)) h_2)) (A2x0 Q h)
theorem L2den (Q : QT) (R2 : T2) (x0 x1 : List Nat) (x7 x8 : Int) (h : AHeap) (ht : L2t Q R2 x0 x1 x7 x8 h) : Den pg fn.ntmps (C [1, 0, 1, 0, 0]) [(0, .str x0), (1, .str x1), (7, .int .i64 x7), (8, .int .i64 x8)] h (K3 Q R2) :=
  den_Den (kp := kp) (@cast _ (den pg fn.ntmps kp (C [1, 0, 1, 0, 0]) [(0, .str x0), (1, .str x1), (7, .int .i64 x7), (8, .int .i64 x8)] h (K3 Q R2)) (by kernel_rfl) ht)
theorem L2ind (Q : QT) (x0 x1 : List Nat) (x7 : Int) {G : Type} (J : G → Int → AHeap → Prop) (m : G → Nat)
 (hr : ∀ (g : G) (x8 : Int) (h : AHeap), J g x8 h → ∀ (R2 : T2), (∀ g' (x8 : Int) (h : AHeap), m g' < m g → J g' x8 h → R2 x0 x1 x7 x8 h) → L2t Q R2 x0 x1 x7 x8 h)
 (g : G) (x8 : Int) (h : AHeap) (hj : J g x8 h) : L2 Q x0 x1 x7 x8 h := by
  refine Loop.inv2 (fun g => E2 fun x0' x1' x7' x8 h => x0 = x0' ∧ x1 = x1' ∧ x7 = x7' ∧ J g x8 h) (fun g => E2 fun x0' x1' x7' x8 h => x0 = x0' ∧ x1 = x1' ∧ x7 = x7' ∧ ∃ g', m g' < m g ∧ J g' x8 h) m ?_ ?_ g ⟨rfl, rfl, rfl, hj⟩
  · intro g env h hi
    obtain ⟨x0', x1', x7', x8, rfl, rfl, rfl, rfl, hj⟩ := E2elim hi
    exact L2den Q (fun x0' x1' x7' x8 h => x0 = x0' ∧ x1 = x1' ∧ x7 = x7' ∧ ∃ g', m g' < m g ∧ J g' x8 h) x0 x1 x7 x8 h (hr g x8 h hj (fun x0' x1' x7' x8 h => x0 = x0' ∧ x1 = x1' ∧ x7 = x7' ∧ ∃ g', m g' < m g ∧ J g' x8 h) fun g' x8 h hlt hj => ⟨rfl, rfl, rfl, g', hlt, hj⟩)
  · intro g env h hi
    obtain ⟨x0', x1', x7', x8, rfl, rfl, rfl, rfl, g', hlt, hj⟩ := E2elim hi
    exact ⟨g', hlt, rfl, rfl, rfl, hj⟩
theorem A2x0i (Q : QT) (h : AHeap) (ht :
 Q (.bool true) h) : A2x0 Q h :=
  At.mk (@cast _ ((K1 Q) (.exit 0) [(4, .undef)] h) (by kernel_rfl) ht)
theorem call (x0 x1 : List Nat) (h : AHeap) (Q : QT) (ht :
 L2 Q x0 x1 (((List.length x0 : Nat) : Int)) 0 h) : SCall pg n_spec_l3Within [.str x0, .str x1] h Q :=
  SCall.of_body kp (c := cod fn) (fn := fn) Go.Proofs.Tryz.func96 (by kernel_rfl) (by kernel_rfl) (Nat.le_of_ble_eq_true (by kernel_rfl))
    (@cast _ (den pg fn.ntmps kp (cod fn) (Env.args 0 [.str x0, .str x1]) h (KR Q)) (by kernel_rfl) ht)
end F_spec_l3Within
/-! Function loop.example/instancesearch/impl.InstanceValid -/
namespace F_impl_InstanceValid
noncomputable abbrev fn : Func := Go.Proofs.Tryz.f65
def kp : Keeps := [(4000003, [3, 2]), (3000004, [4]), (1000004, [2, 3, 48, 49, 50]), (4000008, [6, 2, 3, 48, 49, 50]), (3000009, [50, 49, 48, 2, 3, 4]), (1000009, [2, 3, 48, 49, 50, 74, 75, 76]), (4000014, [50, 49, 48, 2, 3])]
noncomputable def C (p : List Nat) : Code := (cod fn).sub p
def KR (Q : QT) : KT := retA pg fn.results.toList Q
abbrev T4 := Nat → Nat → Nat → Nat → Pt → Nat → Nat → Bool → Int → Int → AHeap → Prop
def E4 (R4 : T4) (env : Env) (h : AHeap) : Prop := eVal 2 env fun v env => xPtr (some v) fun a => xSome a fun i2 o2 => eVal 3 env fun v env => xPtr (some v) fun a => xSome a fun i3 o3 => eVal 48 env fun v env => xSl (some v) fun a48 n48 c48 e48 => eVal 49 env fun v env => eInt .i64 v fun x49 => eVal 50 env fun v env => eInt .i64 v fun x50 => eNil env (R4 i2 o2 i3 o3 a48 n48 c48 e48 x49 x50 h)
theorem E4elim {R4 : T4} {env : Env} {h : AHeap} (hi : E4 R4 env h) : ∃ i2, ∃ o2, ∃ i3, ∃ o3, ∃ a48, ∃ n48, ∃ c48, ∃ e48, ∃ x49, ∃ x50, env = [(2, .ptr (some (i2, o2))), (3, .ptr (some (i3, o3))), (48, .slice a48 n48 c48 e48), (49, .int .i64 x49), (50, .int .i64 x50)] ∧ R4 i2 o2 i3 o3 a48 n48 c48 e48 x49 x50 h := by
  unfold E4 at hi
  have hi0 := hi
  clear hi
  obtain ⟨v, env, rfl, hi1⟩ := eVal_elim hi0
  obtain ⟨a, rfl, hi2⟩ := xPtr_elim hi1
  obtain ⟨i2, o2, rfl, hi3⟩ := xSome_elim hi2
  obtain ⟨v, env, rfl, hi4⟩ := eVal_elim hi3
  obtain ⟨a, rfl, hi5⟩ := xPtr_elim hi4
  obtain ⟨i3, o3, rfl, hi6⟩ := xSome_elim hi5
  obtain ⟨v, env, rfl, hi7⟩ := eVal_elim hi6
  obtain ⟨a48, n48, c48, e48, rfl, hi8⟩ := xSl_elim hi7
  obtain ⟨v, env, rfl, hi9⟩ := eVal_elim hi8
  obtain ⟨x49, rfl, hi10⟩ := eInt_elim hi9
  obtain ⟨v, env, rfl, hi11⟩ := eVal_elim hi10
  obtain ⟨x50, rfl, hi12⟩ := eInt_elim hi11
  obtain ⟨rfl, hi13⟩ := eNil_elim hi12
  have hi := hi13
  exact ⟨i2, o2, i3, o3, a48, n48, c48, e48, x49, x50, rfl, hi⟩
abbrev T9 := Nat → Nat → Nat → Nat → Pt → Nat → Nat → Bool → Int → Int → Pt → Nat → Nat → Bool → Int → Int → AHeap → Prop
def E9 (R9 : T9) (env : Env) (h : AHeap) : Prop := eVal 2 env fun v env => xPtr (some v) fun a => xSome a fun i2 o2 => eVal 3 env fun v env => xPtr (some v) fun a => xSome a fun i3 o3 => eVal 48 env fun v env => xSl (some v) fun a48 n48 c48 e48 => eVal 49 env fun v env => eInt .i64 v fun x49 => eVal 50 env fun v env => eInt .i64 v fun x50 => eVal 74 env fun v env => xSl (some v) fun a74 n74 c74 e74 => eVal 75 env fun v env => eInt .i64 v fun x75 => eVal 76 env fun v env => eInt .i64 v fun x76 => eNil env (R9 i2 o2 i3 o3 a48 n48 c48 e48 x49 x50 a74 n74 c74 e74 x75 x76 h)
theorem E9elim {R9 : T9} {env : Env} {h : AHeap} (hi : E9 R9 env h) : ∃ i2, ∃ o2, ∃ i3, ∃ o3, ∃ a48, ∃ n48, ∃ c48, ∃ e48, ∃ x49, ∃ x50, ∃ a74, ∃ n74, ∃ c74, ∃ e74, ∃ x75, ∃ x76, env = [(2, .ptr (some (i2, o2))), (3, .ptr (some (i3, o3))), (48, .slice a48 n48 c48 e48), (49, .int .i64 x49), (50, .int .i64 x50), (74, .slice a74 n74 c74 e74), (75, .int .i64 x75), (76, .int .i64 x76)] ∧ R9 i2 o2 i3 o3 a48 n48 c48 e48 x49 x50 a74 n74 c74 e74 x75 x76 h := by
  unfold E9 at hi
  have hi0 := hi
  clear hi
  obtain ⟨v, env, rfl, hi1⟩ := eVal_elim hi0
  obtain ⟨a, rfl, hi2⟩ := xPtr_elim hi1
  obtain ⟨i2, o2, rfl, hi3⟩ := xSome_elim hi2
  obtain ⟨v, env, rfl, hi4⟩ := eVal_elim hi3
  obtain ⟨a, rfl, hi5⟩ := xPtr_elim hi4
  obtain ⟨i3, o3, rfl, hi6⟩ := xSome_elim hi5
  obtain ⟨v, env, rfl, hi7⟩ := eVal_elim hi6
  obtain ⟨a48, n48, c48, e48, rfl, hi8⟩ := xSl_elim hi7
  obtain ⟨v, env, rfl, hi9⟩ := eVal_elim hi8
  obtain ⟨x49, rfl, hi10⟩ := eInt_elim hi9
  obtain ⟨v, env, rfl, hi11⟩ := eVal_elim hi10
  obtain ⟨x50, rfl, hi12⟩ := eInt_elim hi11
  obtain ⟨v, env, rfl, hi13⟩ := eVal_elim hi12
  obtain ⟨a74, n74, c74, e74, rfl, hi14⟩ := xSl_elim hi13
  obtain ⟨v, env, rfl, hi15⟩ := eVal_elim hi14
  obtain ⟨x75, rfl, hi16⟩ := eInt_elim hi15
  obtain ⟨v, env, rfl, hi17⟩ := eVal_elim hi16
  obtain ⟨x76, rfl, hi18⟩ := eInt_elim hi17
  obtain ⟨rfl, hi19⟩ := eNil_elim hi18
  have hi := hi19
  exact ⟨i2, o2, i3, o3, a48, n48, c48, e48, x49, x50, a74, n74, c74, e74, x75, x76, rfl, hi⟩
def K0 (Q : QT) : KT := andThen (fun env' h' => (match kp.find 4000015 with | some ks => Den pg fn.ntmps (C [1, 1, 1]) (env'.keep ks) h' (KR Q) | none => den pg fn.ntmps kp (C [1, 1, 1]) env' h' (KR Q))) (KR Q)
def K1 (Q : QT) : KT := onExit 0 (K0 Q)
def K2 (Q : QT) : KT := left kp 4 (K1 Q)
def K3 (Q : QT) (R4 : T4) : KT := rnd ((kp.find 1000004).getD []) (E4 R4) (K2 Q)
def K4 (Q : QT) (R4 : T4) : KT := andThen (fun env' h' => (match kp.find 4000014 with | some ks => Den pg fn.ntmps (C [1, 1, 0, 1, 0, 0, 1, 1, 1]) (env'.keep ks) h' (K3 Q R4) | none => den pg fn.ntmps kp (C [1, 1, 0, 1, 0, 0, 1, 1, 1]) env' h' (K3 Q R4))) (K3 Q R4)
def K5 (Q : QT) (R4 : T4) : KT := onExit 1 (K4 Q R4)
def K6 (Q : QT) (R4 : T4) : KT := onExit 2 (K5 Q R4)
def K7 (Q : QT) (R4 : T4) : KT := left kp 9 (K6 Q R4)
def K8 (Q : QT) (R4 : T4) (R9 : T9) : KT := rnd ((kp.find 1000009).getD []) (E9 R9) (K7 Q R4)
def J3 (Q : QT) (i3 o3 i2 o2 : Nat) (h : AHeap) : Prop := Den pg fn.ntmps (C [1, 1]) [(3, .ptr (some (i3, o3))), (2, .ptr (some (i2, o2)))] h (KR Q)
def L4 (Q : QT) (i2 o2 i3 o3 : Nat) (a48 : Pt) (n48 c48 : Nat) (e48 : Bool) (x49 x50 : Int) (h : AHeap) : Prop := Loop (Den pg fn.ntmps (C [1, 1, 0, 1, 0, 0])) ((kp.find 1000004).getD []) (K2 Q) [(2, .ptr (some (i2, o2))), (3, .ptr (some (i3, o3))), (48, .slice a48 n48 c48 e48), (49, .int .i64 x49), (50, .int .i64 x50)] h
def J8 (Q : QT) (R4 : T4) (i6 o6 i2 o2 i3 o3 : Nat) (a48 : Pt) (n48 c48 : Nat) (e48 : Bool) (x49 x50 : Int) (h : AHeap) : Prop := Den pg fn.ntmps (C [1, 1, 0, 1, 0, 0, 1, 1, 0, 0, 1, 1]) [(6, .ptr (some (i6, o6))), (2, .ptr (some (i2, o2))), (3, .ptr (some (i3, o3))), (48, .slice a48 n48 c48 e48), (49, .int .i64 x49), (50, .int .i64 x50)] h (K5 Q R4)
def A4x0 (Q : QT) (h : AHeap) : Prop := At (K1 Q) (.exit 0) [(4, .undef)] h
def L9 (Q : QT) (R4 : T4) (i2 o2 i3 o3 : Nat) (a48 : Pt) (n48 c48 : Nat) (e48 : Bool) (x49 x50 : Int) (a74 : Pt) (n74 c74 : Nat) (e74 : Bool) (x75 x76 : Int) (h : AHeap) : Prop := Loop (Den pg fn.ntmps (C [1, 1, 0, 1, 0, 0, 1, 1, 0, 0, 1, 1, 1, 0, 0])) ((kp.find 1000009).getD []) (K7 Q R4) [(2, .ptr (some (i2, o2))), (3, .ptr (some (i3, o3))), (48, .slice a48 n48 c48 e48), (49, .int .i64 x49), (50, .int .i64 x50), (74, .slice a74 n74 c74 e74), (75, .int .i64 x75), (76, .int .i64 x76)] h
def A9x2 (Q : QT) (R4 : T4) (x50 x49 : Int) (a48 : Pt) (n48 c48 : Nat) (e48 : Bool) (i2 o2 i3 o3 : Nat) (h : AHeap) : Prop := At (K6 Q R4) (.exit 2) [(50, .int .i64 x50), (49, .int .i64 x49), (48, .slice a48 n48 c48 e48), (2, .ptr (some (i2, o2))), (3, .ptr (some (i3, o3))), (4, .undef)] h
def J14 (Q : QT) (R4 : T4) (x50 x49 : Int) (a48 : Pt) (n48 c48 : Nat) (e48 : Bool) (i2 o2 i3 o3 : Nat) (h : AHeap) : Prop := Den pg fn.ntmps (C [1, 1, 0, 1, 0, 0, 1, 1, 1]) [(50, .int .i64 x50), (49, .int .i64 x49), (48, .slice a48 n48 c48 e48), (2, .ptr (some (i2, o2))), (3, .ptr (some (i3, o3)))] h (K3 Q R4)
theorem J3i (Q : QT) (i3 o3 i2 o2 : Nat) (h : AHeap) (ht :
 xSl (hCell h (.ptr (some (i3, o3 + 2)))) fun a_39 n_40 c_41 e_42 => L4 Q i2 o2 i3 o3 a_39 n_40 c_41 e_42 (((n_40 : Nat) : Int)) 0 h) : J3 Q i3 o3 i2 o2 h :=
  den_Den (kp := kp) (@cast _ (den pg fn.ntmps kp (C [1, 1]) [(3, .ptr (some (i3, o3))), (2, .ptr (some (i2, o2)))] h (KR Q)) (by kernel_rfl) ht)
def L4t (Q : QT) (R4 : T4) (i2 o2 i3 o3 : Nat) (a48 : Pt) (n48 c48 : Nat) (e48 : Bool) (x49 x50 : Int) (h : AHeap) : Prop :=
 bcase (decide ((x50 : Int) < x49)) ((0 ≤ (x50 : Int) ∧ (x50 : Int) < (n48 : Nat)) ∧ (xSome a48 fun i_43 o_44 => xRow (hRow h (.ptr (some (i_43, o_44 + (Int.toNat x50) * 2))) 2) fun cs_45 => xCons cs_45 fun c_46 r_47 => xStr (some c_46) fun s_48 => xCons r_47 fun c_49 r_50 => xStr (some c_49) fun s_51 => xNil r_50 (letH (h ++ [.cells t_impl_Need [.str [], .str []] false]) fun h_52 => xHeap (hStore h_52 (.ptr (some (List.length h, 0))) [.str s_48, .str s_51]) fun h_53 => xSl (hCell h_53 (.ptr (some (i2, o2 + 0)))) fun a_54 n_55 c_56 e_57 => xStr (hCell h_53 (.ptr (some (List.length h, 0 + 0)))) fun s_58 => SCall pg n_impl_known [.slice a_54 n_55 c_56 e_57, .str s_58] h_53 fun v_59 h_60 =>
 xBool (some v_59) fun b_61 => bcase (!b_61) (Q (.bool false) h_60) (xStr (hCell h_60 (.ptr (some (List.length h, 0 + 1)))) fun s_62 => SCall pg n_impl_TypeValid [.str s_62] h_60 fun v_63 h_64 =>
 xBool (some v_63) fun b_65 => bcase (!b_65) (Q (.bool false) h_64) (xStr (hCell h_64 (.ptr (some (List.length h, 0 + 1)))) fun s_66 => bcase (decide (((((List.length s_66 : Nat) : Int)) : Int) > 20)) (Q (.bool false) h_64) (J8 Q R4 (List.length h) 0 i2 o2 i3 o3 a48 n48 c48 e48 x49 x50 h_64)))))) (A4x0 Q h)
theorem L4den (Q : QT) (R4 : T4) (i2 o2 i3 o3 : Nat) (a48 : Pt) (n48 c48 : Nat) (e48 : Bool) (x49 x50 : Int) (h : AHeap) (ht : L4t Q R4 i2 o2 i3 o3 a48 n48 c48 e48 x49 x50 h) : Den pg fn.ntmps (C [1, 1, 0, 1, 0, 0]) [(2, .ptr (some (i2, o2))), (3, .ptr (some (i3, o3))), (48, .slice a48 n48 c48 e48), (49, .int .i64 x49), (50, .int .i64 x50)] h (K3 Q R4) :=
  den_Den (kp := kp) (@cast _ (den pg fn.ntmps kp (C [1, 1, 0, 1, 0, 0]) [(2, .ptr (some (i2, o2))), (3, .ptr (some (i3, o3))), (48, .slice a48 n48 c48 e48), (49, .int .i64 x49), (50, .int .i64 x50)] h (K3 Q R4)) (by kernel_rfl) ht)
theorem L4ind (Q : QT) (i2 o2 i3 o3 : Nat) (a48 : Pt) (n48 c48 : Nat) (e48 : Bool) (x49 : Int) {G : Type} (J : G → Int → AHeap → Prop) (m : G → Nat)
 (hr : ∀ (g : G) (x50 : Int) (h : AHeap), J g x50 h → ∀ (R4 : T4), (∀ g' (x50 : Int) (h : AHeap), m g' < m g → J g' x50 h → R4 i2 o2 i3 o3 a48 n48 c48 e48 x49 x50 h) → L4t Q R4 i2 o2 i3 o3 a48 n48 c48 e48 x49 x50 h)
 (g : G) (x50 : Int) (h : AHeap) (hj : J g x50 h) : L4 Q i2 o2 i3 o3 a48 n48 c48 e48 x49 x50 h := by
  refine Loop.inv2 (fun g => E4 fun i2' o2' i3' o3' a48' n48' c48' e48' x49' x50 h => i2 = i2' ∧ o2 = o2' ∧ i3 = i3' ∧ o3 = o3' ∧ a48 = a48' ∧ n48 = n48' ∧ c48 = c48' ∧ e48 = e48' ∧ x49 = x49' ∧ J g x50 h) (fun g => E4 fun i2' o2' i3' o3' a48' n48' c48' e48' x49' x50 h => i2 = i2' ∧ o2 = o2' ∧ i3 = i3' ∧ o3 = o3' ∧ a48 = a48' ∧ n48 = n48' ∧ c48 = c48' ∧ e48 = e48' ∧ x49 = x49' ∧ ∃ g', m g' < m g ∧ J g' x50 h) m ?_ ?_ g ⟨rfl, rfl, rfl, rfl, rfl, rfl, rfl, rfl, rfl, hj⟩
  · intro g env h hi
    obtain ⟨i2', o2', i3', o3', a48', n48', c48', e48', x49', x50, rfl, rfl, rfl, rfl, rfl, rfl, rfl, rfl, rfl, rfl, hj⟩ := E4elim hi
    exact L4den Q (fun i2' o2' i3' o3' a48' n48' c48' e48' x49' x50 h => i2 = i2' ∧ o2 = o2' ∧ i3 = i3' ∧ o3 = o3' ∧ a48 = a48' ∧ n48 = n48' ∧ c48 = c48' ∧ e48 = e48' ∧ x49 = x49' ∧ ∃ g', m g' < m g ∧ J g' x50 h) i2 o2 i3 o3 a48 n48 c48 e48 x49 x50 h (hr g x50 h hj (fun i2' o2' i3' o3' a48' n48' c48' e48' x49' x50 h => i2 = i2' ∧ o2 = o2' ∧ i3 = i3' ∧ o3 = o3' ∧ a48 = a48' ∧ n48 = n48' ∧ c48 = c48' ∧ e48 = e48' ∧ x49 = x49' ∧ ∃ g', m g' < m g ∧ J g' x50 h) fun g' x50 h hlt hj => ⟨rfl, rfl, rfl, rfl, rfl, rfl, rfl, rfl, rfl, g', hlt, hj⟩)
  · intro g env h hi
    obtain ⟨i2', o2', i3', o3', a48', n48', c48', e48', x49', x50, rfl, rfl, rfl, rfl, rfl, rfl, rfl, rfl, rfl, rfl, g', hlt, hj⟩ := E4elim hi
    exact ⟨g', hlt, rfl, rfl, rfl, rfl, rfl, rfl, rfl, rfl, rfl, hj⟩
theorem J8i (Q : QT) (R4 : T4) (i6 o6 i2 o2 i3 o3 : Nat) (a48 : Pt) (n48 c48 : Nat) (e48 : Bool) (x49 x50 : Int) (h : AHeap) (ht :
 xStr (hCell h (.ptr (some (i6, o6 + 1)))) fun s_67 => SCall pg n_impl_vars [.str s_67] h fun v_68 h_69 =>
 xSl (some v_68) fun a_70 n_71 c_72 e_73 => L9 Q R4 i2 o2 i3 o3 a48 n48 c48 e48 x49 x50 a_70 n_71 c_72 e_73 (((n_71 : Nat) : Int)) 0 h_69) : J8 Q R4 i6 o6 i2 o2 i3 o3 a48 n48 c48 e48 x49 x50 h :=
  den_Den (kp := kp) (@cast _ (den pg fn.ntmps kp (C [1, 1, 0, 1, 0, 0, 1, 1, 0, 0, 1, 1]) [(6, .ptr (some (i6, o6))), (2, .ptr (some (i2, o2))), (3, .ptr (some (i3, o3))), (48, .slice a48 n48 c48 e48), (49, .int .i64 x49), (50, .int .i64 x50)] h (K5 Q R4)) (by kernel_rfl) ht)
theorem A4x0i (Q : QT) (h : AHeap) (ht :
 Q (.bool true) h) : A4x0 Q h :=
  At.mk (@cast _ ((K1 Q) (.exit 0) [(4, .undef)] h) (by kernel_rfl) ht)
def L9t (Q : QT) (R4 : T4) (R9 : T9) (i2 o2 i3 o3 : Nat) (a48 : Pt) (n48 c48 : Nat) (e48 : Bool) (x49 x50 : Int) (a74 : Pt) (n74 c74 : Nat) (e74 : Bool) (x75 x76 : Int) (h : AHeap) : Prop :=
 bcase (decide ((x76 : Int) < x75)) ((0 ≤ (x76 : Int) ∧ (x76 : Int) < (n74 : Nat)) ∧ (xSome a74 fun i_74 o_75 => xStr (hCell h (.ptr (some (i_74, o_75 + (Int.toNat x76) * 1)))) fun s_76 => xStr (hCell h (.ptr (some (i3, o3 + 0 + 1)))) fun s_77 => SCall pg n_strings_Contains [.str s_77, .str s_76] h fun v_78 h_79 =>
 xBool (some v_78) fun b_80 => bcase (!b_80) (Q (.bool false) h_79) (R9 i2 o2 i3 o3 a48 n48 c48 e48 x49 x50 a74 n74 c74 e74 x75 (IntKind.wrap .i64 (x76 + 1)) h_79))) (A9x2 Q R4 x50 x49 a48 n48 c48 e48 i2 o2 i3 o3 h)
theorem L9den (Q : QT) (R4 : T4) (R9 : T9) (i2 o2 i3 o3 : Nat) (a48 : Pt) (n48 c48 : Nat) (e48 : Bool) (x49 x50 : Int) (a74 : Pt) (n74 c74 : Nat) (e74 : Bool) (x75 x76 : Int) (h : AHeap) (ht : L9t Q R4 R9 i2 o2 i3 o3 a48 n48 c48 e48 x49 x50 a74 n74 c74 e74 x75 x76 h) : Den pg fn.ntmps (C [1, 1, 0, 1, 0, 0, 1, 1, 0, 0, 1, 1, 1, 0, 0]) [(2, .ptr (some (i2, o2))), (3, .ptr (some (i3, o3))), (48, .slice a48 n48 c48 e48), (49, .int .i64 x49), (50, .int .i64 x50), (74, .slice a74 n74 c74 e74), (75, .int .i64 x75), (76, .int .i64 x76)] h (K8 Q R4 R9) :=
  den_Den (kp := kp) (@cast _ (den pg fn.ntmps kp (C [1, 1, 0, 1, 0, 0, 1, 1, 0, 0, 1, 1, 1, 0, 0]) [(2, .ptr (some (i2, o2))), (3, .ptr (some (i3, o3))), (48, .slice a48 n48 c48 e48), (49, .int .i64 x49), (50, .int .i64 x50), (74, .slice a74 n74 c74 e74), (75, .int .i64 x75), (76, .int .i64 x76)] h (K8 Q R4 R9)) (by kernel_rfl) ht)
theorem L9ind (Q : QT) (R4 : T4) (i2 o2 i3 o3 : Nat) (a48 : Pt) (n48 c48 : Nat) (e48 : Bool) (x49 x50 : Int) (a74 : Pt) (n74 c74 : Nat) (e74 : Bool) (x75 : Int) {G : Type} (J : G → Int → AHeap → Prop) (m : G → Nat)
 (hr : ∀ (g : G) (x76 : Int) (h : AHeap), J g x76 h → ∀ (R9 : T9), (∀ g' (x76 : Int) (h : AHeap), m g' < m g → J g' x76 h → R9 i2 o2 i3 o3 a48 n48 c48 e48 x49 x50 a74 n74 c74 e74 x75 x76 h) → L9t Q R4 R9 i2 o2 i3 o3 a48 n48 c48 e48 x49 x50 a74 n74 c74 e74 x75 x76 h)
 (g : G) (x76 : Int) (h : AHeap) (hj : J g x76 h) : L9 Q R4 i2 o2 i3 o3 a48 n48 c48 e48 x49 x50 a74 n74 c74 e74 x75 x76 h := by
  refine Loop.inv2 (fun g => E9 fun i2' o2' i3' o3' a48' n48' c48' e48' x49' x50' a74' n74' c74' e74' x75' x76 h => i2 = i2' ∧ o2 = o2' ∧ i3 = i3' ∧ o3 = o3' ∧ a48 = a48' ∧ n48 = n48' ∧ c48 = c48' ∧ e48 = e48' ∧ x49 = x49' ∧ x50 = x50' ∧ a74 = a74' ∧ n74 = n74' ∧ c74 = c74' ∧ e74 = e74' ∧ x75 = x75' ∧ J g x76 h) (fun g => E9 fun i2' o2' i3' o3' a48' n48' c48' e48' x49' x50' a74' n74' c74' e74' x75' x76 h => i2 = i2' ∧ o2 = o2' ∧ i3 = i3' ∧ o3 = o3' ∧ a48 = a48' ∧ n48 = n48' ∧ c48 = c48' ∧ e48 = e48' ∧ x49 = x49' ∧ x50 = x50' ∧ a74 = a74' ∧ n74 = n74' ∧ c74 = c74' ∧ e74 = e74' ∧ x75 = x75' ∧ ∃ g', m g' < m g ∧ J g' x76 h) m ?_ ?_ g ⟨rfl, rfl, rfl, rfl, rfl, rfl, rfl, rfl, rfl, rfl, rfl, rfl, rfl, rfl, rfl, hj⟩
  · intro g env h hi
    obtain ⟨i2', o2', i3', o3', a48', n48', c48', e48', x49', x50', a74', n74', c74', e74', x75', x76, rfl, rfl, rfl, rfl, rfl, rfl, rfl, rfl, rfl, rfl, rfl, rfl, rfl, rfl, rfl, rfl, hj⟩ := E9elim hi
    exact L9den Q R4 (fun i2' o2' i3' o3' a48' n48' c48' e48' x49' x50' a74' n74' c74' e74' x75' x76 h => i2 = i2' ∧ o2 = o2' ∧ i3 = i3' ∧ o3 = o3' ∧ a48 = a48' ∧ n48 = n48' ∧ c48 = c48' ∧ e48 = e48' ∧ x49 = x49' ∧ x50 = x50' ∧ a74 = a74' ∧ n74 = n74' ∧ c74 = c74' ∧ e74 = e74' ∧ x75 = x75' ∧ ∃ g', m g' < m g ∧ J g' x76 h) i2 o2 i3 o3 a48 n48 c48 e48 x49 x50 a74 n74 c74 e74 x75 x76 h (hr g x76 h hj (fun i2' o2' i3' o3' a48' n48' c48' e48' x49' x50' a74' n74' c74' e74' x75' x76 h => i2 = i2' ∧ o2 = o2' ∧ i3 = i3' ∧ o3 = o3' ∧ a48 = a48' ∧ n48 = n48' ∧ c48 = c48' ∧ e48 = e48' ∧ x49 = x49' ∧ x50 = x50' ∧ a74 = a74' ∧ n74 = n74' ∧ c74 = c74' ∧ e74 = e74' ∧ x75 = x75' ∧ ∃ g', m g' < m g ∧ J g' x76 h) fun g' x76 h hlt hj => ⟨rfl, rfl, rfl, rfl, rfl, rfl, rfl, rfl, rfl, rfl, rfl, rfl, rfl, rfl, rfl, g', hlt, hj⟩)
  · intro g env h hi
    obtain ⟨i2', o2', i3', o3', a48', n48', c48', e48', x49', x50', a74', n74', c74', e74', x75', x76, rfl, rfl, rfl, rfl, rfl, rfl, rfl, rfl, rfl, rfl, rfl, rfl, rfl, rfl, rfl, rfl, g', hlt, hj⟩ := E9elim hi
    exact ⟨g', hlt, rfl, rfl, rfl, rfl, rfl, rfl, rfl, rfl, rfl, rfl, rfl, rfl, rfl, rfl, rfl, hj⟩
theorem A9x2i (Q : QT) (R4 : T4) (x50 x49 : Int) (a48 : Pt) (n48 c48 : Nat) (e48 : Bool) (i2 o2 i3 o3 : Nat) (h : AHeap) (ht :
 J14 Q R4 x50 x49 a48 n48 c48 e48 i2 o2 i3 o3 h) : A9x2 Q R4 x50 x49 a48 n48 c48 e48 i2 o2 i3 o3 h :=
  At.mk (@cast _ ((K6 Q R4) (.exit 2) [(50, .int .i64 x50), (49, .int .i64 x49), (48, .slice a48 n48 c48 e48), (2, .ptr (some (i2, o2))), (3, .ptr (some (i3, o3))), (4, .undef)] h) (by kernel_rfl) ht)
theorem J14i (Q : QT) (R4 : T4) (x50 x49 : Int) (a48 : Pt) (n48 c48 : Nat) (e48 : Bool) (i2 o2 i3 o3 : Nat) (h : AHeap) (ht :
 R4 i2 o2 i3 o3 a48 n48 c48 e48 x49 (IntKind.wrap .i64 (x50 + 1)) h) : J14 Q R4 x50 x49 a48 n48 c48 e48 i2 o2 i3 o3 h :=
  den_Den (kp := kp) (@cast _ (den pg fn.ntmps kp (C [1, 1, 0, 1, 0, 0, 1, 1, 1]) [(50, .int .i64 x50), (49, .int .i64 x49), (48, .slice a48 n48 c48 e48), (2, .ptr (some (i2, o2))), (3, .ptr (some (i3, o3)))] h (K3 Q R4)) (by kernel_rfl) ht)
theorem call (a0x0 : Pt) (n0x0 c0x0 : Nat) (e0x0 : Bool) (a0x1 : Pt) (n0x1 c0x1 : Nat) (e0x1 : Bool) (x1x0 x1x1 : List Nat) (a1x2 : Pt) (n1x2 c1x2 : Nat) (e1x2 : Bool) (h : AHeap) (Q : QT) (ht :
 letH (h ++ [.cells t_impl_World [.slice a0x0 n0x0 c0x0 e0x0, .slice a0x1 n0x1 c0x1 e0x1] false]) fun h_0 => letH (h_0 ++ [.cells t_impl_Instance [.str x1x0, .str x1x1, .slice a1x2 n1x2 c1x2 e1x2] false]) fun h_1 => xRow (hRow h_1 (.ptr (some (List.length h, 0))) 2) fun cs_2 => xCons cs_2 fun c_3 r_4 => xSl (some c_3) fun a_5 n_6 c_7 e_8 => xCons r_4 fun c_9 r_10 => xSl (some c_9) fun a_11 n_12 c_13 e_14 => xNil r_10 (SCall pg n_impl_classesOk [.agg [.slice a_5 n_6 c_7 e_8, .slice a_11 n_12 c_13 e_14]] h_1 fun v_15 h_16 =>
 xBool (some v_15) fun b_17 => bcase (!b_17) (Q (.bool false) h_16) (xSl (hCell h_16 (.ptr (some (List.length h, 0 + 0)))) fun a_18 n_19 c_20 e_21 => xStr (hCell h_16 (.ptr (some (List.length h_0, 0 + 0 + 0)))) fun s_22 => SCall pg n_impl_known [.slice a_18 n_19 c_20 e_21, .str s_22] h_16 fun v_23 h_24 =>
 xBool (some v_23) fun b_25 => bcase (!b_25) (Q (.bool false) h_24) (xStr (hCell h_24 (.ptr (some (List.length h_0, 0 + 0 + 1)))) fun s_26 => SCall pg n_impl_TypeValid [.str s_26] h_24 fun v_27 h_28 =>
 xBool (some v_27) fun b_29 => bcase (!b_29) (Q (.bool false) h_28) (xStr (hCell h_28 (.ptr (some (List.length h_0, 0 + 0 + 1)))) fun s_30 => bcase (decide (((((List.length s_30 : Nat) : Int)) : Int) > 20)) (Q (.bool false) h_28) (xStr (hCell h_28 (.ptr (some (List.length h_0, 0 + 0 + 1)))) fun s_31 => SCall pg n_impl_isVar [.str s_31] h_28 fun v_32 h_33 =>
 xBool (some v_32) fun b_34 => bcase b_34 (Q (.bool false) h_33) (xSl (hCell h_33 (.ptr (some (List.length h_0, 0 + 2)))) fun a_35 n_36 c_37 e_38 => bcase (decide (((((n_36 : Nat) : Int)) : Int) > 3)) (Q (.bool false) h_33) (J3 Q (List.length h_0) 0 (List.length h) 0 h_33)))))))) : SCall pg n_impl_InstanceValid [.agg [.slice a0x0 n0x0 c0x0 e0x0, .slice a0x1 n0x1 c0x1 e0x1], .agg [.str x1x0, .str x1x1, .slice a1x2 n1x2 c1x2 e1x2]] h Q :=
  SCall.of_body kp (c := cod fn) (fn := fn) Go.Proofs.Tryz.func65 (by kernel_rfl) (by kernel_rfl) (Nat.le_of_ble_eq_true (by kernel_rfl))
    (@cast _ (den pg fn.ntmps kp (cod fn) (Env.args 0 [.agg [.slice a0x0 n0x0 c0x0 e0x0, .slice a0x1 n0x1 c0x1 e0x1], .agg [.str x1x0, .str x1x1, .slice a1x2 n1x2 c1x2 e1x2]]) h (KR Q)) (by kernel_rfl) ht)
end F_impl_InstanceValid
end Go.Sim
